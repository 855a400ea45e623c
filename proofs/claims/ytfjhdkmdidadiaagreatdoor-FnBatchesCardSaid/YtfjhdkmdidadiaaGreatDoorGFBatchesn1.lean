/- Further functions. -/
import Derived.Test.YtfjhdkmdidadiaaGreatDoorGFBatches
namespace Go.Proofs.YtfjhdkmdidadiaaGreatDoor
open Go Go.Z Go.Proofs Go.MuLone Go.ChangeShapes Go.WideShapes Go.ChangeAt Go.RowKit
set_option linter.unusedVariables false
set_option linter.unusedSimpArgs false
noncomputable def spec_l00Src_op.f (x0 : S_l00Src) : Option (S_Op × Int × Int) :=
  ((spec_l00Src_next.f x0 6).bind fun y_r4_1_1 => ((spec_l00Src_next.f (⟨x0.code, y_r4_1_1.2.1, y_r4_1_1.2.2⟩ : S_l00Src) 3).bind fun y_r4_5_1 => (if 0 ≤ y_r4_5_1.1 ∧ y_r4_5_1.1 < (3 : Int) then ((spec_l00Src_next.f (⟨x0.code, y_r4_5_1.2.1, y_r4_5_1.2.2⟩ : S_l00Src) 14).bind fun y_r4_9_1 => (((bif ((([2, 2, (w64 (1 + y_r4_1_1.1))]).getD (y_r4_5_1.1).toNat 0) == 1) then (some true) else (some ((([2, 2, (w64 (1 + y_r4_1_1.1))]).getD (y_r4_5_1.1).toNat 0) == 3))) : Option (Bool)).bind fun u11 => (((bif u11 then (some (y_r4_9_1.2.1, y_r4_9_1.2.2, 0)) else (((bif ((([2, 2, (w64 (1 + y_r4_1_1.1))]).getD (y_r4_5_1.1).toNat 0) == 6) then ((spec_l00Src_next.f (⟨x0.code, y_r4_9_1.2.1, y_r4_9_1.2.2⟩ : S_l00Src) 4).bind fun y36 => (some (y36.2.1, y36.2.2, (w64 (1 + y36.1))))) else (((bif ((([2, 2, (w64 (1 + y_r4_1_1.1))]).getD (y_r4_5_1.1).toNat 0) == 5) then ((spec_l00Src_next.f (⟨x0.code, y_r4_9_1.2.1, y_r4_9_1.2.2⟩ : S_l00Src) 5).bind fun y48 => ((spec_l00Src_next.f (⟨x0.code, y48.2.1, y48.2.2⟩ : S_l00Src) 9).bind fun y53 => (if 0 ≤ (IntKind.wrap .i64 (Int.tdiv y53.1 8)) ∧ (IntKind.wrap .i64 (Int.tdiv y53.1 8)) < (2 : Int) then (some (y53.2.1, y53.2.2, (([y48.1, 999999]).getD (IntKind.wrap .i64 (Int.tdiv y53.1 8)).toNat 0))) else none))) else ((spec_l00Src_next.f (⟨x0.code, y_r4_9_1.2.1, y_r4_9_1.2.2⟩ : S_l00Src) 4).bind fun y59 => (some (y59.2.1, y59.2.2, y59.1)))) : Option (Int × Int × Int)).bind fun o => match o with | (u40, u41, u42) => (some (u40, u41, u42)))) : Option (Int × Int × Int)).bind fun o => match o with | (u28, u29, u30) => (some (u28, u29, u30)))) : Option (Int × Int × Int)).bind fun o => match o with | (u18, u19, u20) => (some ((⟨(([2, 2, (w64 (1 + y_r4_1_1.1))]).getD (y_r4_5_1.1).toNat 0), (w64 (1 + y_r4_9_1.1)), u20⟩ : S_Op), u18, u19))))) else none)))
set_option maxRecDepth 100000 in
set_option maxHeartbeats 0 in
theorem spec_l00Src_op_t (w0 : World) (b0_ : Nat) (x0 : S_l00Src) (A0_0 : Option Addr) (p0_0 : Nat) (k0_0 : Chunk) (v0_0 : View (Lay.int .u8) A0_0 p0_0 x0.code k0_0) (w0_0 : Has w0 k0_0) (hs0 : Sat (blks [(1, [(b0_, .cells #[.slice A0_0 x0.code.length p0_0, .int .i64 x0.at_, .int .i64 x0.seed] 65 (0, 0))])]) w0 w0 [(2, k0_0)] [(1, [(b0_, .cells #[.slice A0_0 x0.code.length p0_0, .int .i64 x0.at_, .int .i64 x0.seed] 65 (0, 0))])]) (r : S_Op × Int × Int) (H : spec_l00Src_op.f x0 = some r) :
    Calls Tryz.prog 45 #[.pointer (some ⟨b0_, 0, none⟩)] w0 (Ret (fun v w => v = .agg #[.int .i64 r.1.Kind, .int .i64 r.1.Key, .int .i64 r.1.Value] ∧ Sat (blks [(1, [(b0_, .cells #[.slice A0_0 x0.code.length p0_0, .int .i64 x0.at_, .int .i64 x0.seed] 65 (0, 0))])]) w0 w [] [(0, [(b0_, .cells #[.slice A0_0 x0.code.length p0_0, .int .i64 r.2.1, .int .i64 r.2.2] 65 (0, 0))])])) := by
  have hs := hs0
  unfold spec_l00Src_op.f at H
  refine enter Tryz.func45 rfl Tryz.ntmps45 rfl fun a hk => ?_
  apply wp_seq_k; intro K1 hK1
  apply wp_region_lit
  refine salx 3 hs rfl hk rfl rfl ze33 rfl fun b2 w a hk hs => ?_
  show wpList _ _ _ [] _ _
  refine wpList_nil ?_
  refine hK1 _ _ ?_
  apply wp_seq_k; intro K3 hK3
  obtain ⟨y_r4_1_1, h_r4_1_2, H⟩ := bind_some H
  obtain ⟨y_r4_5_1, h_r4_5_2, H⟩ := bind_some H
  rcases ite_some H with ⟨c_r4_6_1, H⟩ | ⟨_, H⟩
  rotate_left
  ·cases H
  obtain ⟨y_r4_9_1, h_r4_9_2, H⟩ := bind_some H
  obtain ⟨R5, hR5⟩ : ∃ R : Act → World → Prop, R = fun a w => ∃ (b_r4_12_1 : Nat), Kn [(0, (.pointer (some ⟨b0_, 0, none⟩))), (2, (.pointer (some ⟨b2, 0, none⟩))), (3, (.pointer (some ⟨b_r4_12_1, 0, none⟩)))] 42 a ∧ Sat (blks [(1, [(b0_, .cells #[.slice A0_0 x0.code.length p0_0, .int .i64 x0.at_, .int .i64 x0.seed] 65 (0, 0))])]) w0 w [(2, k0_0)] [(1, [(b0_, .cells #[.slice A0_0 x0.code.length p0_0, .int .i64 y_r4_9_1.2.1, .int .i64 y_r4_9_1.2.2] 65 (0, 0))]), (3, [(b2, .cells #[.int .i64 0, .int .i64 0, .int .i64 0] 33 (0, 0))]), (104241, [(b_r4_12_1, .cells #[.int .i64 (([2, 2, (w64 (1 + y_r4_1_1.1))]).getD (y_r4_5_1.1).toNat 0), .int .i64 (w64 (1 + y_r4_9_1.1)), .int .i64 0] 33 (0, 0))])] := ⟨_, rfl⟩
  refine wp_cutq R5 ?_ ?_
  ·skip
   refine wp_region_tree (.q 0 (.q 4 (.q 8 (.alt 1 (.q 2 (.alt 3 (.alt 5 (.q 6 (.alt 7 (.alt 9 (.q 10 (.q 11 (.alt 12 (.last 13) .stop))) (.alt 12 (.alt 9 (.alt 10 (.alt 11 (.last 13) .stop) .stop) .stop) .stop)) (.alt 9 (.q 10 (.alt 7 (.q 11 (.alt 12 (.last 13) .stop)) (.alt 12 (.alt 7 (.alt 11 (.last 13) .stop) .stop) .stop))) (.alt 12 (.alt 7 (.alt 9 (.alt 10 (.alt 11 (.last 13) .stop) .stop) .stop) (.alt 9 (.q 10 (.alt 7 (.alt 11 (.last 13) .stop) .stop)) .stop)) .stop)))) (.alt 12 (.alt 5 (.q 6 (.alt 7 (.alt 9 (.alt 10 (.alt 11 (.last 13) .stop) .stop) .stop) (.alt 9 (.q 10 (.alt 7 (.alt 11 (.last 13) .stop) .stop)) .stop))) .stop) .stop)) (.alt 5 (.alt 3 (.q 6 (.alt 7 (.alt 9 (.q 10 (.q 11 (.alt 12 (.last 13) .stop))) (.alt 12 (.alt 9 (.alt 10 (.alt 11 (.last 13) .stop) .stop) .stop) .stop)) (.alt 9 (.q 10 (.alt 7 (.q 11 (.alt 12 (.last 13) .stop)) (.alt 12 (.alt 7 (.alt 11 (.last 13) .stop) .stop) .stop))) (.alt 12 (.alt 7 (.alt 9 (.alt 10 (.alt 11 (.last 13) .stop) .stop) .stop) (.alt 9 (.q 10 (.alt 7 (.alt 11 (.last 13) .stop) .stop)) .stop)) .stop)))) (.alt 9 (.q 10 (.alt 3 (.q 6 (.alt 7 (.q 11 (.alt 12 (.last 13) .stop)) (.alt 12 (.alt 7 (.alt 11 (.last 13) .stop) .stop) .stop))) (.alt 12 (.alt 3 (.alt 6 (.alt 7 (.alt 11 (.last 13) .stop) .stop) .stop) .stop) .stop))) (.alt 12 (.alt 3 (.q 6 (.alt 7 (.alt 9 (.alt 10 (.alt 11 (.last 13) .stop) .stop) .stop) (.alt 9 (.q 10 (.alt 7 (.alt 11 (.last 13) .stop) .stop)) .stop))) (.alt 9 (.q 10 (.alt 3 (.alt 6 (.alt 7 (.alt 11 (.last 13) .stop) .stop) .stop) .stop)) .stop)) .stop))) (.alt 12 (.alt 3 (.alt 5 (.q 6 (.alt 7 (.alt 9 (.alt 10 (.alt 11 (.last 13) .stop) .stop) .stop) (.alt 9 (.q 10 (.alt 7 (.alt 11 (.last 13) .stop) .stop)) .stop))) .stop) (.alt 5 (.alt 3 (.q 6 (.alt 7 (.alt 9 (.alt 10 (.alt 11 (.last 13) .stop) .stop) .stop) (.alt 9 (.q 10 (.alt 7 (.alt 11 (.last 13) .stop) .stop)) .stop))) (.alt 9 (.q 10 (.alt 3 (.alt 6 (.alt 7 (.alt 11 (.last 13) .stop) .stop) .stop) .stop)) .stop)) .stop)) .stop)))) (.alt 12 (.alt 1 (.q 2 (.alt 3 (.alt 5 (.q 6 (.alt 7 (.alt 9 (.alt 10 (.alt 11 (.last 13) .stop) .stop) .stop) (.alt 9 (.q 10 (.alt 7 (.alt 11 (.last 13) .stop) .stop)) .stop))) .stop) (.alt 5 (.alt 3 (.q 6 (.alt 7 (.alt 9 (.alt 10 (.alt 11 (.last 13) .stop) .stop) .stop) (.alt 9 (.q 10 (.alt 7 (.alt 11 (.last 13) .stop) .stop)) .stop))) (.alt 9 (.q 10 (.alt 3 (.alt 6 (.alt 7 (.alt 11 (.last 13) .stop) .stop) .stop) .stop)) .stop)) .stop))) .stop) .stop))))) mo (by kernel_rfl) (hs.pick [(3, 3)] rfl) fun _ => ?_
   have hs := hs.drew
   refine tqst (.pointer (some ⟨b0_, 0, none⟩)) hk rfl rfl rfl rfl (fun w hs => sm _ rfl hk rfl rfl rfl fun a hk => qe hk) fun a hk => ?_
   refine tqst (.pointer (some ⟨b0_, 0, none⟩)) hk rfl rfl rfl rfl (fun w hs => sm _ rfl hk rfl rfl rfl fun a hk => qe hk) fun a hk => ?_
   refine tqst (.pointer (some ⟨b0_, 0, none⟩)) hk rfl rfl rfl rfl (fun w hs => sm _ rfl hk rfl rfl rfl fun a hk => qe hk) fun a hk => ?_
   refine tsst hk rfl rfl (fun K_r4_1 hK_r4_1 w hF => ?_) ?_
   ·skip
    have hs := hs.f hF
    refine sc rfl en44 hk rfl rfl rfl (spec_l00Src_next_t _ b0_ x0 A0_0 p0_0 _ v0_0 (hs.hasD (k := 2) rfl) 6 ((hs.hand [(1, 1)] rfl).dpick [(2, 2)] rfl) _ h_r4_1_2) ?_
    rintro _ w ⟨rfl, hG⟩ a hk
    have hs := hs.back [(1, 1)] rfl hG [1] rfl
    refine se (hs.pick [(3, 3)] rfl) hk (hK_r4_1 _ _ ?_)
    refine tqst (.int .i64 (w64 (1 + y_r4_1_1.1))) hk rfl rfl rfl rfl (fun w hs => sv (.int .i64 (w64 (1 + y_r4_1_1.1))) hk rfl rfl rfl fun a hk => qe hk) fun a hk => ?_
    refine tsst hk rfl rfl (fun K_r4_3 hK_r4_3 w hF => ?_) ?_
    ·skip
     have hs := hs.f hF
     refine sbs (L := (Lay.int .i64)) (pv := [(0, (.int .i64 2)), (1, (.int .i64 2)), (2, (.int .i64 (w64 (1 + y_r4_1_1.1))))]) (xs := [2, 2, (w64 (1 + y_r4_1_1.1))]) (ess := [[.int .i64 2], [.int .i64 2], [.int .i64 (w64 (1 + y_r4_1_1.1))]]) 104061 hs rfl hk rfl rfl rfl un72 (bs3_8 2 2 (w64 (1 + y_r4_1_1.1))) (AllOwn.cons0 ⟨rfl, rfl⟩ (AllOwn.cons0 ⟨rfl, rfl⟩ (AllOwn.cons0 ⟨rfl, rfl⟩ AllOwn.nil))) rfl rfl rfl fun b_r4_3_1 k_r4_3_2 w a hk o_r4_3_3 hs => ?_
     refine se (hs.pick [(3, 3)] rfl) hk (hK_r4_3 _ _ ?_)
     refine tsst hk rfl rfl (fun K_r4_5 hK_r4_5 w hF => ?_) ?_
     ·skip
      have hs := hs.f hF
      refine sc rfl en44 hk rfl rfl rfl (spec_l00Src_next_t _ b0_ (⟨x0.code, y_r4_1_1.2.1, y_r4_1_1.2.2⟩ : S_l00Src) A0_0 p0_0 _ v0_0 (hs.hasD (k := 2) rfl) 3 ((hs.hand [(1, 1)] rfl).dpick [(2, 2)] rfl) _ h_r4_5_2) ?_
      rintro _ w ⟨rfl, hG⟩ a hk
      have hs := hs.back [(1, 1)] rfl hG [1] rfl
      refine se (hs.pick [(3, 3)] rfl) hk (hK_r4_5 _ _ ?_)
      obtain ⟨b_r4_6_2, q_r4_6_3, hAc_r4_6_1⟩ := (o_r4_3_3.view).some_ y_r4_5_1.1 c_r4_6_1.1 c_r4_6_1.2
      refine tqst (.pointer (some (padd (some ⟨b_r4_3_1, 0, none⟩) ((y_r4_5_1.1).toNat * 1)))) hk rfl rfl rfl rfl (fun w hs => si rfl hk rfl rfl rfl rfl un72 sz3 c_r4_6_1.1 c_r4_6_1.2 hAc_r4_6_1 fun a hk => qe hk) fun a hk => ?_
      refine tsst hk rfl rfl (fun K_r4_7 hK_r4_7 w hF => ?_) ?_
      ·skip
       have hs := hs.f hF
       obtain ⟨_, rfl, e_r4_7_1⟩ := (o_r4_3_3.view).at_ 0 y_r4_5_1.1 c_r4_6_1.1 c_r4_6_1.2
       refine sl (v := (.int .i64 (([2, 2, (w64 (1 + y_r4_1_1.1))]).getD (y_r4_5_1.1).toNat 0))) rfl hk rfl rfl rfl ag3 ((e_r4_7_1 0 _ rfl).cell (hs.hasG (k := 104061) rfl)) fun a hk => ?_
       refine se (hs.pick [(3, 3)] rfl) hk (hK_r4_7 _ _ ?_)
       refine tsst hk rfl rfl (fun K_r4_9 hK_r4_9 w hF => ?_) ?_
       ·skip
        have hs := hs.f hF
        refine sc rfl en44 hk rfl rfl rfl (spec_l00Src_next_t _ b0_ (⟨x0.code, y_r4_5_1.2.1, y_r4_5_1.2.2⟩ : S_l00Src) A0_0 p0_0 _ v0_0 (hs.hasD (k := 2) rfl) 14 ((hs.hand [(1, 1)] rfl).dpick [(2, 2)] rfl) _ h_r4_9_2) ?_
        rintro _ w ⟨rfl, hG⟩ a hk
        have hs := hs.back [(1, 1)] rfl hG [1] rfl
        refine se (hs.pick [(3, 3)] rfl) hk (hK_r4_9 _ _ ?_)
        refine tqst (.int .i64 (w64 (1 + y_r4_9_1.1))) hk rfl rfl rfl rfl (fun w hs => sv (.int .i64 (w64 (1 + y_r4_9_1.1))) hk rfl rfl rfl fun a hk => qe hk) fun a hk => ?_
        refine tqst (.agg #[.int .i64 (([2, 2, (w64 (1 + y_r4_1_1.1))]).getD (y_r4_5_1.1).toNat 0), .int .i64 (w64 (1 + y_r4_9_1.1)), .int .i64 0]) hk rfl rfl rfl rfl (fun w hs => sbd (pv := [(0, (.int .i64 (([2, 2, (w64 (1 + y_r4_1_1.1))]).getD (y_r4_5_1.1).toNat 0))), (1, (.int .i64 (w64 (1 + y_r4_9_1.1))))]) rfl hk rfl rfl rfl (bd33_9 (([2, 2, (w64 (1 + y_r4_1_1.1))]).getD (y_r4_5_1.1).toNat 0) (w64 (1 + y_r4_9_1.1))) fun a hk => qe hk) fun a hk => ?_
        refine tsst hk rfl rfl (fun K_r4_12 hK_r4_12 w hF => ?_) wt_stop
        have hs := hs.f hF
        refine salx 104241 hs rfl hk rfl rfl ze33 rfl fun b_r4_12_1 w a hk hs => ?_
        refine se (hs.pick [(3, 3)] rfl) hk (hK_r4_12 _ _ ?_)
        refine tlst hk rfl rfl fun K_r4_13 hK_r4_13 w hF => ?_
        have hs := hs.f hF
        refine ssw 104241 hs rfl rfl hk rfl rfl rfl rfl sz33 (by simp [Value.oneCell']) rfl fun w a hk hs => ?_
        refine se trivial hk (hK_r4_13 _ _ fun w hF => ?_)
        have hs := hs.f hF
        show R5 _ _
        rw [hR5]
        exact ⟨b_r4_12_1, (hk.c 0 rfl (hk.c 2 rfl (hk.c 3 rfl hk.k))), (hs.pick [(1, 1), (3, 3), (104241, 104241)] rfl)⟩
       refine tsst hk rfl rfl (fun K_r4_12 hK_r4_12 w hF => ?_) wt_stop
       have hs := hs.f hF
       refine salx 104241 hs rfl hk rfl rfl ze33 rfl fun b_r4_12_1 w a hk hs => ?_
       refine se (hs.pick [(3, 3)] rfl) hk (hK_r4_12 _ _ ?_)
       refine tsst hk rfl rfl (fun K_r4_9 hK_r4_9 w hF => ?_) wt_stop
       have hs := hs.f hF
       refine sc rfl en44 hk rfl rfl rfl (spec_l00Src_next_t _ b0_ (⟨x0.code, y_r4_5_1.2.1, y_r4_5_1.2.2⟩ : S_l00Src) A0_0 p0_0 _ v0_0 (hs.hasD (k := 2) rfl) 14 ((hs.hand [(1, 1)] rfl).dpick [(2, 2)] rfl) _ h_r4_9_2) ?_
       rintro _ w ⟨rfl, hG⟩ a hk
       have hs := hs.back [(1, 1)] rfl hG [1] rfl
       refine se (hs.pick [(3, 3)] rfl) hk (hK_r4_9 _ _ ?_)
       refine tsst hk rfl rfl (fun K_r4_10 hK_r4_10 w hF => ?_) wt_stop
       have hs := hs.f hF
       refine sv (.int .i64 (w64 (1 + y_r4_9_1.1))) hk rfl rfl rfl fun a hk => ?_
       refine se (hs.pick [(3, 3)] rfl) hk (hK_r4_10 _ _ ?_)
       refine tsst hk rfl rfl (fun K_r4_11 hK_r4_11 w hF => ?_) wt_stop
       have hs := hs.f hF
       refine sbd (pv := [(0, (.int .i64 (([2, 2, (w64 (1 + y_r4_1_1.1))]).getD (y_r4_5_1.1).toNat 0))), (1, (.int .i64 (w64 (1 + y_r4_9_1.1))))]) rfl hk rfl rfl rfl (bd33_9 (([2, 2, (w64 (1 + y_r4_1_1.1))]).getD (y_r4_5_1.1).toNat 0) (w64 (1 + y_r4_9_1.1))) fun a hk => ?_
       refine se (hs.pick [(3, 3)] rfl) hk (hK_r4_11 _ _ ?_)
       refine tlst hk rfl rfl fun K_r4_13 hK_r4_13 w hF => ?_
       have hs := hs.f hF
       refine ssw 104241 hs rfl rfl hk rfl rfl rfl rfl sz33 (by simp [Value.oneCell']) rfl fun w a hk hs => ?_
       refine se trivial hk (hK_r4_13 _ _ fun w hF => ?_)
       have hs := hs.f hF
       show R5 _ _
       rw [hR5]
       exact ⟨b_r4_12_1, (hk.c 0 rfl (hk.c 2 rfl (hk.c 3 rfl hk.k))), (hs.pick [(1, 1), (3, 3), (104241, 104241)] rfl)⟩
      refine tsst hk rfl rfl (fun K_r4_9 hK_r4_9 w hF => ?_) ?_
      ·skip
       have hs := hs.f hF
       refine sc rfl en44 hk rfl rfl rfl (spec_l00Src_next_t _ b0_ (⟨x0.code, y_r4_5_1.2.1, y_r4_5_1.2.2⟩ : S_l00Src) A0_0 p0_0 _ v0_0 (hs.hasD (k := 2) rfl) 14 ((hs.hand [(1, 1)] rfl).dpick [(2, 2)] rfl) _ h_r4_9_2) ?_
       rintro _ w ⟨rfl, hG⟩ a hk
       have hs := hs.back [(1, 1)] rfl hG [1] rfl
       refine se (hs.pick [(3, 3)] rfl) hk (hK_r4_9 _ _ ?_)
       refine tqst (.int .i64 (w64 (1 + y_r4_9_1.1))) hk rfl rfl rfl rfl (fun w hs => sv (.int .i64 (w64 (1 + y_r4_9_1.1))) hk rfl rfl rfl fun a hk => qe hk) fun a hk => ?_
       refine tsst hk rfl rfl (fun K_r4_7 hK_r4_7 w hF => ?_) ?_
       ·skip
        have hs := hs.f hF
        obtain ⟨_, rfl, e_r4_7_1⟩ := (o_r4_3_3.view).at_ 0 y_r4_5_1.1 c_r4_6_1.1 c_r4_6_1.2
        refine sl (v := (.int .i64 (([2, 2, (w64 (1 + y_r4_1_1.1))]).getD (y_r4_5_1.1).toNat 0))) rfl hk rfl rfl rfl ag3 ((e_r4_7_1 0 _ rfl).cell (hs.hasG (k := 104061) rfl)) fun a hk => ?_
        refine se (hs.pick [(3, 3)] rfl) hk (hK_r4_7 _ _ ?_)
        refine tqst (.agg #[.int .i64 (([2, 2, (w64 (1 + y_r4_1_1.1))]).getD (y_r4_5_1.1).toNat 0), .int .i64 (w64 (1 + y_r4_9_1.1)), .int .i64 0]) hk rfl rfl rfl rfl (fun w hs => sbd (pv := [(0, (.int .i64 (([2, 2, (w64 (1 + y_r4_1_1.1))]).getD (y_r4_5_1.1).toNat 0))), (1, (.int .i64 (w64 (1 + y_r4_9_1.1))))]) rfl hk rfl rfl rfl (bd33_9 (([2, 2, (w64 (1 + y_r4_1_1.1))]).getD (y_r4_5_1.1).toNat 0) (w64 (1 + y_r4_9_1.1))) fun a hk => qe hk) fun a hk => ?_
        refine tsst hk rfl rfl (fun K_r4_12 hK_r4_12 w hF => ?_) wt_stop
        have hs := hs.f hF
        refine salx 104241 hs rfl hk rfl rfl ze33 rfl fun b_r4_12_1 w a hk hs => ?_
        refine se (hs.pick [(3, 3)] rfl) hk (hK_r4_12 _ _ ?_)
        refine tlst hk rfl rfl fun K_r4_13 hK_r4_13 w hF => ?_
        have hs := hs.f hF
        refine ssw 104241 hs rfl rfl hk rfl rfl rfl rfl sz33 (by simp [Value.oneCell']) rfl fun w a hk hs => ?_
        refine se trivial hk (hK_r4_13 _ _ fun w hF => ?_)
        have hs := hs.f hF
        show R5 _ _
        rw [hR5]
        exact ⟨b_r4_12_1, (hk.c 0 rfl (hk.c 2 rfl (hk.c 3 rfl hk.k))), (hs.pick [(1, 1), (3, 3), (104241, 104241)] rfl)⟩
       refine tsst hk rfl rfl (fun K_r4_12 hK_r4_12 w hF => ?_) wt_stop
       have hs := hs.f hF
       refine salx 104241 hs rfl hk rfl rfl ze33 rfl fun b_r4_12_1 w a hk hs => ?_
       refine se (hs.pick [(3, 3)] rfl) hk (hK_r4_12 _ _ ?_)
       refine tsst hk rfl rfl (fun K_r4_7 hK_r4_7 w hF => ?_) wt_stop
       have hs := hs.f hF
       obtain ⟨_, rfl, e_r4_7_1⟩ := (o_r4_3_3.view).at_ 0 y_r4_5_1.1 c_r4_6_1.1 c_r4_6_1.2
       refine sl (v := (.int .i64 (([2, 2, (w64 (1 + y_r4_1_1.1))]).getD (y_r4_5_1.1).toNat 0))) rfl hk rfl rfl rfl ag3 ((e_r4_7_1 0 _ rfl).cell (hs.hasG (k := 104061) rfl)) fun a hk => ?_
       refine se (hs.pick [(3, 3)] rfl) hk (hK_r4_7 _ _ ?_)
       refine tsst hk rfl rfl (fun K_r4_11 hK_r4_11 w hF => ?_) wt_stop
       have hs := hs.f hF
       refine sbd (pv := [(0, (.int .i64 (([2, 2, (w64 (1 + y_r4_1_1.1))]).getD (y_r4_5_1.1).toNat 0))), (1, (.int .i64 (w64 (1 + y_r4_9_1.1))))]) rfl hk rfl rfl rfl (bd33_9 (([2, 2, (w64 (1 + y_r4_1_1.1))]).getD (y_r4_5_1.1).toNat 0) (w64 (1 + y_r4_9_1.1))) fun a hk => ?_
       refine se (hs.pick [(3, 3)] rfl) hk (hK_r4_11 _ _ ?_)
       refine tlst hk rfl rfl fun K_r4_13 hK_r4_13 w hF => ?_
       have hs := hs.f hF
       refine ssw 104241 hs rfl rfl hk rfl rfl rfl rfl sz33 (by simp [Value.oneCell']) rfl fun w a hk hs => ?_
       refine se trivial hk (hK_r4_13 _ _ fun w hF => ?_)
       have hs := hs.f hF
       show R5 _ _
       rw [hR5]
       exact ⟨b_r4_12_1, (hk.c 0 rfl (hk.c 2 rfl (hk.c 3 rfl hk.k))), (hs.pick [(1, 1), (3, 3), (104241, 104241)] rfl)⟩
      refine tsst hk rfl rfl (fun K_r4_12 hK_r4_12 w hF => ?_) wt_stop
      have hs := hs.f hF
      refine salx 104241 hs rfl hk rfl rfl ze33 rfl fun b_r4_12_1 w a hk hs => ?_
      refine se (hs.pick [(3, 3)] rfl) hk (hK_r4_12 _ _ ?_)
      refine tsst hk rfl rfl (fun K_r4_7 hK_r4_7 w hF => ?_) ?_
      ·skip
       have hs := hs.f hF
       obtain ⟨_, rfl, e_r4_7_1⟩ := (o_r4_3_3.view).at_ 0 y_r4_5_1.1 c_r4_6_1.1 c_r4_6_1.2
       refine sl (v := (.int .i64 (([2, 2, (w64 (1 + y_r4_1_1.1))]).getD (y_r4_5_1.1).toNat 0))) rfl hk rfl rfl rfl ag3 ((e_r4_7_1 0 _ rfl).cell (hs.hasG (k := 104061) rfl)) fun a hk => ?_
       refine se (hs.pick [(3, 3)] rfl) hk (hK_r4_7 _ _ ?_)
       refine tsst hk rfl rfl (fun K_r4_9 hK_r4_9 w hF => ?_) wt_stop
       have hs := hs.f hF
       refine sc rfl en44 hk rfl rfl rfl (spec_l00Src_next_t _ b0_ (⟨x0.code, y_r4_5_1.2.1, y_r4_5_1.2.2⟩ : S_l00Src) A0_0 p0_0 _ v0_0 (hs.hasD (k := 2) rfl) 14 ((hs.hand [(1, 1)] rfl).dpick [(2, 2)] rfl) _ h_r4_9_2) ?_
       rintro _ w ⟨rfl, hG⟩ a hk
       have hs := hs.back [(1, 1)] rfl hG [1] rfl
       refine se (hs.pick [(3, 3)] rfl) hk (hK_r4_9 _ _ ?_)
       refine tsst hk rfl rfl (fun K_r4_10 hK_r4_10 w hF => ?_) wt_stop
       have hs := hs.f hF
       refine sv (.int .i64 (w64 (1 + y_r4_9_1.1))) hk rfl rfl rfl fun a hk => ?_
       refine se (hs.pick [(3, 3)] rfl) hk (hK_r4_10 _ _ ?_)
       refine tsst hk rfl rfl (fun K_r4_11 hK_r4_11 w hF => ?_) wt_stop
       have hs := hs.f hF
       refine sbd (pv := [(0, (.int .i64 (([2, 2, (w64 (1 + y_r4_1_1.1))]).getD (y_r4_5_1.1).toNat 0))), (1, (.int .i64 (w64 (1 + y_r4_9_1.1))))]) rfl hk rfl rfl rfl (bd33_9 (([2, 2, (w64 (1 + y_r4_1_1.1))]).getD (y_r4_5_1.1).toNat 0) (w64 (1 + y_r4_9_1.1))) fun a hk => ?_
       refine se (hs.pick [(3, 3)] rfl) hk (hK_r4_11 _ _ ?_)
       refine tlst hk rfl rfl fun K_r4_13 hK_r4_13 w hF => ?_
       have hs := hs.f hF
       refine ssw 104241 hs rfl rfl hk rfl rfl rfl rfl sz33 (by simp [Value.oneCell']) rfl fun w a hk hs => ?_
       refine se trivial hk (hK_r4_13 _ _ fun w hF => ?_)
       have hs := hs.f hF
       show R5 _ _
       rw [hR5]
       exact ⟨b_r4_12_1, (hk.c 0 rfl (hk.c 2 rfl (hk.c 3 rfl hk.k))), (hs.pick [(1, 1), (3, 3), (104241, 104241)] rfl)⟩
      refine tsst hk rfl rfl (fun K_r4_9 hK_r4_9 w hF => ?_) wt_stop
      have hs := hs.f hF
      refine sc rfl en44 hk rfl rfl rfl (spec_l00Src_next_t _ b0_ (⟨x0.code, y_r4_5_1.2.1, y_r4_5_1.2.2⟩ : S_l00Src) A0_0 p0_0 _ v0_0 (hs.hasD (k := 2) rfl) 14 ((hs.hand [(1, 1)] rfl).dpick [(2, 2)] rfl) _ h_r4_9_2) ?_
      rintro _ w ⟨rfl, hG⟩ a hk
      have hs := hs.back [(1, 1)] rfl hG [1] rfl
      refine se (hs.pick [(3, 3)] rfl) hk (hK_r4_9 _ _ ?_)
      refine tqst (.int .i64 (w64 (1 + y_r4_9_1.1))) hk rfl rfl rfl rfl (fun w hs => sv (.int .i64 (w64 (1 + y_r4_9_1.1))) hk rfl rfl rfl fun a hk => qe hk) fun a hk => ?_
      refine tsst hk rfl rfl (fun K_r4_7 hK_r4_7 w hF => ?_) wt_stop
      have hs := hs.f hF
      obtain ⟨_, rfl, e_r4_7_1⟩ := (o_r4_3_3.view).at_ 0 y_r4_5_1.1 c_r4_6_1.1 c_r4_6_1.2
      refine sl (v := (.int .i64 (([2, 2, (w64 (1 + y_r4_1_1.1))]).getD (y_r4_5_1.1).toNat 0))) rfl hk rfl rfl rfl ag3 ((e_r4_7_1 0 _ rfl).cell (hs.hasG (k := 104061) rfl)) fun a hk => ?_
      refine se (hs.pick [(3, 3)] rfl) hk (hK_r4_7 _ _ ?_)
      refine tsst hk rfl rfl (fun K_r4_11 hK_r4_11 w hF => ?_) wt_stop
      have hs := hs.f hF
      refine sbd (pv := [(0, (.int .i64 (([2, 2, (w64 (1 + y_r4_1_1.1))]).getD (y_r4_5_1.1).toNat 0))), (1, (.int .i64 (w64 (1 + y_r4_9_1.1))))]) rfl hk rfl rfl rfl (bd33_9 (([2, 2, (w64 (1 + y_r4_1_1.1))]).getD (y_r4_5_1.1).toNat 0) (w64 (1 + y_r4_9_1.1))) fun a hk => ?_
      refine se (hs.pick [(3, 3)] rfl) hk (hK_r4_11 _ _ ?_)
      refine tlst hk rfl rfl fun K_r4_13 hK_r4_13 w hF => ?_
      have hs := hs.f hF
      refine ssw 104241 hs rfl rfl hk rfl rfl rfl rfl sz33 (by simp [Value.oneCell']) rfl fun w a hk hs => ?_
      refine se trivial hk (hK_r4_13 _ _ fun w hF => ?_)
      have hs := hs.f hF
      show R5 _ _
      rw [hR5]
      exact ⟨b_r4_12_1, (hk.c 0 rfl (hk.c 2 rfl (hk.c 3 rfl hk.k))), (hs.pick [(1, 1), (3, 3), (104241, 104241)] rfl)⟩
     refine tsst hk rfl rfl (fun K_r4_12 hK_r4_12 w hF => ?_) wt_stop
     have hs := hs.f hF
     refine salx 104241 hs rfl hk rfl rfl ze33 rfl fun b_r4_12_1 w a hk hs => ?_
     refine se (hs.pick [(3, 3)] rfl) hk (hK_r4_12 _ _ ?_)
     refine tsst hk rfl rfl (fun K_r4_5 hK_r4_5 w hF => ?_) wt_stop
     have hs := hs.f hF
     refine sc rfl en44 hk rfl rfl rfl (spec_l00Src_next_t _ b0_ (⟨x0.code, y_r4_1_1.2.1, y_r4_1_1.2.2⟩ : S_l00Src) A0_0 p0_0 _ v0_0 (hs.hasD (k := 2) rfl) 3 ((hs.hand [(1, 1)] rfl).dpick [(2, 2)] rfl) _ h_r4_5_2) ?_
     rintro _ w ⟨rfl, hG⟩ a hk
     have hs := hs.back [(1, 1)] rfl hG [1] rfl
     refine se (hs.pick [(3, 3)] rfl) hk (hK_r4_5 _ _ ?_)
     obtain ⟨b_r4_6_2, q_r4_6_3, hAc_r4_6_1⟩ := (o_r4_3_3.view).some_ y_r4_5_1.1 c_r4_6_1.1 c_r4_6_1.2
     refine tqst (.pointer (some (padd (some ⟨b_r4_3_1, 0, none⟩) ((y_r4_5_1.1).toNat * 1)))) hk rfl rfl rfl rfl (fun w hs => si rfl hk rfl rfl rfl rfl un72 sz3 c_r4_6_1.1 c_r4_6_1.2 hAc_r4_6_1 fun a hk => qe hk) fun a hk => ?_
     refine tsst hk rfl rfl (fun K_r4_7 hK_r4_7 w hF => ?_) ?_
     ·skip
      have hs := hs.f hF
      obtain ⟨_, rfl, e_r4_7_1⟩ := (o_r4_3_3.view).at_ 0 y_r4_5_1.1 c_r4_6_1.1 c_r4_6_1.2
      refine sl (v := (.int .i64 (([2, 2, (w64 (1 + y_r4_1_1.1))]).getD (y_r4_5_1.1).toNat 0))) rfl hk rfl rfl rfl ag3 ((e_r4_7_1 0 _ rfl).cell (hs.hasG (k := 104061) rfl)) fun a hk => ?_
      refine se (hs.pick [(3, 3)] rfl) hk (hK_r4_7 _ _ ?_)
      refine tsst hk rfl rfl (fun K_r4_9 hK_r4_9 w hF => ?_) wt_stop
      have hs := hs.f hF
      refine sc rfl en44 hk rfl rfl rfl (spec_l00Src_next_t _ b0_ (⟨x0.code, y_r4_5_1.2.1, y_r4_5_1.2.2⟩ : S_l00Src) A0_0 p0_0 _ v0_0 (hs.hasD (k := 2) rfl) 14 ((hs.hand [(1, 1)] rfl).dpick [(2, 2)] rfl) _ h_r4_9_2) ?_
      rintro _ w ⟨rfl, hG⟩ a hk
      have hs := hs.back [(1, 1)] rfl hG [1] rfl
      refine se (hs.pick [(3, 3)] rfl) hk (hK_r4_9 _ _ ?_)
      refine tsst hk rfl rfl (fun K_r4_10 hK_r4_10 w hF => ?_) wt_stop
      have hs := hs.f hF
      refine sv (.int .i64 (w64 (1 + y_r4_9_1.1))) hk rfl rfl rfl fun a hk => ?_
      refine se (hs.pick [(3, 3)] rfl) hk (hK_r4_10 _ _ ?_)
      refine tsst hk rfl rfl (fun K_r4_11 hK_r4_11 w hF => ?_) wt_stop
      have hs := hs.f hF
      refine sbd (pv := [(0, (.int .i64 (([2, 2, (w64 (1 + y_r4_1_1.1))]).getD (y_r4_5_1.1).toNat 0))), (1, (.int .i64 (w64 (1 + y_r4_9_1.1))))]) rfl hk rfl rfl rfl (bd33_9 (([2, 2, (w64 (1 + y_r4_1_1.1))]).getD (y_r4_5_1.1).toNat 0) (w64 (1 + y_r4_9_1.1))) fun a hk => ?_
      refine se (hs.pick [(3, 3)] rfl) hk (hK_r4_11 _ _ ?_)
      refine tlst hk rfl rfl fun K_r4_13 hK_r4_13 w hF => ?_
      have hs := hs.f hF
      refine ssw 104241 hs rfl rfl hk rfl rfl rfl rfl sz33 (by simp [Value.oneCell']) rfl fun w a hk hs => ?_
      refine se trivial hk (hK_r4_13 _ _ fun w hF => ?_)
      have hs := hs.f hF
      show R5 _ _
      rw [hR5]
      exact ⟨b_r4_12_1, (hk.c 0 rfl (hk.c 2 rfl (hk.c 3 rfl hk.k))), (hs.pick [(1, 1), (3, 3), (104241, 104241)] rfl)⟩
     refine tsst hk rfl rfl (fun K_r4_9 hK_r4_9 w hF => ?_) wt_stop
     have hs := hs.f hF
     refine sc rfl en44 hk rfl rfl rfl (spec_l00Src_next_t _ b0_ (⟨x0.code, y_r4_5_1.2.1, y_r4_5_1.2.2⟩ : S_l00Src) A0_0 p0_0 _ v0_0 (hs.hasD (k := 2) rfl) 14 ((hs.hand [(1, 1)] rfl).dpick [(2, 2)] rfl) _ h_r4_9_2) ?_
     rintro _ w ⟨rfl, hG⟩ a hk
     have hs := hs.back [(1, 1)] rfl hG [1] rfl
     refine se (hs.pick [(3, 3)] rfl) hk (hK_r4_9 _ _ ?_)
     refine tqst (.int .i64 (w64 (1 + y_r4_9_1.1))) hk rfl rfl rfl rfl (fun w hs => sv (.int .i64 (w64 (1 + y_r4_9_1.1))) hk rfl rfl rfl fun a hk => qe hk) fun a hk => ?_
     refine tsst hk rfl rfl (fun K_r4_7 hK_r4_7 w hF => ?_) wt_stop
     have hs := hs.f hF
     obtain ⟨_, rfl, e_r4_7_1⟩ := (o_r4_3_3.view).at_ 0 y_r4_5_1.1 c_r4_6_1.1 c_r4_6_1.2
     refine sl (v := (.int .i64 (([2, 2, (w64 (1 + y_r4_1_1.1))]).getD (y_r4_5_1.1).toNat 0))) rfl hk rfl rfl rfl ag3 ((e_r4_7_1 0 _ rfl).cell (hs.hasG (k := 104061) rfl)) fun a hk => ?_
     refine se (hs.pick [(3, 3)] rfl) hk (hK_r4_7 _ _ ?_)
     refine tsst hk rfl rfl (fun K_r4_11 hK_r4_11 w hF => ?_) wt_stop
     have hs := hs.f hF
     refine sbd (pv := [(0, (.int .i64 (([2, 2, (w64 (1 + y_r4_1_1.1))]).getD (y_r4_5_1.1).toNat 0))), (1, (.int .i64 (w64 (1 + y_r4_9_1.1))))]) rfl hk rfl rfl rfl (bd33_9 (([2, 2, (w64 (1 + y_r4_1_1.1))]).getD (y_r4_5_1.1).toNat 0) (w64 (1 + y_r4_9_1.1))) fun a hk => ?_
     refine se (hs.pick [(3, 3)] rfl) hk (hK_r4_11 _ _ ?_)
     refine tlst hk rfl rfl fun K_r4_13 hK_r4_13 w hF => ?_
     have hs := hs.f hF
     refine ssw 104241 hs rfl rfl hk rfl rfl rfl rfl sz33 (by simp [Value.oneCell']) rfl fun w a hk hs => ?_
     refine se trivial hk (hK_r4_13 _ _ fun w hF => ?_)
     have hs := hs.f hF
     show R5 _ _
     rw [hR5]
     exact ⟨b_r4_12_1, (hk.c 0 rfl (hk.c 2 rfl (hk.c 3 rfl hk.k))), (hs.pick [(1, 1), (3, 3), (104241, 104241)] rfl)⟩
    refine tsst hk rfl rfl (fun K_r4_5 hK_r4_5 w hF => ?_) ?_
    ·skip
     have hs := hs.f hF
     refine sc rfl en44 hk rfl rfl rfl (spec_l00Src_next_t _ b0_ (⟨x0.code, y_r4_1_1.2.1, y_r4_1_1.2.2⟩ : S_l00Src) A0_0 p0_0 _ v0_0 (hs.hasD (k := 2) rfl) 3 ((hs.hand [(1, 1)] rfl).dpick [(2, 2)] rfl) _ h_r4_5_2) ?_
     rintro _ w ⟨rfl, hG⟩ a hk
     have hs := hs.back [(1, 1)] rfl hG [1] rfl
     refine se (hs.pick [(3, 3)] rfl) hk (hK_r4_5 _ _ ?_)
     refine tsst hk rfl rfl (fun K_r4_3 hK_r4_3 w hF => ?_) ?_
     ·skip
      have hs := hs.f hF
      refine sbs (L := (Lay.int .i64)) (pv := [(0, (.int .i64 2)), (1, (.int .i64 2)), (2, (.int .i64 (w64 (1 + y_r4_1_1.1))))]) (xs := [2, 2, (w64 (1 + y_r4_1_1.1))]) (ess := [[.int .i64 2], [.int .i64 2], [.int .i64 (w64 (1 + y_r4_1_1.1))]]) 104061 hs rfl hk rfl rfl rfl un72 (bs3_8 2 2 (w64 (1 + y_r4_1_1.1))) (AllOwn.cons0 ⟨rfl, rfl⟩ (AllOwn.cons0 ⟨rfl, rfl⟩ (AllOwn.cons0 ⟨rfl, rfl⟩ AllOwn.nil))) rfl rfl rfl fun b_r4_3_1 k_r4_3_2 w a hk o_r4_3_3 hs => ?_
      refine se (hs.pick [(3, 3)] rfl) hk (hK_r4_3 _ _ ?_)
      obtain ⟨b_r4_6_2, q_r4_6_3, hAc_r4_6_1⟩ := (o_r4_3_3.view).some_ y_r4_5_1.1 c_r4_6_1.1 c_r4_6_1.2
      refine tqst (.pointer (some (padd (some ⟨b_r4_3_1, 0, none⟩) ((y_r4_5_1.1).toNat * 1)))) hk rfl rfl rfl rfl (fun w hs => si rfl hk rfl rfl rfl rfl un72 sz3 c_r4_6_1.1 c_r4_6_1.2 hAc_r4_6_1 fun a hk => qe hk) fun a hk => ?_
      refine tsst hk rfl rfl (fun K_r4_7 hK_r4_7 w hF => ?_) ?_
      ·skip
       have hs := hs.f hF
       obtain ⟨_, rfl, e_r4_7_1⟩ := (o_r4_3_3.view).at_ 0 y_r4_5_1.1 c_r4_6_1.1 c_r4_6_1.2
       refine sl (v := (.int .i64 (([2, 2, (w64 (1 + y_r4_1_1.1))]).getD (y_r4_5_1.1).toNat 0))) rfl hk rfl rfl rfl ag3 ((e_r4_7_1 0 _ rfl).cell (hs.hasG (k := 104061) rfl)) fun a hk => ?_
       refine se (hs.pick [(3, 3)] rfl) hk (hK_r4_7 _ _ ?_)
       refine tsst hk rfl rfl (fun K_r4_9 hK_r4_9 w hF => ?_) ?_
       ·skip
        have hs := hs.f hF
        refine sc rfl en44 hk rfl rfl rfl (spec_l00Src_next_t _ b0_ (⟨x0.code, y_r4_5_1.2.1, y_r4_5_1.2.2⟩ : S_l00Src) A0_0 p0_0 _ v0_0 (hs.hasD (k := 2) rfl) 14 ((hs.hand [(1, 1)] rfl).dpick [(2, 2)] rfl) _ h_r4_9_2) ?_
        rintro _ w ⟨rfl, hG⟩ a hk
        have hs := hs.back [(1, 1)] rfl hG [1] rfl
        refine se (hs.pick [(3, 3)] rfl) hk (hK_r4_9 _ _ ?_)
        refine tqst (.int .i64 (w64 (1 + y_r4_9_1.1))) hk rfl rfl rfl rfl (fun w hs => sv (.int .i64 (w64 (1 + y_r4_9_1.1))) hk rfl rfl rfl fun a hk => qe hk) fun a hk => ?_
        refine tqst (.agg #[.int .i64 (([2, 2, (w64 (1 + y_r4_1_1.1))]).getD (y_r4_5_1.1).toNat 0), .int .i64 (w64 (1 + y_r4_9_1.1)), .int .i64 0]) hk rfl rfl rfl rfl (fun w hs => sbd (pv := [(0, (.int .i64 (([2, 2, (w64 (1 + y_r4_1_1.1))]).getD (y_r4_5_1.1).toNat 0))), (1, (.int .i64 (w64 (1 + y_r4_9_1.1))))]) rfl hk rfl rfl rfl (bd33_9 (([2, 2, (w64 (1 + y_r4_1_1.1))]).getD (y_r4_5_1.1).toNat 0) (w64 (1 + y_r4_9_1.1))) fun a hk => qe hk) fun a hk => ?_
        refine tsst hk rfl rfl (fun K_r4_12 hK_r4_12 w hF => ?_) wt_stop
        have hs := hs.f hF
        refine salx 104241 hs rfl hk rfl rfl ze33 rfl fun b_r4_12_1 w a hk hs => ?_
        refine se (hs.pick [(3, 3)] rfl) hk (hK_r4_12 _ _ ?_)
        refine tlst hk rfl rfl fun K_r4_13 hK_r4_13 w hF => ?_
        have hs := hs.f hF
        refine ssw 104241 hs rfl rfl hk rfl rfl rfl rfl sz33 (by simp [Value.oneCell']) rfl fun w a hk hs => ?_
        refine se trivial hk (hK_r4_13 _ _ fun w hF => ?_)
        have hs := hs.f hF
        show R5 _ _
        rw [hR5]
        exact ⟨b_r4_12_1, (hk.c 0 rfl (hk.c 2 rfl (hk.c 3 rfl hk.k))), (hs.pick [(1, 1), (3, 3), (104241, 104241)] rfl)⟩
       refine tsst hk rfl rfl (fun K_r4_12 hK_r4_12 w hF => ?_) wt_stop
       have hs := hs.f hF
       refine salx 104241 hs rfl hk rfl rfl ze33 rfl fun b_r4_12_1 w a hk hs => ?_
       refine se (hs.pick [(3, 3)] rfl) hk (hK_r4_12 _ _ ?_)
       refine tsst hk rfl rfl (fun K_r4_9 hK_r4_9 w hF => ?_) wt_stop
       have hs := hs.f hF
       refine sc rfl en44 hk rfl rfl rfl (spec_l00Src_next_t _ b0_ (⟨x0.code, y_r4_5_1.2.1, y_r4_5_1.2.2⟩ : S_l00Src) A0_0 p0_0 _ v0_0 (hs.hasD (k := 2) rfl) 14 ((hs.hand [(1, 1)] rfl).dpick [(2, 2)] rfl) _ h_r4_9_2) ?_
       rintro _ w ⟨rfl, hG⟩ a hk
       have hs := hs.back [(1, 1)] rfl hG [1] rfl
       refine se (hs.pick [(3, 3)] rfl) hk (hK_r4_9 _ _ ?_)
       refine tsst hk rfl rfl (fun K_r4_10 hK_r4_10 w hF => ?_) wt_stop
       have hs := hs.f hF
       refine sv (.int .i64 (w64 (1 + y_r4_9_1.1))) hk rfl rfl rfl fun a hk => ?_
       refine se (hs.pick [(3, 3)] rfl) hk (hK_r4_10 _ _ ?_)
       refine tsst hk rfl rfl (fun K_r4_11 hK_r4_11 w hF => ?_) wt_stop
       have hs := hs.f hF
       refine sbd (pv := [(0, (.int .i64 (([2, 2, (w64 (1 + y_r4_1_1.1))]).getD (y_r4_5_1.1).toNat 0))), (1, (.int .i64 (w64 (1 + y_r4_9_1.1))))]) rfl hk rfl rfl rfl (bd33_9 (([2, 2, (w64 (1 + y_r4_1_1.1))]).getD (y_r4_5_1.1).toNat 0) (w64 (1 + y_r4_9_1.1))) fun a hk => ?_
       refine se (hs.pick [(3, 3)] rfl) hk (hK_r4_11 _ _ ?_)
       refine tlst hk rfl rfl fun K_r4_13 hK_r4_13 w hF => ?_
       have hs := hs.f hF
       refine ssw 104241 hs rfl rfl hk rfl rfl rfl rfl sz33 (by simp [Value.oneCell']) rfl fun w a hk hs => ?_
       refine se trivial hk (hK_r4_13 _ _ fun w hF => ?_)
       have hs := hs.f hF
       show R5 _ _
       rw [hR5]
       exact ⟨b_r4_12_1, (hk.c 0 rfl (hk.c 2 rfl (hk.c 3 rfl hk.k))), (hs.pick [(1, 1), (3, 3), (104241, 104241)] rfl)⟩
      refine tsst hk rfl rfl (fun K_r4_9 hK_r4_9 w hF => ?_) ?_
      ·skip
       have hs := hs.f hF
       refine sc rfl en44 hk rfl rfl rfl (spec_l00Src_next_t _ b0_ (⟨x0.code, y_r4_5_1.2.1, y_r4_5_1.2.2⟩ : S_l00Src) A0_0 p0_0 _ v0_0 (hs.hasD (k := 2) rfl) 14 ((hs.hand [(1, 1)] rfl).dpick [(2, 2)] rfl) _ h_r4_9_2) ?_
       rintro _ w ⟨rfl, hG⟩ a hk
       have hs := hs.back [(1, 1)] rfl hG [1] rfl
       refine se (hs.pick [(3, 3)] rfl) hk (hK_r4_9 _ _ ?_)
       refine tqst (.int .i64 (w64 (1 + y_r4_9_1.1))) hk rfl rfl rfl rfl (fun w hs => sv (.int .i64 (w64 (1 + y_r4_9_1.1))) hk rfl rfl rfl fun a hk => qe hk) fun a hk => ?_
       refine tsst hk rfl rfl (fun K_r4_7 hK_r4_7 w hF => ?_) ?_
       ·skip
        have hs := hs.f hF
        obtain ⟨_, rfl, e_r4_7_1⟩ := (o_r4_3_3.view).at_ 0 y_r4_5_1.1 c_r4_6_1.1 c_r4_6_1.2
        refine sl (v := (.int .i64 (([2, 2, (w64 (1 + y_r4_1_1.1))]).getD (y_r4_5_1.1).toNat 0))) rfl hk rfl rfl rfl ag3 ((e_r4_7_1 0 _ rfl).cell (hs.hasG (k := 104061) rfl)) fun a hk => ?_
        refine se (hs.pick [(3, 3)] rfl) hk (hK_r4_7 _ _ ?_)
        refine tqst (.agg #[.int .i64 (([2, 2, (w64 (1 + y_r4_1_1.1))]).getD (y_r4_5_1.1).toNat 0), .int .i64 (w64 (1 + y_r4_9_1.1)), .int .i64 0]) hk rfl rfl rfl rfl (fun w hs => sbd (pv := [(0, (.int .i64 (([2, 2, (w64 (1 + y_r4_1_1.1))]).getD (y_r4_5_1.1).toNat 0))), (1, (.int .i64 (w64 (1 + y_r4_9_1.1))))]) rfl hk rfl rfl rfl (bd33_9 (([2, 2, (w64 (1 + y_r4_1_1.1))]).getD (y_r4_5_1.1).toNat 0) (w64 (1 + y_r4_9_1.1))) fun a hk => qe hk) fun a hk => ?_
        refine tsst hk rfl rfl (fun K_r4_12 hK_r4_12 w hF => ?_) wt_stop
        have hs := hs.f hF
        refine salx 104241 hs rfl hk rfl rfl ze33 rfl fun b_r4_12_1 w a hk hs => ?_
        refine se (hs.pick [(3, 3)] rfl) hk (hK_r4_12 _ _ ?_)
        refine tlst hk rfl rfl fun K_r4_13 hK_r4_13 w hF => ?_
        have hs := hs.f hF
        refine ssw 104241 hs rfl rfl hk rfl rfl rfl rfl sz33 (by simp [Value.oneCell']) rfl fun w a hk hs => ?_
        refine se trivial hk (hK_r4_13 _ _ fun w hF => ?_)
        have hs := hs.f hF
        show R5 _ _
        rw [hR5]
        exact ⟨b_r4_12_1, (hk.c 0 rfl (hk.c 2 rfl (hk.c 3 rfl hk.k))), (hs.pick [(1, 1), (3, 3), (104241, 104241)] rfl)⟩
       refine tsst hk rfl rfl (fun K_r4_12 hK_r4_12 w hF => ?_) wt_stop
       have hs := hs.f hF
       refine salx 104241 hs rfl hk rfl rfl ze33 rfl fun b_r4_12_1 w a hk hs => ?_
       refine se (hs.pick [(3, 3)] rfl) hk (hK_r4_12 _ _ ?_)
       refine tsst hk rfl rfl (fun K_r4_7 hK_r4_7 w hF => ?_) wt_stop
       have hs := hs.f hF
       obtain ⟨_, rfl, e_r4_7_1⟩ := (o_r4_3_3.view).at_ 0 y_r4_5_1.1 c_r4_6_1.1 c_r4_6_1.2
       refine sl (v := (.int .i64 (([2, 2, (w64 (1 + y_r4_1_1.1))]).getD (y_r4_5_1.1).toNat 0))) rfl hk rfl rfl rfl ag3 ((e_r4_7_1 0 _ rfl).cell (hs.hasG (k := 104061) rfl)) fun a hk => ?_
       refine se (hs.pick [(3, 3)] rfl) hk (hK_r4_7 _ _ ?_)
       refine tsst hk rfl rfl (fun K_r4_11 hK_r4_11 w hF => ?_) wt_stop
       have hs := hs.f hF
       refine sbd (pv := [(0, (.int .i64 (([2, 2, (w64 (1 + y_r4_1_1.1))]).getD (y_r4_5_1.1).toNat 0))), (1, (.int .i64 (w64 (1 + y_r4_9_1.1))))]) rfl hk rfl rfl rfl (bd33_9 (([2, 2, (w64 (1 + y_r4_1_1.1))]).getD (y_r4_5_1.1).toNat 0) (w64 (1 + y_r4_9_1.1))) fun a hk => ?_
       refine se (hs.pick [(3, 3)] rfl) hk (hK_r4_11 _ _ ?_)
       refine tlst hk rfl rfl fun K_r4_13 hK_r4_13 w hF => ?_
       have hs := hs.f hF
       refine ssw 104241 hs rfl rfl hk rfl rfl rfl rfl sz33 (by simp [Value.oneCell']) rfl fun w a hk hs => ?_
       refine se trivial hk (hK_r4_13 _ _ fun w hF => ?_)
       have hs := hs.f hF
       show R5 _ _
       rw [hR5]
       exact ⟨b_r4_12_1, (hk.c 0 rfl (hk.c 2 rfl (hk.c 3 rfl hk.k))), (hs.pick [(1, 1), (3, 3), (104241, 104241)] rfl)⟩
      refine tsst hk rfl rfl (fun K_r4_12 hK_r4_12 w hF => ?_) wt_stop
      have hs := hs.f hF
      refine salx 104241 hs rfl hk rfl rfl ze33 rfl fun b_r4_12_1 w a hk hs => ?_
      refine se (hs.pick [(3, 3)] rfl) hk (hK_r4_12 _ _ ?_)
      refine tsst hk rfl rfl (fun K_r4_7 hK_r4_7 w hF => ?_) ?_
      ·skip
       have hs := hs.f hF
       obtain ⟨_, rfl, e_r4_7_1⟩ := (o_r4_3_3.view).at_ 0 y_r4_5_1.1 c_r4_6_1.1 c_r4_6_1.2
       refine sl (v := (.int .i64 (([2, 2, (w64 (1 + y_r4_1_1.1))]).getD (y_r4_5_1.1).toNat 0))) rfl hk rfl rfl rfl ag3 ((e_r4_7_1 0 _ rfl).cell (hs.hasG (k := 104061) rfl)) fun a hk => ?_
       refine se (hs.pick [(3, 3)] rfl) hk (hK_r4_7 _ _ ?_)
       refine tsst hk rfl rfl (fun K_r4_9 hK_r4_9 w hF => ?_) wt_stop
       have hs := hs.f hF
       refine sc rfl en44 hk rfl rfl rfl (spec_l00Src_next_t _ b0_ (⟨x0.code, y_r4_5_1.2.1, y_r4_5_1.2.2⟩ : S_l00Src) A0_0 p0_0 _ v0_0 (hs.hasD (k := 2) rfl) 14 ((hs.hand [(1, 1)] rfl).dpick [(2, 2)] rfl) _ h_r4_9_2) ?_
       rintro _ w ⟨rfl, hG⟩ a hk
       have hs := hs.back [(1, 1)] rfl hG [1] rfl
       refine se (hs.pick [(3, 3)] rfl) hk (hK_r4_9 _ _ ?_)
       refine tsst hk rfl rfl (fun K_r4_10 hK_r4_10 w hF => ?_) wt_stop
       have hs := hs.f hF
       refine sv (.int .i64 (w64 (1 + y_r4_9_1.1))) hk rfl rfl rfl fun a hk => ?_
       refine se (hs.pick [(3, 3)] rfl) hk (hK_r4_10 _ _ ?_)
       refine tsst hk rfl rfl (fun K_r4_11 hK_r4_11 w hF => ?_) wt_stop
       have hs := hs.f hF
       refine sbd (pv := [(0, (.int .i64 (([2, 2, (w64 (1 + y_r4_1_1.1))]).getD (y_r4_5_1.1).toNat 0))), (1, (.int .i64 (w64 (1 + y_r4_9_1.1))))]) rfl hk rfl rfl rfl (bd33_9 (([2, 2, (w64 (1 + y_r4_1_1.1))]).getD (y_r4_5_1.1).toNat 0) (w64 (1 + y_r4_9_1.1))) fun a hk => ?_
       refine se (hs.pick [(3, 3)] rfl) hk (hK_r4_11 _ _ ?_)
       refine tlst hk rfl rfl fun K_r4_13 hK_r4_13 w hF => ?_
       have hs := hs.f hF
       refine ssw 104241 hs rfl rfl hk rfl rfl rfl rfl sz33 (by simp [Value.oneCell']) rfl fun w a hk hs => ?_
       refine se trivial hk (hK_r4_13 _ _ fun w hF => ?_)
       have hs := hs.f hF
       show R5 _ _
       rw [hR5]
       exact ⟨b_r4_12_1, (hk.c 0 rfl (hk.c 2 rfl (hk.c 3 rfl hk.k))), (hs.pick [(1, 1), (3, 3), (104241, 104241)] rfl)⟩
      refine tsst hk rfl rfl (fun K_r4_9 hK_r4_9 w hF => ?_) wt_stop
      have hs := hs.f hF
      refine sc rfl en44 hk rfl rfl rfl (spec_l00Src_next_t _ b0_ (⟨x0.code, y_r4_5_1.2.1, y_r4_5_1.2.2⟩ : S_l00Src) A0_0 p0_0 _ v0_0 (hs.hasD (k := 2) rfl) 14 ((hs.hand [(1, 1)] rfl).dpick [(2, 2)] rfl) _ h_r4_9_2) ?_
      rintro _ w ⟨rfl, hG⟩ a hk
      have hs := hs.back [(1, 1)] rfl hG [1] rfl
      refine se (hs.pick [(3, 3)] rfl) hk (hK_r4_9 _ _ ?_)
      refine tqst (.int .i64 (w64 (1 + y_r4_9_1.1))) hk rfl rfl rfl rfl (fun w hs => sv (.int .i64 (w64 (1 + y_r4_9_1.1))) hk rfl rfl rfl fun a hk => qe hk) fun a hk => ?_
      refine tsst hk rfl rfl (fun K_r4_7 hK_r4_7 w hF => ?_) wt_stop
      have hs := hs.f hF
      obtain ⟨_, rfl, e_r4_7_1⟩ := (o_r4_3_3.view).at_ 0 y_r4_5_1.1 c_r4_6_1.1 c_r4_6_1.2
      refine sl (v := (.int .i64 (([2, 2, (w64 (1 + y_r4_1_1.1))]).getD (y_r4_5_1.1).toNat 0))) rfl hk rfl rfl rfl ag3 ((e_r4_7_1 0 _ rfl).cell (hs.hasG (k := 104061) rfl)) fun a hk => ?_
      refine se (hs.pick [(3, 3)] rfl) hk (hK_r4_7 _ _ ?_)
      refine tsst hk rfl rfl (fun K_r4_11 hK_r4_11 w hF => ?_) wt_stop
      have hs := hs.f hF
      refine sbd (pv := [(0, (.int .i64 (([2, 2, (w64 (1 + y_r4_1_1.1))]).getD (y_r4_5_1.1).toNat 0))), (1, (.int .i64 (w64 (1 + y_r4_9_1.1))))]) rfl hk rfl rfl rfl (bd33_9 (([2, 2, (w64 (1 + y_r4_1_1.1))]).getD (y_r4_5_1.1).toNat 0) (w64 (1 + y_r4_9_1.1))) fun a hk => ?_
      refine se (hs.pick [(3, 3)] rfl) hk (hK_r4_11 _ _ ?_)
      refine tlst hk rfl rfl fun K_r4_13 hK_r4_13 w hF => ?_
      have hs := hs.f hF
      refine ssw 104241 hs rfl rfl hk rfl rfl rfl rfl sz33 (by simp [Value.oneCell']) rfl fun w a hk hs => ?_
      refine se trivial hk (hK_r4_13 _ _ fun w hF => ?_)
      have hs := hs.f hF
      show R5 _ _
      rw [hR5]
      exact ⟨b_r4_12_1, (hk.c 0 rfl (hk.c 2 rfl (hk.c 3 rfl hk.k))), (hs.pick [(1, 1), (3, 3), (104241, 104241)] rfl)⟩
     refine tsst hk rfl rfl (fun K_r4_9 hK_r4_9 w hF => ?_) ?_
     ·skip
      have hs := hs.f hF
      refine sc rfl en44 hk rfl rfl rfl (spec_l00Src_next_t _ b0_ (⟨x0.code, y_r4_5_1.2.1, y_r4_5_1.2.2⟩ : S_l00Src) A0_0 p0_0 _ v0_0 (hs.hasD (k := 2) rfl) 14 ((hs.hand [(1, 1)] rfl).dpick [(2, 2)] rfl) _ h_r4_9_2) ?_
      rintro _ w ⟨rfl, hG⟩ a hk
      have hs := hs.back [(1, 1)] rfl hG [1] rfl
      refine se (hs.pick [(3, 3)] rfl) hk (hK_r4_9 _ _ ?_)
      refine tqst (.int .i64 (w64 (1 + y_r4_9_1.1))) hk rfl rfl rfl rfl (fun w hs => sv (.int .i64 (w64 (1 + y_r4_9_1.1))) hk rfl rfl rfl fun a hk => qe hk) fun a hk => ?_
      refine tsst hk rfl rfl (fun K_r4_3 hK_r4_3 w hF => ?_) ?_
      ·skip
       have hs := hs.f hF
       refine sbs (L := (Lay.int .i64)) (pv := [(0, (.int .i64 2)), (1, (.int .i64 2)), (2, (.int .i64 (w64 (1 + y_r4_1_1.1))))]) (xs := [2, 2, (w64 (1 + y_r4_1_1.1))]) (ess := [[.int .i64 2], [.int .i64 2], [.int .i64 (w64 (1 + y_r4_1_1.1))]]) 104061 hs rfl hk rfl rfl rfl un72 (bs3_8 2 2 (w64 (1 + y_r4_1_1.1))) (AllOwn.cons0 ⟨rfl, rfl⟩ (AllOwn.cons0 ⟨rfl, rfl⟩ (AllOwn.cons0 ⟨rfl, rfl⟩ AllOwn.nil))) rfl rfl rfl fun b_r4_3_1 k_r4_3_2 w a hk o_r4_3_3 hs => ?_
       refine se (hs.pick [(3, 3)] rfl) hk (hK_r4_3 _ _ ?_)
       obtain ⟨b_r4_6_2, q_r4_6_3, hAc_r4_6_1⟩ := (o_r4_3_3.view).some_ y_r4_5_1.1 c_r4_6_1.1 c_r4_6_1.2
       refine tqst (.pointer (some (padd (some ⟨b_r4_3_1, 0, none⟩) ((y_r4_5_1.1).toNat * 1)))) hk rfl rfl rfl rfl (fun w hs => si rfl hk rfl rfl rfl rfl un72 sz3 c_r4_6_1.1 c_r4_6_1.2 hAc_r4_6_1 fun a hk => qe hk) fun a hk => ?_
       refine tsst hk rfl rfl (fun K_r4_7 hK_r4_7 w hF => ?_) ?_
       ·skip
        have hs := hs.f hF
        obtain ⟨_, rfl, e_r4_7_1⟩ := (o_r4_3_3.view).at_ 0 y_r4_5_1.1 c_r4_6_1.1 c_r4_6_1.2
        refine sl (v := (.int .i64 (([2, 2, (w64 (1 + y_r4_1_1.1))]).getD (y_r4_5_1.1).toNat 0))) rfl hk rfl rfl rfl ag3 ((e_r4_7_1 0 _ rfl).cell (hs.hasG (k := 104061) rfl)) fun a hk => ?_
        refine se (hs.pick [(3, 3)] rfl) hk (hK_r4_7 _ _ ?_)
        refine tqst (.agg #[.int .i64 (([2, 2, (w64 (1 + y_r4_1_1.1))]).getD (y_r4_5_1.1).toNat 0), .int .i64 (w64 (1 + y_r4_9_1.1)), .int .i64 0]) hk rfl rfl rfl rfl (fun w hs => sbd (pv := [(0, (.int .i64 (([2, 2, (w64 (1 + y_r4_1_1.1))]).getD (y_r4_5_1.1).toNat 0))), (1, (.int .i64 (w64 (1 + y_r4_9_1.1))))]) rfl hk rfl rfl rfl (bd33_9 (([2, 2, (w64 (1 + y_r4_1_1.1))]).getD (y_r4_5_1.1).toNat 0) (w64 (1 + y_r4_9_1.1))) fun a hk => qe hk) fun a hk => ?_
        refine tsst hk rfl rfl (fun K_r4_12 hK_r4_12 w hF => ?_) wt_stop
        have hs := hs.f hF
        refine salx 104241 hs rfl hk rfl rfl ze33 rfl fun b_r4_12_1 w a hk hs => ?_
        refine se (hs.pick [(3, 3)] rfl) hk (hK_r4_12 _ _ ?_)
        refine tlst hk rfl rfl fun K_r4_13 hK_r4_13 w hF => ?_
        have hs := hs.f hF
        refine ssw 104241 hs rfl rfl hk rfl rfl rfl rfl sz33 (by simp [Value.oneCell']) rfl fun w a hk hs => ?_
        refine se trivial hk (hK_r4_13 _ _ fun w hF => ?_)
        have hs := hs.f hF
        show R5 _ _
        rw [hR5]
        exact ⟨b_r4_12_1, (hk.c 0 rfl (hk.c 2 rfl (hk.c 3 rfl hk.k))), (hs.pick [(1, 1), (3, 3), (104241, 104241)] rfl)⟩
       refine tsst hk rfl rfl (fun K_r4_12 hK_r4_12 w hF => ?_) wt_stop
       have hs := hs.f hF
       refine salx 104241 hs rfl hk rfl rfl ze33 rfl fun b_r4_12_1 w a hk hs => ?_
       refine se (hs.pick [(3, 3)] rfl) hk (hK_r4_12 _ _ ?_)
       refine tsst hk rfl rfl (fun K_r4_7 hK_r4_7 w hF => ?_) wt_stop
       have hs := hs.f hF
       obtain ⟨_, rfl, e_r4_7_1⟩ := (o_r4_3_3.view).at_ 0 y_r4_5_1.1 c_r4_6_1.1 c_r4_6_1.2
       refine sl (v := (.int .i64 (([2, 2, (w64 (1 + y_r4_1_1.1))]).getD (y_r4_5_1.1).toNat 0))) rfl hk rfl rfl rfl ag3 ((e_r4_7_1 0 _ rfl).cell (hs.hasG (k := 104061) rfl)) fun a hk => ?_
       refine se (hs.pick [(3, 3)] rfl) hk (hK_r4_7 _ _ ?_)
       refine tsst hk rfl rfl (fun K_r4_11 hK_r4_11 w hF => ?_) wt_stop
       have hs := hs.f hF
       refine sbd (pv := [(0, (.int .i64 (([2, 2, (w64 (1 + y_r4_1_1.1))]).getD (y_r4_5_1.1).toNat 0))), (1, (.int .i64 (w64 (1 + y_r4_9_1.1))))]) rfl hk rfl rfl rfl (bd33_9 (([2, 2, (w64 (1 + y_r4_1_1.1))]).getD (y_r4_5_1.1).toNat 0) (w64 (1 + y_r4_9_1.1))) fun a hk => ?_
       refine se (hs.pick [(3, 3)] rfl) hk (hK_r4_11 _ _ ?_)
       refine tlst hk rfl rfl fun K_r4_13 hK_r4_13 w hF => ?_
       have hs := hs.f hF
       refine ssw 104241 hs rfl rfl hk rfl rfl rfl rfl sz33 (by simp [Value.oneCell']) rfl fun w a hk hs => ?_
       refine se trivial hk (hK_r4_13 _ _ fun w hF => ?_)
       have hs := hs.f hF
       show R5 _ _
       rw [hR5]
       exact ⟨b_r4_12_1, (hk.c 0 rfl (hk.c 2 rfl (hk.c 3 rfl hk.k))), (hs.pick [(1, 1), (3, 3), (104241, 104241)] rfl)⟩
      refine tsst hk rfl rfl (fun K_r4_12 hK_r4_12 w hF => ?_) wt_stop
      have hs := hs.f hF
      refine salx 104241 hs rfl hk rfl rfl ze33 rfl fun b_r4_12_1 w a hk hs => ?_
      refine se (hs.pick [(3, 3)] rfl) hk (hK_r4_12 _ _ ?_)
      refine tsst hk rfl rfl (fun K_r4_3 hK_r4_3 w hF => ?_) wt_stop
      have hs := hs.f hF
      refine sbs (L := (Lay.int .i64)) (pv := [(0, (.int .i64 2)), (1, (.int .i64 2)), (2, (.int .i64 (w64 (1 + y_r4_1_1.1))))]) (xs := [2, 2, (w64 (1 + y_r4_1_1.1))]) (ess := [[.int .i64 2], [.int .i64 2], [.int .i64 (w64 (1 + y_r4_1_1.1))]]) 104061 hs rfl hk rfl rfl rfl un72 (bs3_8 2 2 (w64 (1 + y_r4_1_1.1))) (AllOwn.cons0 ⟨rfl, rfl⟩ (AllOwn.cons0 ⟨rfl, rfl⟩ (AllOwn.cons0 ⟨rfl, rfl⟩ AllOwn.nil))) rfl rfl rfl fun b_r4_3_1 k_r4_3_2 w a hk o_r4_3_3 hs => ?_
      refine se (hs.pick [(3, 3)] rfl) hk (hK_r4_3 _ _ ?_)
      refine tsst hk rfl rfl (fun K_r4_6 hK_r4_6 w hF => ?_) wt_stop
      have hs := hs.f hF
      obtain ⟨b_r4_6_2, q_r4_6_3, hAc_r4_6_1⟩ := (o_r4_3_3.view).some_ y_r4_5_1.1 c_r4_6_1.1 c_r4_6_1.2
      refine si rfl hk rfl rfl rfl rfl un72 sz3 c_r4_6_1.1 c_r4_6_1.2 hAc_r4_6_1 fun a hk => ?_
      refine se (hs.pick [(3, 3)] rfl) hk (hK_r4_6 _ _ ?_)
      refine tsst hk rfl rfl (fun K_r4_7 hK_r4_7 w hF => ?_) wt_stop
      have hs := hs.f hF
      obtain ⟨_, rfl, e_r4_7_1⟩ := (o_r4_3_3.view).at_ 0 y_r4_5_1.1 c_r4_6_1.1 c_r4_6_1.2
      refine sl (v := (.int .i64 (([2, 2, (w64 (1 + y_r4_1_1.1))]).getD (y_r4_5_1.1).toNat 0))) rfl hk rfl rfl rfl ag3 ((e_r4_7_1 0 _ rfl).cell (hs.hasG (k := 104061) rfl)) fun a hk => ?_
      refine se (hs.pick [(3, 3)] rfl) hk (hK_r4_7 _ _ ?_)
      refine tsst hk rfl rfl (fun K_r4_11 hK_r4_11 w hF => ?_) wt_stop
      have hs := hs.f hF
      refine sbd (pv := [(0, (.int .i64 (([2, 2, (w64 (1 + y_r4_1_1.1))]).getD (y_r4_5_1.1).toNat 0))), (1, (.int .i64 (w64 (1 + y_r4_9_1.1))))]) rfl hk rfl rfl rfl (bd33_9 (([2, 2, (w64 (1 + y_r4_1_1.1))]).getD (y_r4_5_1.1).toNat 0) (w64 (1 + y_r4_9_1.1))) fun a hk => ?_
      refine se (hs.pick [(3, 3)] rfl) hk (hK_r4_11 _ _ ?_)
      refine tlst hk rfl rfl fun K_r4_13 hK_r4_13 w hF => ?_
      have hs := hs.f hF
      refine ssw 104241 hs rfl rfl hk rfl rfl rfl rfl sz33 (by simp [Value.oneCell']) rfl fun w a hk hs => ?_
      refine se trivial hk (hK_r4_13 _ _ fun w hF => ?_)
      have hs := hs.f hF
      show R5 _ _
      rw [hR5]
      exact ⟨b_r4_12_1, (hk.c 0 rfl (hk.c 2 rfl (hk.c 3 rfl hk.k))), (hs.pick [(1, 1), (3, 3), (104241, 104241)] rfl)⟩
     refine tsst hk rfl rfl (fun K_r4_12 hK_r4_12 w hF => ?_) wt_stop
     have hs := hs.f hF
     refine salx 104241 hs rfl hk rfl rfl ze33 rfl fun b_r4_12_1 w a hk hs => ?_
     refine se (hs.pick [(3, 3)] rfl) hk (hK_r4_12 _ _ ?_)
     refine tsst hk rfl rfl (fun K_r4_3 hK_r4_3 w hF => ?_) ?_
     ·skip
      have hs := hs.f hF
      refine sbs (L := (Lay.int .i64)) (pv := [(0, (.int .i64 2)), (1, (.int .i64 2)), (2, (.int .i64 (w64 (1 + y_r4_1_1.1))))]) (xs := [2, 2, (w64 (1 + y_r4_1_1.1))]) (ess := [[.int .i64 2], [.int .i64 2], [.int .i64 (w64 (1 + y_r4_1_1.1))]]) 104061 hs rfl hk rfl rfl rfl un72 (bs3_8 2 2 (w64 (1 + y_r4_1_1.1))) (AllOwn.cons0 ⟨rfl, rfl⟩ (AllOwn.cons0 ⟨rfl, rfl⟩ (AllOwn.cons0 ⟨rfl, rfl⟩ AllOwn.nil))) rfl rfl rfl fun b_r4_3_1 k_r4_3_2 w a hk o_r4_3_3 hs => ?_
      refine se (hs.pick [(3, 3)] rfl) hk (hK_r4_3 _ _ ?_)
      obtain ⟨b_r4_6_2, q_r4_6_3, hAc_r4_6_1⟩ := (o_r4_3_3.view).some_ y_r4_5_1.1 c_r4_6_1.1 c_r4_6_1.2
      refine tqst (.pointer (some (padd (some ⟨b_r4_3_1, 0, none⟩) ((y_r4_5_1.1).toNat * 1)))) hk rfl rfl rfl rfl (fun w hs => si rfl hk rfl rfl rfl rfl un72 sz3 c_r4_6_1.1 c_r4_6_1.2 hAc_r4_6_1 fun a hk => qe hk) fun a hk => ?_
      refine tsst hk rfl rfl (fun K_r4_7 hK_r4_7 w hF => ?_) ?_
      ·skip
       have hs := hs.f hF
       obtain ⟨_, rfl, e_r4_7_1⟩ := (o_r4_3_3.view).at_ 0 y_r4_5_1.1 c_r4_6_1.1 c_r4_6_1.2
       refine sl (v := (.int .i64 (([2, 2, (w64 (1 + y_r4_1_1.1))]).getD (y_r4_5_1.1).toNat 0))) rfl hk rfl rfl rfl ag3 ((e_r4_7_1 0 _ rfl).cell (hs.hasG (k := 104061) rfl)) fun a hk => ?_
       refine se (hs.pick [(3, 3)] rfl) hk (hK_r4_7 _ _ ?_)
       refine tsst hk rfl rfl (fun K_r4_9 hK_r4_9 w hF => ?_) wt_stop
       have hs := hs.f hF
       refine sc rfl en44 hk rfl rfl rfl (spec_l00Src_next_t _ b0_ (⟨x0.code, y_r4_5_1.2.1, y_r4_5_1.2.2⟩ : S_l00Src) A0_0 p0_0 _ v0_0 (hs.hasD (k := 2) rfl) 14 ((hs.hand [(1, 1)] rfl).dpick [(2, 2)] rfl) _ h_r4_9_2) ?_
       rintro _ w ⟨rfl, hG⟩ a hk
       have hs := hs.back [(1, 1)] rfl hG [1] rfl
       refine se (hs.pick [(3, 3)] rfl) hk (hK_r4_9 _ _ ?_)
       refine tsst hk rfl rfl (fun K_r4_10 hK_r4_10 w hF => ?_) wt_stop
       have hs := hs.f hF
       refine sv (.int .i64 (w64 (1 + y_r4_9_1.1))) hk rfl rfl rfl fun a hk => ?_
       refine se (hs.pick [(3, 3)] rfl) hk (hK_r4_10 _ _ ?_)
       refine tsst hk rfl rfl (fun K_r4_11 hK_r4_11 w hF => ?_) wt_stop
       have hs := hs.f hF
       refine sbd (pv := [(0, (.int .i64 (([2, 2, (w64 (1 + y_r4_1_1.1))]).getD (y_r4_5_1.1).toNat 0))), (1, (.int .i64 (w64 (1 + y_r4_9_1.1))))]) rfl hk rfl rfl rfl (bd33_9 (([2, 2, (w64 (1 + y_r4_1_1.1))]).getD (y_r4_5_1.1).toNat 0) (w64 (1 + y_r4_9_1.1))) fun a hk => ?_
       refine se (hs.pick [(3, 3)] rfl) hk (hK_r4_11 _ _ ?_)
       refine tlst hk rfl rfl fun K_r4_13 hK_r4_13 w hF => ?_
       have hs := hs.f hF
       refine ssw 104241 hs rfl rfl hk rfl rfl rfl rfl sz33 (by simp [Value.oneCell']) rfl fun w a hk hs => ?_
       refine se trivial hk (hK_r4_13 _ _ fun w hF => ?_)
       have hs := hs.f hF
       show R5 _ _
       rw [hR5]
       exact ⟨b_r4_12_1, (hk.c 0 rfl (hk.c 2 rfl (hk.c 3 rfl hk.k))), (hs.pick [(1, 1), (3, 3), (104241, 104241)] rfl)⟩
      refine tsst hk rfl rfl (fun K_r4_9 hK_r4_9 w hF => ?_) wt_stop
      have hs := hs.f hF
      refine sc rfl en44 hk rfl rfl rfl (spec_l00Src_next_t _ b0_ (⟨x0.code, y_r4_5_1.2.1, y_r4_5_1.2.2⟩ : S_l00Src) A0_0 p0_0 _ v0_0 (hs.hasD (k := 2) rfl) 14 ((hs.hand [(1, 1)] rfl).dpick [(2, 2)] rfl) _ h_r4_9_2) ?_
      rintro _ w ⟨rfl, hG⟩ a hk
      have hs := hs.back [(1, 1)] rfl hG [1] rfl
      refine se (hs.pick [(3, 3)] rfl) hk (hK_r4_9 _ _ ?_)
      refine tqst (.int .i64 (w64 (1 + y_r4_9_1.1))) hk rfl rfl rfl rfl (fun w hs => sv (.int .i64 (w64 (1 + y_r4_9_1.1))) hk rfl rfl rfl fun a hk => qe hk) fun a hk => ?_
      refine tsst hk rfl rfl (fun K_r4_7 hK_r4_7 w hF => ?_) wt_stop
      have hs := hs.f hF
      obtain ⟨_, rfl, e_r4_7_1⟩ := (o_r4_3_3.view).at_ 0 y_r4_5_1.1 c_r4_6_1.1 c_r4_6_1.2
      refine sl (v := (.int .i64 (([2, 2, (w64 (1 + y_r4_1_1.1))]).getD (y_r4_5_1.1).toNat 0))) rfl hk rfl rfl rfl ag3 ((e_r4_7_1 0 _ rfl).cell (hs.hasG (k := 104061) rfl)) fun a hk => ?_
      refine se (hs.pick [(3, 3)] rfl) hk (hK_r4_7 _ _ ?_)
      refine tsst hk rfl rfl (fun K_r4_11 hK_r4_11 w hF => ?_) wt_stop
      have hs := hs.f hF
      refine sbd (pv := [(0, (.int .i64 (([2, 2, (w64 (1 + y_r4_1_1.1))]).getD (y_r4_5_1.1).toNat 0))), (1, (.int .i64 (w64 (1 + y_r4_9_1.1))))]) rfl hk rfl rfl rfl (bd33_9 (([2, 2, (w64 (1 + y_r4_1_1.1))]).getD (y_r4_5_1.1).toNat 0) (w64 (1 + y_r4_9_1.1))) fun a hk => ?_
      refine se (hs.pick [(3, 3)] rfl) hk (hK_r4_11 _ _ ?_)
      refine tlst hk rfl rfl fun K_r4_13 hK_r4_13 w hF => ?_
      have hs := hs.f hF
      refine ssw 104241 hs rfl rfl hk rfl rfl rfl rfl sz33 (by simp [Value.oneCell']) rfl fun w a hk hs => ?_
      refine se trivial hk (hK_r4_13 _ _ fun w hF => ?_)
      have hs := hs.f hF
      show R5 _ _
      rw [hR5]
      exact ⟨b_r4_12_1, (hk.c 0 rfl (hk.c 2 rfl (hk.c 3 rfl hk.k))), (hs.pick [(1, 1), (3, 3), (104241, 104241)] rfl)⟩
     refine tsst hk rfl rfl (fun K_r4_9 hK_r4_9 w hF => ?_) wt_stop
     have hs := hs.f hF
     refine sc rfl en44 hk rfl rfl rfl (spec_l00Src_next_t _ b0_ (⟨x0.code, y_r4_5_1.2.1, y_r4_5_1.2.2⟩ : S_l00Src) A0_0 p0_0 _ v0_0 (hs.hasD (k := 2) rfl) 14 ((hs.hand [(1, 1)] rfl).dpick [(2, 2)] rfl) _ h_r4_9_2) ?_
     rintro _ w ⟨rfl, hG⟩ a hk
     have hs := hs.back [(1, 1)] rfl hG [1] rfl
     refine se (hs.pick [(3, 3)] rfl) hk (hK_r4_9 _ _ ?_)
     refine tqst (.int .i64 (w64 (1 + y_r4_9_1.1))) hk rfl rfl rfl rfl (fun w hs => sv (.int .i64 (w64 (1 + y_r4_9_1.1))) hk rfl rfl rfl fun a hk => qe hk) fun a hk => ?_
     refine tsst hk rfl rfl (fun K_r4_3 hK_r4_3 w hF => ?_) wt_stop
     have hs := hs.f hF
     refine sbs (L := (Lay.int .i64)) (pv := [(0, (.int .i64 2)), (1, (.int .i64 2)), (2, (.int .i64 (w64 (1 + y_r4_1_1.1))))]) (xs := [2, 2, (w64 (1 + y_r4_1_1.1))]) (ess := [[.int .i64 2], [.int .i64 2], [.int .i64 (w64 (1 + y_r4_1_1.1))]]) 104061 hs rfl hk rfl rfl rfl un72 (bs3_8 2 2 (w64 (1 + y_r4_1_1.1))) (AllOwn.cons0 ⟨rfl, rfl⟩ (AllOwn.cons0 ⟨rfl, rfl⟩ (AllOwn.cons0 ⟨rfl, rfl⟩ AllOwn.nil))) rfl rfl rfl fun b_r4_3_1 k_r4_3_2 w a hk o_r4_3_3 hs => ?_
     refine se (hs.pick [(3, 3)] rfl) hk (hK_r4_3 _ _ ?_)
     refine tsst hk rfl rfl (fun K_r4_6 hK_r4_6 w hF => ?_) wt_stop
     have hs := hs.f hF
     obtain ⟨b_r4_6_2, q_r4_6_3, hAc_r4_6_1⟩ := (o_r4_3_3.view).some_ y_r4_5_1.1 c_r4_6_1.1 c_r4_6_1.2
     refine si rfl hk rfl rfl rfl rfl un72 sz3 c_r4_6_1.1 c_r4_6_1.2 hAc_r4_6_1 fun a hk => ?_
     refine se (hs.pick [(3, 3)] rfl) hk (hK_r4_6 _ _ ?_)
     refine tsst hk rfl rfl (fun K_r4_7 hK_r4_7 w hF => ?_) wt_stop
     have hs := hs.f hF
     obtain ⟨_, rfl, e_r4_7_1⟩ := (o_r4_3_3.view).at_ 0 y_r4_5_1.1 c_r4_6_1.1 c_r4_6_1.2
     refine sl (v := (.int .i64 (([2, 2, (w64 (1 + y_r4_1_1.1))]).getD (y_r4_5_1.1).toNat 0))) rfl hk rfl rfl rfl ag3 ((e_r4_7_1 0 _ rfl).cell (hs.hasG (k := 104061) rfl)) fun a hk => ?_
     refine se (hs.pick [(3, 3)] rfl) hk (hK_r4_7 _ _ ?_)
     refine tsst hk rfl rfl (fun K_r4_11 hK_r4_11 w hF => ?_) wt_stop
     have hs := hs.f hF
     refine sbd (pv := [(0, (.int .i64 (([2, 2, (w64 (1 + y_r4_1_1.1))]).getD (y_r4_5_1.1).toNat 0))), (1, (.int .i64 (w64 (1 + y_r4_9_1.1))))]) rfl hk rfl rfl rfl (bd33_9 (([2, 2, (w64 (1 + y_r4_1_1.1))]).getD (y_r4_5_1.1).toNat 0) (w64 (1 + y_r4_9_1.1))) fun a hk => ?_
     refine se (hs.pick [(3, 3)] rfl) hk (hK_r4_11 _ _ ?_)
     refine tlst hk rfl rfl fun K_r4_13 hK_r4_13 w hF => ?_
     have hs := hs.f hF
     refine ssw 104241 hs rfl rfl hk rfl rfl rfl rfl sz33 (by simp [Value.oneCell']) rfl fun w a hk hs => ?_
     refine se trivial hk (hK_r4_13 _ _ fun w hF => ?_)
     have hs := hs.f hF
     show R5 _ _
     rw [hR5]
     exact ⟨b_r4_12_1, (hk.c 0 rfl (hk.c 2 rfl (hk.c 3 rfl hk.k))), (hs.pick [(1, 1), (3, 3), (104241, 104241)] rfl)⟩
    refine tsst hk rfl rfl (fun K_r4_12 hK_r4_12 w hF => ?_) wt_stop
    have hs := hs.f hF
    refine salx 104241 hs rfl hk rfl rfl ze33 rfl fun b_r4_12_1 w a hk hs => ?_
    refine se (hs.pick [(3, 3)] rfl) hk (hK_r4_12 _ _ ?_)
    refine tsst hk rfl rfl (fun K_r4_3 hK_r4_3 w hF => ?_) ?_
    ·skip
     have hs := hs.f hF
     refine sbs (L := (Lay.int .i64)) (pv := [(0, (.int .i64 2)), (1, (.int .i64 2)), (2, (.int .i64 (w64 (1 + y_r4_1_1.1))))]) (xs := [2, 2, (w64 (1 + y_r4_1_1.1))]) (ess := [[.int .i64 2], [.int .i64 2], [.int .i64 (w64 (1 + y_r4_1_1.1))]]) 104061 hs rfl hk rfl rfl rfl un72 (bs3_8 2 2 (w64 (1 + y_r4_1_1.1))) (AllOwn.cons0 ⟨rfl, rfl⟩ (AllOwn.cons0 ⟨rfl, rfl⟩ (AllOwn.cons0 ⟨rfl, rfl⟩ AllOwn.nil))) rfl rfl rfl fun b_r4_3_1 k_r4_3_2 w a hk o_r4_3_3 hs => ?_
     refine se (hs.pick [(3, 3)] rfl) hk (hK_r4_3 _ _ ?_)
     refine tsst hk rfl rfl (fun K_r4_5 hK_r4_5 w hF => ?_) wt_stop
     have hs := hs.f hF
     refine sc rfl en44 hk rfl rfl rfl (spec_l00Src_next_t _ b0_ (⟨x0.code, y_r4_1_1.2.1, y_r4_1_1.2.2⟩ : S_l00Src) A0_0 p0_0 _ v0_0 (hs.hasD (k := 2) rfl) 3 ((hs.hand [(1, 1)] rfl).dpick [(2, 2)] rfl) _ h_r4_5_2) ?_
     rintro _ w ⟨rfl, hG⟩ a hk
     have hs := hs.back [(1, 1)] rfl hG [1] rfl
     refine se (hs.pick [(3, 3)] rfl) hk (hK_r4_5 _ _ ?_)
     obtain ⟨b_r4_6_2, q_r4_6_3, hAc_r4_6_1⟩ := (o_r4_3_3.view).some_ y_r4_5_1.1 c_r4_6_1.1 c_r4_6_1.2
     refine tqst (.pointer (some (padd (some ⟨b_r4_3_1, 0, none⟩) ((y_r4_5_1.1).toNat * 1)))) hk rfl rfl rfl rfl (fun w hs => si rfl hk rfl rfl rfl rfl un72 sz3 c_r4_6_1.1 c_r4_6_1.2 hAc_r4_6_1 fun a hk => qe hk) fun a hk => ?_
     refine tsst hk rfl rfl (fun K_r4_7 hK_r4_7 w hF => ?_) ?_
     ·skip
      have hs := hs.f hF
      obtain ⟨_, rfl, e_r4_7_1⟩ := (o_r4_3_3.view).at_ 0 y_r4_5_1.1 c_r4_6_1.1 c_r4_6_1.2
      refine sl (v := (.int .i64 (([2, 2, (w64 (1 + y_r4_1_1.1))]).getD (y_r4_5_1.1).toNat 0))) rfl hk rfl rfl rfl ag3 ((e_r4_7_1 0 _ rfl).cell (hs.hasG (k := 104061) rfl)) fun a hk => ?_
      refine se (hs.pick [(3, 3)] rfl) hk (hK_r4_7 _ _ ?_)
      refine tsst hk rfl rfl (fun K_r4_9 hK_r4_9 w hF => ?_) wt_stop
      have hs := hs.f hF
      refine sc rfl en44 hk rfl rfl rfl (spec_l00Src_next_t _ b0_ (⟨x0.code, y_r4_5_1.2.1, y_r4_5_1.2.2⟩ : S_l00Src) A0_0 p0_0 _ v0_0 (hs.hasD (k := 2) rfl) 14 ((hs.hand [(1, 1)] rfl).dpick [(2, 2)] rfl) _ h_r4_9_2) ?_
      rintro _ w ⟨rfl, hG⟩ a hk
      have hs := hs.back [(1, 1)] rfl hG [1] rfl
      refine se (hs.pick [(3, 3)] rfl) hk (hK_r4_9 _ _ ?_)
      refine tsst hk rfl rfl (fun K_r4_10 hK_r4_10 w hF => ?_) wt_stop
      have hs := hs.f hF
      refine sv (.int .i64 (w64 (1 + y_r4_9_1.1))) hk rfl rfl rfl fun a hk => ?_
      refine se (hs.pick [(3, 3)] rfl) hk (hK_r4_10 _ _ ?_)
      refine tsst hk rfl rfl (fun K_r4_11 hK_r4_11 w hF => ?_) wt_stop
      have hs := hs.f hF
      refine sbd (pv := [(0, (.int .i64 (([2, 2, (w64 (1 + y_r4_1_1.1))]).getD (y_r4_5_1.1).toNat 0))), (1, (.int .i64 (w64 (1 + y_r4_9_1.1))))]) rfl hk rfl rfl rfl (bd33_9 (([2, 2, (w64 (1 + y_r4_1_1.1))]).getD (y_r4_5_1.1).toNat 0) (w64 (1 + y_r4_9_1.1))) fun a hk => ?_
      refine se (hs.pick [(3, 3)] rfl) hk (hK_r4_11 _ _ ?_)
      refine tlst hk rfl rfl fun K_r4_13 hK_r4_13 w hF => ?_
      have hs := hs.f hF
      refine ssw 104241 hs rfl rfl hk rfl rfl rfl rfl sz33 (by simp [Value.oneCell']) rfl fun w a hk hs => ?_
      refine se trivial hk (hK_r4_13 _ _ fun w hF => ?_)
      have hs := hs.f hF
      show R5 _ _
      rw [hR5]
      exact ⟨b_r4_12_1, (hk.c 0 rfl (hk.c 2 rfl (hk.c 3 rfl hk.k))), (hs.pick [(1, 1), (3, 3), (104241, 104241)] rfl)⟩
     refine tsst hk rfl rfl (fun K_r4_9 hK_r4_9 w hF => ?_) wt_stop
     have hs := hs.f hF
     refine sc rfl en44 hk rfl rfl rfl (spec_l00Src_next_t _ b0_ (⟨x0.code, y_r4_5_1.2.1, y_r4_5_1.2.2⟩ : S_l00Src) A0_0 p0_0 _ v0_0 (hs.hasD (k := 2) rfl) 14 ((hs.hand [(1, 1)] rfl).dpick [(2, 2)] rfl) _ h_r4_9_2) ?_
     rintro _ w ⟨rfl, hG⟩ a hk
     have hs := hs.back [(1, 1)] rfl hG [1] rfl
     refine se (hs.pick [(3, 3)] rfl) hk (hK_r4_9 _ _ ?_)
     refine tqst (.int .i64 (w64 (1 + y_r4_9_1.1))) hk rfl rfl rfl rfl (fun w hs => sv (.int .i64 (w64 (1 + y_r4_9_1.1))) hk rfl rfl rfl fun a hk => qe hk) fun a hk => ?_
     refine tsst hk rfl rfl (fun K_r4_7 hK_r4_7 w hF => ?_) wt_stop
     have hs := hs.f hF
     obtain ⟨_, rfl, e_r4_7_1⟩ := (o_r4_3_3.view).at_ 0 y_r4_5_1.1 c_r4_6_1.1 c_r4_6_1.2
     refine sl (v := (.int .i64 (([2, 2, (w64 (1 + y_r4_1_1.1))]).getD (y_r4_5_1.1).toNat 0))) rfl hk rfl rfl rfl ag3 ((e_r4_7_1 0 _ rfl).cell (hs.hasG (k := 104061) rfl)) fun a hk => ?_
     refine se (hs.pick [(3, 3)] rfl) hk (hK_r4_7 _ _ ?_)
     refine tsst hk rfl rfl (fun K_r4_11 hK_r4_11 w hF => ?_) wt_stop
     have hs := hs.f hF
     refine sbd (pv := [(0, (.int .i64 (([2, 2, (w64 (1 + y_r4_1_1.1))]).getD (y_r4_5_1.1).toNat 0))), (1, (.int .i64 (w64 (1 + y_r4_9_1.1))))]) rfl hk rfl rfl rfl (bd33_9 (([2, 2, (w64 (1 + y_r4_1_1.1))]).getD (y_r4_5_1.1).toNat 0) (w64 (1 + y_r4_9_1.1))) fun a hk => ?_
     refine se (hs.pick [(3, 3)] rfl) hk (hK_r4_11 _ _ ?_)
     refine tlst hk rfl rfl fun K_r4_13 hK_r4_13 w hF => ?_
     have hs := hs.f hF
     refine ssw 104241 hs rfl rfl hk rfl rfl rfl rfl sz33 (by simp [Value.oneCell']) rfl fun w a hk hs => ?_
     refine se trivial hk (hK_r4_13 _ _ fun w hF => ?_)
     have hs := hs.f hF
     show R5 _ _
     rw [hR5]
     exact ⟨b_r4_12_1, (hk.c 0 rfl (hk.c 2 rfl (hk.c 3 rfl hk.k))), (hs.pick [(1, 1), (3, 3), (104241, 104241)] rfl)⟩
    refine tsst hk rfl rfl (fun K_r4_5 hK_r4_5 w hF => ?_) wt_stop
    have hs := hs.f hF
    refine sc rfl en44 hk rfl rfl rfl (spec_l00Src_next_t _ b0_ (⟨x0.code, y_r4_1_1.2.1, y_r4_1_1.2.2⟩ : S_l00Src) A0_0 p0_0 _ v0_0 (hs.hasD (k := 2) rfl) 3 ((hs.hand [(1, 1)] rfl).dpick [(2, 2)] rfl) _ h_r4_5_2) ?_
    rintro _ w ⟨rfl, hG⟩ a hk
    have hs := hs.back [(1, 1)] rfl hG [1] rfl
    refine se (hs.pick [(3, 3)] rfl) hk (hK_r4_5 _ _ ?_)
    refine tsst hk rfl rfl (fun K_r4_3 hK_r4_3 w hF => ?_) ?_
    ·skip
     have hs := hs.f hF
     refine sbs (L := (Lay.int .i64)) (pv := [(0, (.int .i64 2)), (1, (.int .i64 2)), (2, (.int .i64 (w64 (1 + y_r4_1_1.1))))]) (xs := [2, 2, (w64 (1 + y_r4_1_1.1))]) (ess := [[.int .i64 2], [.int .i64 2], [.int .i64 (w64 (1 + y_r4_1_1.1))]]) 104061 hs rfl hk rfl rfl rfl un72 (bs3_8 2 2 (w64 (1 + y_r4_1_1.1))) (AllOwn.cons0 ⟨rfl, rfl⟩ (AllOwn.cons0 ⟨rfl, rfl⟩ (AllOwn.cons0 ⟨rfl, rfl⟩ AllOwn.nil))) rfl rfl rfl fun b_r4_3_1 k_r4_3_2 w a hk o_r4_3_3 hs => ?_
     refine se (hs.pick [(3, 3)] rfl) hk (hK_r4_3 _ _ ?_)
     obtain ⟨b_r4_6_2, q_r4_6_3, hAc_r4_6_1⟩ := (o_r4_3_3.view).some_ y_r4_5_1.1 c_r4_6_1.1 c_r4_6_1.2
     refine tqst (.pointer (some (padd (some ⟨b_r4_3_1, 0, none⟩) ((y_r4_5_1.1).toNat * 1)))) hk rfl rfl rfl rfl (fun w hs => si rfl hk rfl rfl rfl rfl un72 sz3 c_r4_6_1.1 c_r4_6_1.2 hAc_r4_6_1 fun a hk => qe hk) fun a hk => ?_
     refine tsst hk rfl rfl (fun K_r4_7 hK_r4_7 w hF => ?_) ?_
     ·skip
      have hs := hs.f hF
      obtain ⟨_, rfl, e_r4_7_1⟩ := (o_r4_3_3.view).at_ 0 y_r4_5_1.1 c_r4_6_1.1 c_r4_6_1.2
      refine sl (v := (.int .i64 (([2, 2, (w64 (1 + y_r4_1_1.1))]).getD (y_r4_5_1.1).toNat 0))) rfl hk rfl rfl rfl ag3 ((e_r4_7_1 0 _ rfl).cell (hs.hasG (k := 104061) rfl)) fun a hk => ?_
      refine se (hs.pick [(3, 3)] rfl) hk (hK_r4_7 _ _ ?_)
      refine tsst hk rfl rfl (fun K_r4_9 hK_r4_9 w hF => ?_) wt_stop
      have hs := hs.f hF
      refine sc rfl en44 hk rfl rfl rfl (spec_l00Src_next_t _ b0_ (⟨x0.code, y_r4_5_1.2.1, y_r4_5_1.2.2⟩ : S_l00Src) A0_0 p0_0 _ v0_0 (hs.hasD (k := 2) rfl) 14 ((hs.hand [(1, 1)] rfl).dpick [(2, 2)] rfl) _ h_r4_9_2) ?_
      rintro _ w ⟨rfl, hG⟩ a hk
      have hs := hs.back [(1, 1)] rfl hG [1] rfl
      refine se (hs.pick [(3, 3)] rfl) hk (hK_r4_9 _ _ ?_)
      refine tsst hk rfl rfl (fun K_r4_10 hK_r4_10 w hF => ?_) wt_stop
      have hs := hs.f hF
      refine sv (.int .i64 (w64 (1 + y_r4_9_1.1))) hk rfl rfl rfl fun a hk => ?_
      refine se (hs.pick [(3, 3)] rfl) hk (hK_r4_10 _ _ ?_)
      refine tsst hk rfl rfl (fun K_r4_11 hK_r4_11 w hF => ?_) wt_stop
      have hs := hs.f hF
      refine sbd (pv := [(0, (.int .i64 (([2, 2, (w64 (1 + y_r4_1_1.1))]).getD (y_r4_5_1.1).toNat 0))), (1, (.int .i64 (w64 (1 + y_r4_9_1.1))))]) rfl hk rfl rfl rfl (bd33_9 (([2, 2, (w64 (1 + y_r4_1_1.1))]).getD (y_r4_5_1.1).toNat 0) (w64 (1 + y_r4_9_1.1))) fun a hk => ?_
      refine se (hs.pick [(3, 3)] rfl) hk (hK_r4_11 _ _ ?_)
      refine tlst hk rfl rfl fun K_r4_13 hK_r4_13 w hF => ?_
      have hs := hs.f hF
      refine ssw 104241 hs rfl rfl hk rfl rfl rfl rfl sz33 (by simp [Value.oneCell']) rfl fun w a hk hs => ?_
      refine se trivial hk (hK_r4_13 _ _ fun w hF => ?_)
      have hs := hs.f hF
      show R5 _ _
      rw [hR5]
      exact ⟨b_r4_12_1, (hk.c 0 rfl (hk.c 2 rfl (hk.c 3 rfl hk.k))), (hs.pick [(1, 1), (3, 3), (104241, 104241)] rfl)⟩
     refine tsst hk rfl rfl (fun K_r4_9 hK_r4_9 w hF => ?_) wt_stop
     have hs := hs.f hF
     refine sc rfl en44 hk rfl rfl rfl (spec_l00Src_next_t _ b0_ (⟨x0.code, y_r4_5_1.2.1, y_r4_5_1.2.2⟩ : S_l00Src) A0_0 p0_0 _ v0_0 (hs.hasD (k := 2) rfl) 14 ((hs.hand [(1, 1)] rfl).dpick [(2, 2)] rfl) _ h_r4_9_2) ?_
     rintro _ w ⟨rfl, hG⟩ a hk
     have hs := hs.back [(1, 1)] rfl hG [1] rfl
     refine se (hs.pick [(3, 3)] rfl) hk (hK_r4_9 _ _ ?_)
     refine tqst (.int .i64 (w64 (1 + y_r4_9_1.1))) hk rfl rfl rfl rfl (fun w hs => sv (.int .i64 (w64 (1 + y_r4_9_1.1))) hk rfl rfl rfl fun a hk => qe hk) fun a hk => ?_
     refine tsst hk rfl rfl (fun K_r4_7 hK_r4_7 w hF => ?_) wt_stop
     have hs := hs.f hF
     obtain ⟨_, rfl, e_r4_7_1⟩ := (o_r4_3_3.view).at_ 0 y_r4_5_1.1 c_r4_6_1.1 c_r4_6_1.2
     refine sl (v := (.int .i64 (([2, 2, (w64 (1 + y_r4_1_1.1))]).getD (y_r4_5_1.1).toNat 0))) rfl hk rfl rfl rfl ag3 ((e_r4_7_1 0 _ rfl).cell (hs.hasG (k := 104061) rfl)) fun a hk => ?_
     refine se (hs.pick [(3, 3)] rfl) hk (hK_r4_7 _ _ ?_)
     refine tsst hk rfl rfl (fun K_r4_11 hK_r4_11 w hF => ?_) wt_stop
     have hs := hs.f hF
     refine sbd (pv := [(0, (.int .i64 (([2, 2, (w64 (1 + y_r4_1_1.1))]).getD (y_r4_5_1.1).toNat 0))), (1, (.int .i64 (w64 (1 + y_r4_9_1.1))))]) rfl hk rfl rfl rfl (bd33_9 (([2, 2, (w64 (1 + y_r4_1_1.1))]).getD (y_r4_5_1.1).toNat 0) (w64 (1 + y_r4_9_1.1))) fun a hk => ?_
     refine se (hs.pick [(3, 3)] rfl) hk (hK_r4_11 _ _ ?_)
     refine tlst hk rfl rfl fun K_r4_13 hK_r4_13 w hF => ?_
     have hs := hs.f hF
     refine ssw 104241 hs rfl rfl hk rfl rfl rfl rfl sz33 (by simp [Value.oneCell']) rfl fun w a hk hs => ?_
     refine se trivial hk (hK_r4_13 _ _ fun w hF => ?_)
     have hs := hs.f hF
     show R5 _ _
     rw [hR5]
     exact ⟨b_r4_12_1, (hk.c 0 rfl (hk.c 2 rfl (hk.c 3 rfl hk.k))), (hs.pick [(1, 1), (3, 3), (104241, 104241)] rfl)⟩
    refine tsst hk rfl rfl (fun K_r4_9 hK_r4_9 w hF => ?_) wt_stop
    have hs := hs.f hF
    refine sc rfl en44 hk rfl rfl rfl (spec_l00Src_next_t _ b0_ (⟨x0.code, y_r4_5_1.2.1, y_r4_5_1.2.2⟩ : S_l00Src) A0_0 p0_0 _ v0_0 (hs.hasD (k := 2) rfl) 14 ((hs.hand [(1, 1)] rfl).dpick [(2, 2)] rfl) _ h_r4_9_2) ?_
    rintro _ w ⟨rfl, hG⟩ a hk
    have hs := hs.back [(1, 1)] rfl hG [1] rfl
    refine se (hs.pick [(3, 3)] rfl) hk (hK_r4_9 _ _ ?_)
    refine tqst (.int .i64 (w64 (1 + y_r4_9_1.1))) hk rfl rfl rfl rfl (fun w hs => sv (.int .i64 (w64 (1 + y_r4_9_1.1))) hk rfl rfl rfl fun a hk => qe hk) fun a hk => ?_
    refine tsst hk rfl rfl (fun K_r4_3 hK_r4_3 w hF => ?_) wt_stop
    have hs := hs.f hF
    refine sbs (L := (Lay.int .i64)) (pv := [(0, (.int .i64 2)), (1, (.int .i64 2)), (2, (.int .i64 (w64 (1 + y_r4_1_1.1))))]) (xs := [2, 2, (w64 (1 + y_r4_1_1.1))]) (ess := [[.int .i64 2], [.int .i64 2], [.int .i64 (w64 (1 + y_r4_1_1.1))]]) 104061 hs rfl hk rfl rfl rfl un72 (bs3_8 2 2 (w64 (1 + y_r4_1_1.1))) (AllOwn.cons0 ⟨rfl, rfl⟩ (AllOwn.cons0 ⟨rfl, rfl⟩ (AllOwn.cons0 ⟨rfl, rfl⟩ AllOwn.nil))) rfl rfl rfl fun b_r4_3_1 k_r4_3_2 w a hk o_r4_3_3 hs => ?_
    refine se (hs.pick [(3, 3)] rfl) hk (hK_r4_3 _ _ ?_)
    refine tsst hk rfl rfl (fun K_r4_6 hK_r4_6 w hF => ?_) wt_stop
    have hs := hs.f hF
    obtain ⟨b_r4_6_2, q_r4_6_3, hAc_r4_6_1⟩ := (o_r4_3_3.view).some_ y_r4_5_1.1 c_r4_6_1.1 c_r4_6_1.2
    refine si rfl hk rfl rfl rfl rfl un72 sz3 c_r4_6_1.1 c_r4_6_1.2 hAc_r4_6_1 fun a hk => ?_
    refine se (hs.pick [(3, 3)] rfl) hk (hK_r4_6 _ _ ?_)
    refine tsst hk rfl rfl (fun K_r4_7 hK_r4_7 w hF => ?_) wt_stop
    have hs := hs.f hF
    obtain ⟨_, rfl, e_r4_7_1⟩ := (o_r4_3_3.view).at_ 0 y_r4_5_1.1 c_r4_6_1.1 c_r4_6_1.2
    refine sl (v := (.int .i64 (([2, 2, (w64 (1 + y_r4_1_1.1))]).getD (y_r4_5_1.1).toNat 0))) rfl hk rfl rfl rfl ag3 ((e_r4_7_1 0 _ rfl).cell (hs.hasG (k := 104061) rfl)) fun a hk => ?_
    refine se (hs.pick [(3, 3)] rfl) hk (hK_r4_7 _ _ ?_)
    refine tsst hk rfl rfl (fun K_r4_11 hK_r4_11 w hF => ?_) wt_stop
    have hs := hs.f hF
    refine sbd (pv := [(0, (.int .i64 (([2, 2, (w64 (1 + y_r4_1_1.1))]).getD (y_r4_5_1.1).toNat 0))), (1, (.int .i64 (w64 (1 + y_r4_9_1.1))))]) rfl hk rfl rfl rfl (bd33_9 (([2, 2, (w64 (1 + y_r4_1_1.1))]).getD (y_r4_5_1.1).toNat 0) (w64 (1 + y_r4_9_1.1))) fun a hk => ?_
    refine se (hs.pick [(3, 3)] rfl) hk (hK_r4_11 _ _ ?_)
    refine tlst hk rfl rfl fun K_r4_13 hK_r4_13 w hF => ?_
    have hs := hs.f hF
    refine ssw 104241 hs rfl rfl hk rfl rfl rfl rfl sz33 (by simp [Value.oneCell']) rfl fun w a hk hs => ?_
    refine se trivial hk (hK_r4_13 _ _ fun w hF => ?_)
    have hs := hs.f hF
    show R5 _ _
    rw [hR5]
    exact ⟨b_r4_12_1, (hk.c 0 rfl (hk.c 2 rfl (hk.c 3 rfl hk.k))), (hs.pick [(1, 1), (3, 3), (104241, 104241)] rfl)⟩
   refine tsst hk rfl rfl (fun K_r4_12 hK_r4_12 w hF => ?_) wt_stop
   have hs := hs.f hF
   refine salx 104241 hs rfl hk rfl rfl ze33 rfl fun b_r4_12_1 w a hk hs => ?_
   refine se (hs.pick [(3, 3)] rfl) hk (hK_r4_12 _ _ ?_)
   refine tsst hk rfl rfl (fun K_r4_1 hK_r4_1 w hF => ?_) wt_stop
   have hs := hs.f hF
   refine sc rfl en44 hk rfl rfl rfl (spec_l00Src_next_t _ b0_ x0 A0_0 p0_0 _ v0_0 (hs.hasD (k := 2) rfl) 6 ((hs.hand [(1, 1)] rfl).dpick [(2, 2)] rfl) _ h_r4_1_2) ?_
   rintro _ w ⟨rfl, hG⟩ a hk
   have hs := hs.back [(1, 1)] rfl hG [1] rfl
   refine se (hs.pick [(3, 3)] rfl) hk (hK_r4_1 _ _ ?_)
   refine tqst (.int .i64 (w64 (1 + y_r4_1_1.1))) hk rfl rfl rfl rfl (fun w hs => sv (.int .i64 (w64 (1 + y_r4_1_1.1))) hk rfl rfl rfl fun a hk => qe hk) fun a hk => ?_
   refine tsst hk rfl rfl (fun K_r4_3 hK_r4_3 w hF => ?_) ?_
   ·skip
    have hs := hs.f hF
    refine sbs (L := (Lay.int .i64)) (pv := [(0, (.int .i64 2)), (1, (.int .i64 2)), (2, (.int .i64 (w64 (1 + y_r4_1_1.1))))]) (xs := [2, 2, (w64 (1 + y_r4_1_1.1))]) (ess := [[.int .i64 2], [.int .i64 2], [.int .i64 (w64 (1 + y_r4_1_1.1))]]) 104061 hs rfl hk rfl rfl rfl un72 (bs3_8 2 2 (w64 (1 + y_r4_1_1.1))) (AllOwn.cons0 ⟨rfl, rfl⟩ (AllOwn.cons0 ⟨rfl, rfl⟩ (AllOwn.cons0 ⟨rfl, rfl⟩ AllOwn.nil))) rfl rfl rfl fun b_r4_3_1 k_r4_3_2 w a hk o_r4_3_3 hs => ?_
    refine se (hs.pick [(3, 3)] rfl) hk (hK_r4_3 _ _ ?_)
    refine tsst hk rfl rfl (fun K_r4_5 hK_r4_5 w hF => ?_) wt_stop
    have hs := hs.f hF
    refine sc rfl en44 hk rfl rfl rfl (spec_l00Src_next_t _ b0_ (⟨x0.code, y_r4_1_1.2.1, y_r4_1_1.2.2⟩ : S_l00Src) A0_0 p0_0 _ v0_0 (hs.hasD (k := 2) rfl) 3 ((hs.hand [(1, 1)] rfl).dpick [(2, 2)] rfl) _ h_r4_5_2) ?_
    rintro _ w ⟨rfl, hG⟩ a hk
    have hs := hs.back [(1, 1)] rfl hG [1] rfl
    refine se (hs.pick [(3, 3)] rfl) hk (hK_r4_5 _ _ ?_)
    obtain ⟨b_r4_6_2, q_r4_6_3, hAc_r4_6_1⟩ := (o_r4_3_3.view).some_ y_r4_5_1.1 c_r4_6_1.1 c_r4_6_1.2
    refine tqst (.pointer (some (padd (some ⟨b_r4_3_1, 0, none⟩) ((y_r4_5_1.1).toNat * 1)))) hk rfl rfl rfl rfl (fun w hs => si rfl hk rfl rfl rfl rfl un72 sz3 c_r4_6_1.1 c_r4_6_1.2 hAc_r4_6_1 fun a hk => qe hk) fun a hk => ?_
    refine tsst hk rfl rfl (fun K_r4_7 hK_r4_7 w hF => ?_) ?_
    ·skip
     have hs := hs.f hF
     obtain ⟨_, rfl, e_r4_7_1⟩ := (o_r4_3_3.view).at_ 0 y_r4_5_1.1 c_r4_6_1.1 c_r4_6_1.2
     refine sl (v := (.int .i64 (([2, 2, (w64 (1 + y_r4_1_1.1))]).getD (y_r4_5_1.1).toNat 0))) rfl hk rfl rfl rfl ag3 ((e_r4_7_1 0 _ rfl).cell (hs.hasG (k := 104061) rfl)) fun a hk => ?_
     refine se (hs.pick [(3, 3)] rfl) hk (hK_r4_7 _ _ ?_)
     refine tsst hk rfl rfl (fun K_r4_9 hK_r4_9 w hF => ?_) wt_stop
     have hs := hs.f hF
     refine sc rfl en44 hk rfl rfl rfl (spec_l00Src_next_t _ b0_ (⟨x0.code, y_r4_5_1.2.1, y_r4_5_1.2.2⟩ : S_l00Src) A0_0 p0_0 _ v0_0 (hs.hasD (k := 2) rfl) 14 ((hs.hand [(1, 1)] rfl).dpick [(2, 2)] rfl) _ h_r4_9_2) ?_
     rintro _ w ⟨rfl, hG⟩ a hk
     have hs := hs.back [(1, 1)] rfl hG [1] rfl
     refine se (hs.pick [(3, 3)] rfl) hk (hK_r4_9 _ _ ?_)
     refine tsst hk rfl rfl (fun K_r4_10 hK_r4_10 w hF => ?_) wt_stop
     have hs := hs.f hF
     refine sv (.int .i64 (w64 (1 + y_r4_9_1.1))) hk rfl rfl rfl fun a hk => ?_
     refine se (hs.pick [(3, 3)] rfl) hk (hK_r4_10 _ _ ?_)
     refine tsst hk rfl rfl (fun K_r4_11 hK_r4_11 w hF => ?_) wt_stop
     have hs := hs.f hF
     refine sbd (pv := [(0, (.int .i64 (([2, 2, (w64 (1 + y_r4_1_1.1))]).getD (y_r4_5_1.1).toNat 0))), (1, (.int .i64 (w64 (1 + y_r4_9_1.1))))]) rfl hk rfl rfl rfl (bd33_9 (([2, 2, (w64 (1 + y_r4_1_1.1))]).getD (y_r4_5_1.1).toNat 0) (w64 (1 + y_r4_9_1.1))) fun a hk => ?_
     refine se (hs.pick [(3, 3)] rfl) hk (hK_r4_11 _ _ ?_)
     refine tlst hk rfl rfl fun K_r4_13 hK_r4_13 w hF => ?_
     have hs := hs.f hF
     refine ssw 104241 hs rfl rfl hk rfl rfl rfl rfl sz33 (by simp [Value.oneCell']) rfl fun w a hk hs => ?_
     refine se trivial hk (hK_r4_13 _ _ fun w hF => ?_)
     have hs := hs.f hF
     show R5 _ _
     rw [hR5]
     exact ⟨b_r4_12_1, (hk.c 0 rfl (hk.c 2 rfl (hk.c 3 rfl hk.k))), (hs.pick [(1, 1), (3, 3), (104241, 104241)] rfl)⟩
    refine tsst hk rfl rfl (fun K_r4_9 hK_r4_9 w hF => ?_) wt_stop
    have hs := hs.f hF
    refine sc rfl en44 hk rfl rfl rfl (spec_l00Src_next_t _ b0_ (⟨x0.code, y_r4_5_1.2.1, y_r4_5_1.2.2⟩ : S_l00Src) A0_0 p0_0 _ v0_0 (hs.hasD (k := 2) rfl) 14 ((hs.hand [(1, 1)] rfl).dpick [(2, 2)] rfl) _ h_r4_9_2) ?_
    rintro _ w ⟨rfl, hG⟩ a hk
    have hs := hs.back [(1, 1)] rfl hG [1] rfl
    refine se (hs.pick [(3, 3)] rfl) hk (hK_r4_9 _ _ ?_)
    refine tqst (.int .i64 (w64 (1 + y_r4_9_1.1))) hk rfl rfl rfl rfl (fun w hs => sv (.int .i64 (w64 (1 + y_r4_9_1.1))) hk rfl rfl rfl fun a hk => qe hk) fun a hk => ?_
    refine tsst hk rfl rfl (fun K_r4_7 hK_r4_7 w hF => ?_) wt_stop
    have hs := hs.f hF
    obtain ⟨_, rfl, e_r4_7_1⟩ := (o_r4_3_3.view).at_ 0 y_r4_5_1.1 c_r4_6_1.1 c_r4_6_1.2
    refine sl (v := (.int .i64 (([2, 2, (w64 (1 + y_r4_1_1.1))]).getD (y_r4_5_1.1).toNat 0))) rfl hk rfl rfl rfl ag3 ((e_r4_7_1 0 _ rfl).cell (hs.hasG (k := 104061) rfl)) fun a hk => ?_
    refine se (hs.pick [(3, 3)] rfl) hk (hK_r4_7 _ _ ?_)
    refine tsst hk rfl rfl (fun K_r4_11 hK_r4_11 w hF => ?_) wt_stop
    have hs := hs.f hF
    refine sbd (pv := [(0, (.int .i64 (([2, 2, (w64 (1 + y_r4_1_1.1))]).getD (y_r4_5_1.1).toNat 0))), (1, (.int .i64 (w64 (1 + y_r4_9_1.1))))]) rfl hk rfl rfl rfl (bd33_9 (([2, 2, (w64 (1 + y_r4_1_1.1))]).getD (y_r4_5_1.1).toNat 0) (w64 (1 + y_r4_9_1.1))) fun a hk => ?_
    refine se (hs.pick [(3, 3)] rfl) hk (hK_r4_11 _ _ ?_)
    refine tlst hk rfl rfl fun K_r4_13 hK_r4_13 w hF => ?_
    have hs := hs.f hF
    refine ssw 104241 hs rfl rfl hk rfl rfl rfl rfl sz33 (by simp [Value.oneCell']) rfl fun w a hk hs => ?_
    refine se trivial hk (hK_r4_13 _ _ fun w hF => ?_)
    have hs := hs.f hF
    show R5 _ _
    rw [hR5]
    exact ⟨b_r4_12_1, (hk.c 0 rfl (hk.c 2 rfl (hk.c 3 rfl hk.k))), (hs.pick [(1, 1), (3, 3), (104241, 104241)] rfl)⟩
   refine tsst hk rfl rfl (fun K_r4_5 hK_r4_5 w hF => ?_) wt_stop
   have hs := hs.f hF
   refine sc rfl en44 hk rfl rfl rfl (spec_l00Src_next_t _ b0_ (⟨x0.code, y_r4_1_1.2.1, y_r4_1_1.2.2⟩ : S_l00Src) A0_0 p0_0 _ v0_0 (hs.hasD (k := 2) rfl) 3 ((hs.hand [(1, 1)] rfl).dpick [(2, 2)] rfl) _ h_r4_5_2) ?_
   rintro _ w ⟨rfl, hG⟩ a hk
   have hs := hs.back [(1, 1)] rfl hG [1] rfl
   refine se (hs.pick [(3, 3)] rfl) hk (hK_r4_5 _ _ ?_)
   refine tsst hk rfl rfl (fun K_r4_3 hK_r4_3 w hF => ?_) ?_
   ·skip
    have hs := hs.f hF
    refine sbs (L := (Lay.int .i64)) (pv := [(0, (.int .i64 2)), (1, (.int .i64 2)), (2, (.int .i64 (w64 (1 + y_r4_1_1.1))))]) (xs := [2, 2, (w64 (1 + y_r4_1_1.1))]) (ess := [[.int .i64 2], [.int .i64 2], [.int .i64 (w64 (1 + y_r4_1_1.1))]]) 104061 hs rfl hk rfl rfl rfl un72 (bs3_8 2 2 (w64 (1 + y_r4_1_1.1))) (AllOwn.cons0 ⟨rfl, rfl⟩ (AllOwn.cons0 ⟨rfl, rfl⟩ (AllOwn.cons0 ⟨rfl, rfl⟩ AllOwn.nil))) rfl rfl rfl fun b_r4_3_1 k_r4_3_2 w a hk o_r4_3_3 hs => ?_
    refine se (hs.pick [(3, 3)] rfl) hk (hK_r4_3 _ _ ?_)
    obtain ⟨b_r4_6_2, q_r4_6_3, hAc_r4_6_1⟩ := (o_r4_3_3.view).some_ y_r4_5_1.1 c_r4_6_1.1 c_r4_6_1.2
    refine tqst (.pointer (some (padd (some ⟨b_r4_3_1, 0, none⟩) ((y_r4_5_1.1).toNat * 1)))) hk rfl rfl rfl rfl (fun w hs => si rfl hk rfl rfl rfl rfl un72 sz3 c_r4_6_1.1 c_r4_6_1.2 hAc_r4_6_1 fun a hk => qe hk) fun a hk => ?_
    refine tsst hk rfl rfl (fun K_r4_7 hK_r4_7 w hF => ?_) ?_
    ·skip
     have hs := hs.f hF
     obtain ⟨_, rfl, e_r4_7_1⟩ := (o_r4_3_3.view).at_ 0 y_r4_5_1.1 c_r4_6_1.1 c_r4_6_1.2
     refine sl (v := (.int .i64 (([2, 2, (w64 (1 + y_r4_1_1.1))]).getD (y_r4_5_1.1).toNat 0))) rfl hk rfl rfl rfl ag3 ((e_r4_7_1 0 _ rfl).cell (hs.hasG (k := 104061) rfl)) fun a hk => ?_
     refine se (hs.pick [(3, 3)] rfl) hk (hK_r4_7 _ _ ?_)
     refine tsst hk rfl rfl (fun K_r4_9 hK_r4_9 w hF => ?_) wt_stop
     have hs := hs.f hF
     refine sc rfl en44 hk rfl rfl rfl (spec_l00Src_next_t _ b0_ (⟨x0.code, y_r4_5_1.2.1, y_r4_5_1.2.2⟩ : S_l00Src) A0_0 p0_0 _ v0_0 (hs.hasD (k := 2) rfl) 14 ((hs.hand [(1, 1)] rfl).dpick [(2, 2)] rfl) _ h_r4_9_2) ?_
     rintro _ w ⟨rfl, hG⟩ a hk
     have hs := hs.back [(1, 1)] rfl hG [1] rfl
     refine se (hs.pick [(3, 3)] rfl) hk (hK_r4_9 _ _ ?_)
     refine tsst hk rfl rfl (fun K_r4_10 hK_r4_10 w hF => ?_) wt_stop
     have hs := hs.f hF
     refine sv (.int .i64 (w64 (1 + y_r4_9_1.1))) hk rfl rfl rfl fun a hk => ?_
     refine se (hs.pick [(3, 3)] rfl) hk (hK_r4_10 _ _ ?_)
     refine tsst hk rfl rfl (fun K_r4_11 hK_r4_11 w hF => ?_) wt_stop
     have hs := hs.f hF
     refine sbd (pv := [(0, (.int .i64 (([2, 2, (w64 (1 + y_r4_1_1.1))]).getD (y_r4_5_1.1).toNat 0))), (1, (.int .i64 (w64 (1 + y_r4_9_1.1))))]) rfl hk rfl rfl rfl (bd33_9 (([2, 2, (w64 (1 + y_r4_1_1.1))]).getD (y_r4_5_1.1).toNat 0) (w64 (1 + y_r4_9_1.1))) fun a hk => ?_
     refine se (hs.pick [(3, 3)] rfl) hk (hK_r4_11 _ _ ?_)
     refine tlst hk rfl rfl fun K_r4_13 hK_r4_13 w hF => ?_
     have hs := hs.f hF
     refine ssw 104241 hs rfl rfl hk rfl rfl rfl rfl sz33 (by simp [Value.oneCell']) rfl fun w a hk hs => ?_
     refine se trivial hk (hK_r4_13 _ _ fun w hF => ?_)
     have hs := hs.f hF
     show R5 _ _
     rw [hR5]
     exact ⟨b_r4_12_1, (hk.c 0 rfl (hk.c 2 rfl (hk.c 3 rfl hk.k))), (hs.pick [(1, 1), (3, 3), (104241, 104241)] rfl)⟩
    refine tsst hk rfl rfl (fun K_r4_9 hK_r4_9 w hF => ?_) wt_stop
    have hs := hs.f hF
    refine sc rfl en44 hk rfl rfl rfl (spec_l00Src_next_t _ b0_ (⟨x0.code, y_r4_5_1.2.1, y_r4_5_1.2.2⟩ : S_l00Src) A0_0 p0_0 _ v0_0 (hs.hasD (k := 2) rfl) 14 ((hs.hand [(1, 1)] rfl).dpick [(2, 2)] rfl) _ h_r4_9_2) ?_
    rintro _ w ⟨rfl, hG⟩ a hk
    have hs := hs.back [(1, 1)] rfl hG [1] rfl
    refine se (hs.pick [(3, 3)] rfl) hk (hK_r4_9 _ _ ?_)
    refine tqst (.int .i64 (w64 (1 + y_r4_9_1.1))) hk rfl rfl rfl rfl (fun w hs => sv (.int .i64 (w64 (1 + y_r4_9_1.1))) hk rfl rfl rfl fun a hk => qe hk) fun a hk => ?_
    refine tsst hk rfl rfl (fun K_r4_7 hK_r4_7 w hF => ?_) wt_stop
    have hs := hs.f hF
    obtain ⟨_, rfl, e_r4_7_1⟩ := (o_r4_3_3.view).at_ 0 y_r4_5_1.1 c_r4_6_1.1 c_r4_6_1.2
    refine sl (v := (.int .i64 (([2, 2, (w64 (1 + y_r4_1_1.1))]).getD (y_r4_5_1.1).toNat 0))) rfl hk rfl rfl rfl ag3 ((e_r4_7_1 0 _ rfl).cell (hs.hasG (k := 104061) rfl)) fun a hk => ?_
    refine se (hs.pick [(3, 3)] rfl) hk (hK_r4_7 _ _ ?_)
    refine tsst hk rfl rfl (fun K_r4_11 hK_r4_11 w hF => ?_) wt_stop
    have hs := hs.f hF
    refine sbd (pv := [(0, (.int .i64 (([2, 2, (w64 (1 + y_r4_1_1.1))]).getD (y_r4_5_1.1).toNat 0))), (1, (.int .i64 (w64 (1 + y_r4_9_1.1))))]) rfl hk rfl rfl rfl (bd33_9 (([2, 2, (w64 (1 + y_r4_1_1.1))]).getD (y_r4_5_1.1).toNat 0) (w64 (1 + y_r4_9_1.1))) fun a hk => ?_
    refine se (hs.pick [(3, 3)] rfl) hk (hK_r4_11 _ _ ?_)
    refine tlst hk rfl rfl fun K_r4_13 hK_r4_13 w hF => ?_
    have hs := hs.f hF
    refine ssw 104241 hs rfl rfl hk rfl rfl rfl rfl sz33 (by simp [Value.oneCell']) rfl fun w a hk hs => ?_
    refine se trivial hk (hK_r4_13 _ _ fun w hF => ?_)
    have hs := hs.f hF
    show R5 _ _
    rw [hR5]
    exact ⟨b_r4_12_1, (hk.c 0 rfl (hk.c 2 rfl (hk.c 3 rfl hk.k))), (hs.pick [(1, 1), (3, 3), (104241, 104241)] rfl)⟩
   refine tsst hk rfl rfl (fun K_r4_9 hK_r4_9 w hF => ?_) wt_stop
   have hs := hs.f hF
   refine sc rfl en44 hk rfl rfl rfl (spec_l00Src_next_t _ b0_ (⟨x0.code, y_r4_5_1.2.1, y_r4_5_1.2.2⟩ : S_l00Src) A0_0 p0_0 _ v0_0 (hs.hasD (k := 2) rfl) 14 ((hs.hand [(1, 1)] rfl).dpick [(2, 2)] rfl) _ h_r4_9_2) ?_
   rintro _ w ⟨rfl, hG⟩ a hk
   have hs := hs.back [(1, 1)] rfl hG [1] rfl
   refine se (hs.pick [(3, 3)] rfl) hk (hK_r4_9 _ _ ?_)
   refine tqst (.int .i64 (w64 (1 + y_r4_9_1.1))) hk rfl rfl rfl rfl (fun w hs => sv (.int .i64 (w64 (1 + y_r4_9_1.1))) hk rfl rfl rfl fun a hk => qe hk) fun a hk => ?_
   refine tsst hk rfl rfl (fun K_r4_3 hK_r4_3 w hF => ?_) wt_stop
   have hs := hs.f hF
   refine sbs (L := (Lay.int .i64)) (pv := [(0, (.int .i64 2)), (1, (.int .i64 2)), (2, (.int .i64 (w64 (1 + y_r4_1_1.1))))]) (xs := [2, 2, (w64 (1 + y_r4_1_1.1))]) (ess := [[.int .i64 2], [.int .i64 2], [.int .i64 (w64 (1 + y_r4_1_1.1))]]) 104061 hs rfl hk rfl rfl rfl un72 (bs3_8 2 2 (w64 (1 + y_r4_1_1.1))) (AllOwn.cons0 ⟨rfl, rfl⟩ (AllOwn.cons0 ⟨rfl, rfl⟩ (AllOwn.cons0 ⟨rfl, rfl⟩ AllOwn.nil))) rfl rfl rfl fun b_r4_3_1 k_r4_3_2 w a hk o_r4_3_3 hs => ?_
   refine se (hs.pick [(3, 3)] rfl) hk (hK_r4_3 _ _ ?_)
   refine tsst hk rfl rfl (fun K_r4_6 hK_r4_6 w hF => ?_) wt_stop
   have hs := hs.f hF
   obtain ⟨b_r4_6_2, q_r4_6_3, hAc_r4_6_1⟩ := (o_r4_3_3.view).some_ y_r4_5_1.1 c_r4_6_1.1 c_r4_6_1.2
   refine si rfl hk rfl rfl rfl rfl un72 sz3 c_r4_6_1.1 c_r4_6_1.2 hAc_r4_6_1 fun a hk => ?_
   refine se (hs.pick [(3, 3)] rfl) hk (hK_r4_6 _ _ ?_)
   refine tsst hk rfl rfl (fun K_r4_7 hK_r4_7 w hF => ?_) wt_stop
   have hs := hs.f hF
   obtain ⟨_, rfl, e_r4_7_1⟩ := (o_r4_3_3.view).at_ 0 y_r4_5_1.1 c_r4_6_1.1 c_r4_6_1.2
   refine sl (v := (.int .i64 (([2, 2, (w64 (1 + y_r4_1_1.1))]).getD (y_r4_5_1.1).toNat 0))) rfl hk rfl rfl rfl ag3 ((e_r4_7_1 0 _ rfl).cell (hs.hasG (k := 104061) rfl)) fun a hk => ?_
   refine se (hs.pick [(3, 3)] rfl) hk (hK_r4_7 _ _ ?_)
   refine tsst hk rfl rfl (fun K_r4_11 hK_r4_11 w hF => ?_) wt_stop
   have hs := hs.f hF
   refine sbd (pv := [(0, (.int .i64 (([2, 2, (w64 (1 + y_r4_1_1.1))]).getD (y_r4_5_1.1).toNat 0))), (1, (.int .i64 (w64 (1 + y_r4_9_1.1))))]) rfl hk rfl rfl rfl (bd33_9 (([2, 2, (w64 (1 + y_r4_1_1.1))]).getD (y_r4_5_1.1).toNat 0) (w64 (1 + y_r4_9_1.1))) fun a hk => ?_
   refine se (hs.pick [(3, 3)] rfl) hk (hK_r4_11 _ _ ?_)
   refine tlst hk rfl rfl fun K_r4_13 hK_r4_13 w hF => ?_
   have hs := hs.f hF
   refine ssw 104241 hs rfl rfl hk rfl rfl rfl rfl sz33 (by simp [Value.oneCell']) rfl fun w a hk hs => ?_
   refine se trivial hk (hK_r4_13 _ _ fun w hF => ?_)
   have hs := hs.f hF
   show R5 _ _
   rw [hR5]
   exact ⟨b_r4_12_1, (hk.c 0 rfl (hk.c 2 rfl (hk.c 3 rfl hk.k))), (hs.pick [(1, 1), (3, 3), (104241, 104241)] rfl)⟩
  ·intro a w hR0
   rw [hR5] at hR0
   obtain ⟨b_r4_12_1, hk, hs⟩ := hR0
   refine hK3 _ _ ?_
   apply wp_seq_k; intro K6 hK6
   apply wp_seq_k; intro K7 hK7
   apply wp_region_lit
   refine sf ⟨b_r4_12_1, 0, none⟩ rfl hk rfl rfl rfl fd33_0 rfl fun a hk => ?_
   refine sl rfl hk rfl rfl rfl ag3 (box_cell hs (k := 104241) rfl rfl) fun a hk => ?_
   show wpList _ _ _ [] _ _
   refine wpList_nil ?_
   refine hK7 _ _ ?_
   refine wp_block ?_
   apply wp_seq_k; intro K8 hK8
   apply wp_seq_k; intro K9 hK9
   apply wp_region_lit
   refine sv (.bool ((([2, 2, (w64 (1 + y_r4_1_1.1))]).getD (y_r4_5_1.1).toNat 0) == 1)) hk rfl rfl rfl fun a hk => ?_
   refine sa _ rfl hk rfl rfl rfl fun a hk => ?_
   show wpList _ _ _ [] _ _
   refine wpList_nil ?_
   refine hK9 _ _ ?_
   have hs := hs.pick [(1, 1), (3, 3), (104241, 104241)] rfl
   obtain ⟨o12, h13, HL14⟩ := bind_some H
   clear H
   obtain ⟨R15, hR15⟩ : ∃ R : Act → World → Prop, R = fun a w => ∃ (u11 : Bool), u11 = o12 ∧ Kn [(0, (.pointer (some ⟨b0_, 0, none⟩))), (2, (.pointer (some ⟨b2, 0, none⟩))), (3, (.pointer (some ⟨b_r4_12_1, 0, none⟩))), (17, (.int .i64 (([2, 2, (w64 (1 + y_r4_1_1.1))]).getD (y_r4_5_1.1).toNat 0))), (21, (.bool u11))] 42 a ∧ Sat (blks [(1, [(b0_, .cells #[.slice A0_0 x0.code.length p0_0, .int .i64 x0.at_, .int .i64 x0.seed] 65 (0, 0))])]) w0 w [(2, k0_0)] [(1, [(b0_, .cells #[.slice A0_0 x0.code.length p0_0, .int .i64 y_r4_9_1.2.1, .int .i64 y_r4_9_1.2.2] 65 (0, 0))]), (3, [(b2, .cells #[.int .i64 0, .int .i64 0, .int .i64 0] 33 (0, 0))]), (104241, [(b_r4_12_1, .cells #[.int .i64 (([2, 2, (w64 (1 + y_r4_1_1.1))]).getD (y_r4_5_1.1).toNat 0), .int .i64 (w64 (1 + y_r4_9_1.1)), .int .i64 0] 33 (0, 0))])] := ⟨_, rfl⟩
   refine wp_cutq R15 ?_ ?_
   ·have H := h13
    rcases cond_some H with ⟨c16, H⟩ | ⟨c16, H⟩
    ·have hk := hk.lit 21 c16 rfl
     refine cnd_true hk rfl rfl ?_
     refine wp_skip ?_
     obtain rfl := Option.some.inj H
     show R15 _ _
     rw [hR15]
     exact ⟨true, rfl, (hk.c 0 rfl (hk.c 2 rfl (hk.c 3 rfl (hk.c 17 rfl (hk.c 21 rfl hk.k))))), (hs.pick [(1, 1), (3, 3), (104241, 104241)] rfl)⟩
    ·have hk := hk.lit 21 c16 rfl
     refine cnd_false hk rfl rfl ?_
     apply wp_region_lit
     refine sv (.bool ((([2, 2, (w64 (1 + y_r4_1_1.1))]).getD (y_r4_5_1.1).toNat 0) == 3)) hk rfl rfl rfl fun a hk => ?_
     refine sa _ rfl hk rfl rfl rfl fun a hk => ?_
     show wpList _ _ _ [] _ _
     refine wpList_nil ?_
     obtain rfl := Option.some.inj H
     show R15 _ _
     rw [hR15]
     exact ⟨((([2, 2, (w64 (1 + y_r4_1_1.1))]).getD (y_r4_5_1.1).toNat 0) == 3), rfl, (hk.c 0 rfl (hk.c 2 rfl (hk.c 3 rfl (hk.c 17 rfl (hk.c 21 rfl hk.k))))), (hs.pick [(1, 1), (3, 3), (104241, 104241)] rfl)⟩
   ·intro a w hR0
    rw [hR15] at hR0
    obtain ⟨u11, rfl, hk, hs⟩ := hR0
    have H := HL14
    try dsimp only at H
    refine hK8 _ _ ?_
    obtain ⟨o21, h22, HL23⟩ := bind_some H
    clear H
    obtain ⟨R24, hR24⟩ : ∃ R : Act → World → Prop, R = fun a w => ∃ (u18 : Int) (u19 : Int) (u20 : Int), (u18, u19, u20) = o21 ∧ Kn [(0, (.pointer (some ⟨b0_, 0, none⟩))), (2, (.pointer (some ⟨b2, 0, none⟩))), (3, (.pointer (some ⟨b_r4_12_1, 0, none⟩)))] 42 a ∧ Sat (blks [(1, [(b0_, .cells #[.slice A0_0 x0.code.length p0_0, .int .i64 x0.at_, .int .i64 x0.seed] 65 (0, 0))])]) w0 w [(2, k0_0)] [(1, [(b0_, .cells #[.slice A0_0 x0.code.length p0_0, .int .i64 u18, .int .i64 u19] 65 (0, 0))]), (3, [(b2, .cells #[.int .i64 0, .int .i64 0, .int .i64 0] 33 (0, 0))]), (104241, [(b_r4_12_1, .cells #[.int .i64 (([2, 2, (w64 (1 + y_r4_1_1.1))]).getD (y_r4_5_1.1).toNat 0), .int .i64 (w64 (1 + y_r4_9_1.1)), .int .i64 u20] 33 (0, 0))])] := ⟨_, rfl⟩
    refine wp_cutq R24 ?_ ?_
    ·have H := h22
     rcases cond_some H with ⟨c25, H⟩ | ⟨c25, H⟩
     ·have hk := hk.lit 21 c25 rfl
      refine cnd_true hk rfl rfl ?_
      refine wp_skip ?_
      obtain rfl := Option.some.inj H
      show R24 _ _
      rw [hR24]
      exact ⟨y_r4_9_1.2.1, y_r4_9_1.2.2, 0, rfl, (hk.c 0 rfl (hk.c 2 rfl (hk.c 3 rfl hk.k))), (hs.pick [(1, 1), (3, 3), (104241, 104241)] rfl)⟩
     ·have hk := hk.lit 21 c25 rfl
      refine cnd_false hk rfl rfl ?_
      apply wp_seq_k; intro K26 hK26
      apply wp_region_lit
      refine sv (.bool ((([2, 2, (w64 (1 + y_r4_1_1.1))]).getD (y_r4_5_1.1).toNat 0) == 6)) hk rfl rfl rfl fun a hk => ?_
      refine sa _ rfl hk rfl rfl rfl fun a hk => ?_
      show wpList _ _ _ [] _ _
      refine wpList_nil ?_
      refine hK26 _ _ ?_
      obtain ⟨o31, h32, HL33⟩ := bind_some H
      clear H
      obtain ⟨R34, hR34⟩ : ∃ R : Act → World → Prop, R = fun a w => ∃ (u28 : Int) (u29 : Int) (u30 : Int), (u28, u29, u30) = o31 ∧ Kn [(0, (.pointer (some ⟨b0_, 0, none⟩))), (2, (.pointer (some ⟨b2, 0, none⟩))), (3, (.pointer (some ⟨b_r4_12_1, 0, none⟩)))] 42 a ∧ Sat (blks [(1, [(b0_, .cells #[.slice A0_0 x0.code.length p0_0, .int .i64 x0.at_, .int .i64 x0.seed] 65 (0, 0))])]) w0 w [(2, k0_0)] [(1, [(b0_, .cells #[.slice A0_0 x0.code.length p0_0, .int .i64 u28, .int .i64 u29] 65 (0, 0))]), (3, [(b2, .cells #[.int .i64 0, .int .i64 0, .int .i64 0] 33 (0, 0))]), (104241, [(b_r4_12_1, .cells #[.int .i64 (([2, 2, (w64 (1 + y_r4_1_1.1))]).getD (y_r4_5_1.1).toNat 0), .int .i64 (w64 (1 + y_r4_9_1.1)), .int .i64 u30] 33 (0, 0))])] := ⟨_, rfl⟩
      refine wp_cutq R34 ?_ ?_
      ·have H := h32
       rcases cond_some H with ⟨c35, H⟩ | ⟨c35, H⟩
       ·have hk := hk.lit 24 c35 rfl
        refine cnd_true hk rfl rfl ?_
        apply wp_region_lit
        refine sm _ rfl hk rfl rfl rfl fun a hk => ?_
        obtain ⟨y36, h37, H⟩ := bind_some H
        refine sc rfl en44 hk rfl rfl rfl (spec_l00Src_next_t _ b0_ (⟨x0.code, y_r4_9_1.2.1, y_r4_9_1.2.2⟩ : S_l00Src) A0_0 p0_0 _ v0_0 (hs.hasD (k := 2) rfl) 4 ((hs.hand [(1, 1)] rfl).dpick [(2, 2)] rfl) _ h37) ?_
        rintro _ w ⟨rfl, hG⟩ a hk
        have hs := hs.back [(1, 1)] rfl hG [1] rfl
        refine sv (.int .i64 (w64 (1 + y36.1))) hk rfl rfl rfl fun a hk => ?_
        refine sf ⟨b_r4_12_1, 2, none⟩ rfl hk rfl rfl rfl fd33_2 rfl fun a hk => ?_
        refine ssx (cs' := #[.int .i64 (([2, 2, (w64 (1 + y_r4_1_1.1))]).getD (y_r4_5_1.1).toNat 0), .int .i64 (w64 (1 + y_r4_9_1.1)), .int .i64 (w64 (1 + y36.1))]) 104241 hs rfl rfl hk rfl rfl rfl rfl sz3 rfl rfl rfl rfl fun w a hk hs => ?_
        show wpList _ _ _ [] _ _
        refine wpList_nil ?_
        obtain rfl := Option.some.inj H
        show R34 _ _
        rw [hR34]
        exact ⟨y36.2.1, y36.2.2, (w64 (1 + y36.1)), rfl, (hk.c 0 rfl (hk.c 2 rfl (hk.c 3 rfl hk.k))), (hs.pick [(1, 1), (3, 3), (104241, 104241)] rfl)⟩
       ·have hk := hk.lit 24 c35 rfl
        refine cnd_false hk rfl rfl ?_
        apply wp_seq_k; intro K38 hK38
        apply wp_region_lit
        refine sv (.bool ((([2, 2, (w64 (1 + y_r4_1_1.1))]).getD (y_r4_5_1.1).toNat 0) == 5)) hk rfl rfl rfl fun a hk => ?_
        refine sa _ rfl hk rfl rfl rfl fun a hk => ?_
        show wpList _ _ _ [] _ _
        refine wpList_nil ?_
        refine hK38 _ _ ?_
        obtain ⟨o43, h44, HL45⟩ := bind_some H
        clear H
        obtain ⟨R46, hR46⟩ : ∃ R : Act → World → Prop, R = fun a w => ∃ (u40 : Int) (u41 : Int) (u42 : Int), (u40, u41, u42) = o43 ∧ Kn [(0, (.pointer (some ⟨b0_, 0, none⟩))), (2, (.pointer (some ⟨b2, 0, none⟩))), (3, (.pointer (some ⟨b_r4_12_1, 0, none⟩)))] 42 a ∧ Sat (blks [(1, [(b0_, .cells #[.slice A0_0 x0.code.length p0_0, .int .i64 x0.at_, .int .i64 x0.seed] 65 (0, 0))])]) w0 w [(2, k0_0)] [(1, [(b0_, .cells #[.slice A0_0 x0.code.length p0_0, .int .i64 u40, .int .i64 u41] 65 (0, 0))]), (3, [(b2, .cells #[.int .i64 0, .int .i64 0, .int .i64 0] 33 (0, 0))]), (104241, [(b_r4_12_1, .cells #[.int .i64 (([2, 2, (w64 (1 + y_r4_1_1.1))]).getD (y_r4_5_1.1).toNat 0), .int .i64 (w64 (1 + y_r4_9_1.1)), .int .i64 u42] 33 (0, 0))])] := ⟨_, rfl⟩
        refine wp_cutq R46 ?_ ?_
        ·have H := h44
         rcases cond_some H with ⟨c47, H⟩ | ⟨c47, H⟩
         ·have hk := hk.lit 30 c47 rfl
          refine cnd_true hk rfl rfl ?_
          apply wp_region_lit
          refine sm _ rfl hk rfl rfl rfl fun a hk => ?_
          obtain ⟨y48, h49, H⟩ := bind_some H
          refine sc rfl en44 hk rfl rfl rfl (spec_l00Src_next_t _ b0_ (⟨x0.code, y_r4_9_1.2.1, y_r4_9_1.2.2⟩ : S_l00Src) A0_0 p0_0 _ v0_0 (hs.hasD (k := 2) rfl) 5 ((hs.hand [(1, 1)] rfl).dpick [(2, 2)] rfl) _ h49) ?_
          rintro _ w ⟨rfl, hG⟩ a hk
          have hs := hs.back [(1, 1)] rfl hG [1] rfl
          refine sbs (L := (Lay.int .i64)) (pv := [(0, (.int .i64 y48.1)), (1, (.int .i64 999999))]) (xs := [y48.1, 999999]) (ess := [[.int .i64 y48.1], [.int .i64 999999]]) 9 hs rfl hk rfl rfl rfl un72 (bs3_10 y48.1 999999) (AllOwn.cons0 ⟨rfl, rfl⟩ (AllOwn.cons0 ⟨rfl, rfl⟩ AllOwn.nil)) rfl rfl rfl fun b50 k51 w a hk o52 hs => ?_
          refine sm _ rfl hk rfl rfl rfl fun a hk => ?_
          obtain ⟨y53, h54, H⟩ := bind_some H
          refine sc rfl en44 hk rfl rfl rfl (spec_l00Src_next_t _ b0_ (⟨x0.code, y48.2.1, y48.2.2⟩ : S_l00Src) A0_0 p0_0 _ v0_0 (hs.hasD (k := 2) rfl) 9 ((hs.hand [(1, 1)] rfl).dpick [(2, 2)] rfl) _ h54) ?_
          rintro _ w ⟨rfl, hG⟩ a hk
          have hs := hs.back [(1, 1)] rfl hG [1] rfl
          refine sv (.int .i64 (IntKind.wrap .i64 (Int.tdiv y53.1 8))) hk rfl rfl rfl fun a hk => ?_
          rcases ite_some H with ⟨c55, H⟩ | ⟨_, H⟩
          rotate_left
          ·cases H
          obtain ⟨b56, q57, hAc55⟩ := (o52.view).some_ (IntKind.wrap .i64 (Int.tdiv y53.1 8)) c55.1 c55.2
          refine si rfl hk rfl rfl rfl rfl un72 sz3 c55.1 c55.2 hAc55 fun a hk => ?_
          obtain ⟨_, rfl, e58⟩ := (o52.view).at_ 0 (IntKind.wrap .i64 (Int.tdiv y53.1 8)) c55.1 c55.2
          refine sl (v := (.int .i64 (([y48.1, 999999]).getD (IntKind.wrap .i64 (Int.tdiv y53.1 8)).toNat 0))) rfl hk rfl rfl rfl ag3 ((e58 0 _ rfl).cell (hs.hasG (k := 9) rfl)) fun a hk => ?_
          refine sf ⟨b_r4_12_1, 2, none⟩ rfl hk rfl rfl rfl fd33_2 rfl fun a hk => ?_
          refine ssx (cs' := #[.int .i64 (([2, 2, (w64 (1 + y_r4_1_1.1))]).getD (y_r4_5_1.1).toNat 0), .int .i64 (w64 (1 + y_r4_9_1.1)), .int .i64 (([y48.1, 999999]).getD (IntKind.wrap .i64 (Int.tdiv y53.1 8)).toNat 0)]) 104241 hs rfl rfl hk rfl rfl rfl rfl sz3 rfl rfl rfl rfl fun w a hk hs => ?_
          show wpList _ _ _ [] _ _
          refine wpList_nil ?_
          obtain rfl := Option.some.inj H
          show R46 _ _
          rw [hR46]
          exact ⟨y53.2.1, y53.2.2, (([y48.1, 999999]).getD (IntKind.wrap .i64 (Int.tdiv y53.1 8)).toNat 0), rfl, (hk.c 0 rfl (hk.c 2 rfl (hk.c 3 rfl hk.k))), (hs.pick [(1, 1), (3, 3), (104241, 104241)] rfl)⟩
         ·have hk := hk.lit 30 c47 rfl
          refine cnd_false hk rfl rfl ?_
          apply wp_region_lit
          refine sm _ rfl hk rfl rfl rfl fun a hk => ?_
          obtain ⟨y59, h60, H⟩ := bind_some H
          refine sc rfl en44 hk rfl rfl rfl (spec_l00Src_next_t _ b0_ (⟨x0.code, y_r4_9_1.2.1, y_r4_9_1.2.2⟩ : S_l00Src) A0_0 p0_0 _ v0_0 (hs.hasD (k := 2) rfl) 4 ((hs.hand [(1, 1)] rfl).dpick [(2, 2)] rfl) _ h60) ?_
          rintro _ w ⟨rfl, hG⟩ a hk
          have hs := hs.back [(1, 1)] rfl hG [1] rfl
          refine sf ⟨b_r4_12_1, 2, none⟩ rfl hk rfl rfl rfl fd33_2 rfl fun a hk => ?_
          refine ssx (cs' := #[.int .i64 (([2, 2, (w64 (1 + y_r4_1_1.1))]).getD (y_r4_5_1.1).toNat 0), .int .i64 (w64 (1 + y_r4_9_1.1)), .int .i64 y59.1]) 104241 hs rfl rfl hk rfl rfl rfl rfl sz3 rfl rfl rfl rfl fun w a hk hs => ?_
          show wpList _ _ _ [] _ _
          refine wpList_nil ?_
          obtain rfl := Option.some.inj H
          show R46 _ _
          rw [hR46]
          exact ⟨y59.2.1, y59.2.2, y59.1, rfl, (hk.c 0 rfl (hk.c 2 rfl (hk.c 3 rfl hk.k))), (hs.pick [(1, 1), (3, 3), (104241, 104241)] rfl)⟩
        ·intro a w hR0
         rw [hR46] at hR0
         obtain ⟨u40, u41, u42, rfl, hk, hs⟩ := hR0
         have H := HL45
         try dsimp only at H
         obtain rfl := Option.some.inj H
         show R34 _ _
         rw [hR34]
         exact ⟨u40, u41, u42, rfl, (hk.c 0 rfl (hk.c 2 rfl (hk.c 3 rfl hk.k))), (hs.pick [(1, 1), (3, 3), (104241, 104241)] rfl)⟩
      ·intro a w hR0
       rw [hR34] at hR0
       obtain ⟨u28, u29, u30, rfl, hk, hs⟩ := hR0
       have H := HL33
       try dsimp only at H
       obtain rfl := Option.some.inj H
       show R24 _ _
       rw [hR24]
       exact ⟨u28, u29, u30, rfl, (hk.c 0 rfl (hk.c 2 rfl (hk.c 3 rfl hk.k))), (hs.pick [(1, 1), (3, 3), (104241, 104241)] rfl)⟩
    ·intro a w hR0
     rw [hR24] at hR0
     obtain ⟨u18, u19, u20, rfl, hk, hs⟩ := hR0
     have H := HL23
     try dsimp only at H
     refine hK6 _ _ ?_
     apply wp_seq_k; intro K61 hK61
     apply wp_region_lit
     refine sln [.int .i64 (([2, 2, (w64 (1 + y_r4_1_1.1))]).getD (y_r4_5_1.1).toNat 0), .int .i64 (w64 (1 + y_r4_9_1.1)), .int .i64 u20] rfl hk rfl rfl rfl ag33 sz33 (box_cells hs (k := 104241) rfl) fun a hk => ?_
     refine ssw 3 hs rfl rfl hk rfl rfl rfl rfl sz33 (by simp [Value.oneCell']) rfl fun w a hk hs => ?_
     show wpList _ _ _ [] _ _
     refine wpList_nil ?_
     refine hK61 _ _ ?_
     refine wp_ret ?_
     obtain rfl := Option.some.inj H
     exact fin hk _ [(.agg #[.int .i64 (([2, 2, (w64 (1 + y_r4_1_1.1))]).getD (y_r4_5_1.1).toNat 0), .int .i64 (w64 (1 + y_r4_9_1.1)), .int .i64 u20])] rfl ⟨⟨_, rfl, run_loadN ag33 sz33 (box_cells hs (k := 3) rfl)⟩, trivial⟩ ⟨rfl, (hs.pick [(0, 1)] rfl).dnil⟩

noncomputable def spec_l00Src_batch.s1 (x0 : S_l00Src) (u51 : Int) (u52 : Int) (u53 : Int) (u59 : List S_Op) : Option ((Int × Int × Int × (List S_Op)) ⊕ Ex (Int × Int × (List S_Op)) ((List S_Txn) × Int × Int)) :=
  (bif (decide (u51 > 0)) then ((spec_l00Src_op.f (⟨x0.code, u52, u53⟩ : S_l00Src)).bind fun y84 => (if u59.length + ([y84.1]).length ≤ 1073741824 then (some (.inl ((w64 (u51 - 1)), y84.2.1, y84.2.2, (u59 ++ ([y84.1]))))) else none)) else (some (.inr (.out (u52, u53, u59)))))
noncomputable def spec_l00Src_batch.s0 (x0 : S_l00Src) (u19 : List S_Txn) (u16 : Int) (u17 : Int) (u18 : Int) : Option (((List S_Txn) × Int × Int × Int) ⊕ Ex ((List S_Txn) × Int × Int) ((List S_Txn) × Int × Int)) :=
  (bif (decide (u16 > 0)) then ((spec_l00Src_next.f (⟨x0.code, u17, u18⟩ : S_l00Src) 4).bind fun y47 => ((loopO (fun s => spec_l00Src_batch.s1 x0 s.1 s.2.1 s.2.2.1 s.2.2.2) ((w64 (1 + y47.1)), y47.2.1, y47.2.2, ([] : List S_Op))).bind fun o => match o with | .out (u64, u65, u66) => (if u19.length + ([(⟨u66⟩ : S_Txn)]).length ≤ 1073741824 then (some (.inl ((u19 ++ ([(⟨u66⟩ : S_Txn)])), (w64 (u16 - 1)), u64, u65))) else none) | .ret r => (some (.inr (.ret r))))) else (some (.inr (.out (u19, u17, u18)))))
noncomputable def spec_l00Src_batch.f (x0 : S_l00Src) : Option ((List S_Txn) × Int × Int) :=
  ((spec_l00Src_next.f x0 2).bind fun y8 => ((loopO (fun s => spec_l00Src_batch.s0 x0 s.1 s.2.1 s.2.2.1 s.2.2.2) (([] : List S_Txn), (w64 (1 + y8.1)), y8.2.1, y8.2.2)).bind fun o => match o with | .out (u24, u29, u30) => (some (u24, u29, u30)) | .ret r => (some r)))
set_option maxRecDepth 100000 in
set_option maxHeartbeats 0 in
theorem spec_l00Src_batch_t (w0 : World) (b0_ : Nat) (x0 : S_l00Src) (A0_0 : Option Addr) (p0_0 : Nat) (k0_0 : Chunk) (v0_0 : View (Lay.int .u8) A0_0 p0_0 x0.code k0_0) (w0_0 : Has w0 k0_0) (hs0 : Sat (blks [(1, [(b0_, .cells #[.slice A0_0 x0.code.length p0_0, .int .i64 x0.at_, .int .i64 x0.seed] 65 (0, 0))])]) w0 w0 [(2, k0_0)] [(1, [(b0_, .cells #[.slice A0_0 x0.code.length p0_0, .int .i64 x0.at_, .int .i64 x0.seed] 65 (0, 0))])]) (r : (List S_Txn) × Int × Int) (H : spec_l00Src_batch.f x0 = some r) :
    Calls Tryz.prog 25 #[.pointer (some ⟨b0_, 0, none⟩)] w0 (Ret (fun v w => ∃ (A0 : Option Addr) (p0 : Nat) (k0 : Chunk), v = .slice A0 r.1.length p0 ∧ Own L_impl_Txn 36 A0 p0 r.1 k0 ∧ Sat (blks [(1, [(b0_, .cells #[.slice A0_0 x0.code.length p0_0, .int .i64 x0.at_, .int .i64 x0.seed] 65 (0, 0))])]) w0 w [] [(0, k0), (1, [(b0_, .cells #[.slice A0_0 x0.code.length p0_0, .int .i64 r.2.1, .int .i64 r.2.2] 65 (0, 0))])])) := by
  have hs := hs0
  unfold spec_l00Src_batch.f at H
  refine enter Tryz.func25 rfl Tryz.ntmps25 rfl fun a hk => ?_
  apply wp_seq_k; intro K1 hK1
  apply wp_region_lit
  refine sa _ rfl hk rfl rfl rfl fun a hk => ?_
  show wpList _ _ _ [] _ _
  refine wpList_nil ?_
  refine hK1 _ _ ?_
  apply wp_seq_k; intro K2 hK2
  apply wp_region_lit
  refine sbs0 3 L_impl_Txn hs rfl hk rfl rfl un22 sz36 fun b3 k4 w a hk o5 hs => ?_
  refine sa _ rfl hk rfl rfl rfl fun a hk => ?_
  show wpList _ _ _ [] _ _
  refine wpList_nil ?_
  refine hK2 _ _ ?_
  apply wp_seq_k; intro K6 hK6
  apply wp_seq_k; intro K7 hK7
  apply wp_region_lit
  refine sm _ rfl hk rfl rfl rfl fun a hk => ?_
  obtain ⟨y8, h9, H⟩ := bind_some H
  refine sc rfl en44 hk rfl rfl rfl (spec_l00Src_next_t _ b0_ x0 A0_0 p0_0 _ v0_0 (hs.hasD (k := 2) rfl) 2 ((hs.hand [(1, 1)] rfl).dpick [(2, 2)] rfl) _ h9) ?_
  rintro _ w ⟨rfl, hG⟩ a hk
  have hs := hs.back [(1, 1)] rfl hG [1] rfl
  refine sv (.int .i64 (w64 (1 + y8.1))) hk rfl rfl rfl fun a hk => ?_
  refine sa _ rfl hk rfl rfl rfl fun a hk => ?_
  show wpList _ _ _ [] _ _
  refine wpList_nil ?_
  refine hK7 _ _ ?_
  obtain ⟨o31, h32, HL33⟩ := bind_some H
  clear H
  obtain ⟨R34, hR34⟩ : ∃ R : Act → World → Prop, R = fun a w => ∃ (u24 : List S_Txn) (u29 : Int) (u30 : Int) (A27 : Option Addr) (p28 : Nat) (k25 : Chunk), o31 = .out (u24, u29, u30) ∧ Kn [(0, (.pointer (some ⟨b0_, 0, none⟩))), (3, (.slice A27 u24.length p28))] 35 a ∧ Sat (blks [(1, [(b0_, .cells #[.slice A0_0 x0.code.length p0_0, .int .i64 x0.at_, .int .i64 x0.seed] 65 (0, 0))])]) w0 w [(2, k0_0)] [(3, k25), (1, [(b0_, .cells #[.slice A0_0 x0.code.length p0_0, .int .i64 u29, .int .i64 u30] 65 (0, 0))])] ∧ Own L_impl_Txn 36 A27 p28 u24 k25 := ⟨_, rfl⟩
  refine wp_cutq R34 ?_ ?_
  ·refine wp_block ?_
   obtain ⟨fu36, h32⟩ := loopO_some h32
   obtain ⟨I35, hI35⟩ : ∃ I : Nat → Act → World → Prop, I = fun fu a w => ∃ (u19 : List S_Txn) (u16 : Int) (u17 : Int) (u18 : Int) (A22 : Option Addr) (p23 : Nat) (k20 : Chunk), loopN (fun s => spec_l00Src_batch.s0 x0 s.1 s.2.1 s.2.2.1 s.2.2.2) fu (u19, u16, u17, u18) = some o31 ∧ Kn [(0, (.pointer (some ⟨b0_, 0, none⟩))), (3, (.slice A22 u19.length p23)), (4, (.int .i64 u16))] 35 a ∧ Sat (blks [(1, [(b0_, .cells #[.slice A0_0 x0.code.length p0_0, .int .i64 x0.at_, .int .i64 x0.seed] 65 (0, 0))])]) w0 w [(2, k0_0)] [(3, k20), (1, [(b0_, .cells #[.slice A0_0 x0.code.length p0_0, .int .i64 u17, .int .i64 u18] 65 (0, 0))])] ∧ Own L_impl_Txn 36 A22 p23 u19 k20 := ⟨_, rfl⟩
   refine wp_loop_ghost I35 fu36 ?_ ?_
   ·rw [hI35]
    exact ⟨([] : List S_Txn), (w64 (1 + y8.1)), y8.2.1, y8.2.2, (some ⟨b3, 0, none⟩), 0, _, h32, (hk.c 0 rfl (hk.c 3 rfl (hk.c 4 rfl hk.k))), (hs.pick [(3, 3), (1, 1)] rfl), o5⟩
   ·clear h32 hk hs
    intro fu36 a w hI0
    rw [hI35] at hI0
    obtain ⟨u19, u16, u17, u18, A22, p23, k20, hi, hk, hs, o21⟩ := hI0
    obtain ⟨x37, H, h38⟩ := loop_round hi
    try dsimp only at H
    unfold spec_l00Src_batch.s0 at H
    apply wp_seq_k; intro K39 hK39
    apply wp_seq_k; intro K40 hK40
    apply wp_region_lit
    refine sm _ rfl hk rfl rfl rfl fun a hk => ?_
    refine sv (.bool (decide (u16 > 0))) hk rfl rfl rfl fun a hk => ?_
    show wpList _ _ _ [] _ _
    refine wpList_nil ?_
    refine hK40 _ _ ?_
    have hs := hs.pick [(3, 3), (1, 1)] rfl
    rcases cond_some H with ⟨c41, H⟩ | ⟨c41, H⟩
    ·have hk := hk.lit 12 c41 rfl
     refine cnd_true hk rfl rfl ?_
     refine wp_skip ?_
     refine hK39 _ _ ?_
     apply wp_seq_k; intro K42 hK42
     refine wp_block ?_
     apply wp_seq_k; intro K43 hK43
     apply wp_region_lit
     refine sbd (pv := []) rfl hk rfl rfl rfl bd36_11 fun a hk => ?_
     refine salx 5 hs rfl hk rfl rfl ze36 rfl fun b44 w a hk hs => ?_
     refine ssw 5 hs rfl rfl hk rfl rfl rfl rfl sz36 (by simp [Value.oneCell']) rfl fun w a hk hs => ?_
     show wpList _ _ _ [] _ _
     refine wpList_nil ?_
     refine hK43 _ _ ?_
     apply wp_seq_k; intro K45 hK45
     apply wp_seq_k; intro K46 hK46
     apply wp_region_lit
     refine sm _ rfl hk rfl rfl rfl fun a hk => ?_
     obtain ⟨y47, h48, H⟩ := bind_some H
     refine sc rfl en44 hk rfl rfl rfl (spec_l00Src_next_t _ b0_ (⟨x0.code, u17, u18⟩ : S_l00Src) A0_0 p0_0 _ v0_0 (hs.hasD (k := 2) rfl) 4 ((hs.hand [(1, 1)] rfl).dpick [(2, 2)] rfl) _ h48) ?_
     rintro _ w ⟨rfl, hG⟩ a hk
     have hs := hs.back [(1, 1)] rfl hG [1] rfl
     refine sv (.int .i64 (w64 (1 + y47.1))) hk rfl rfl rfl fun a hk => ?_
     refine sa _ rfl hk rfl rfl rfl fun a hk => ?_
     show wpList _ _ _ [] _ _
     refine wpList_nil ?_
     refine hK46 _ _ ?_
     obtain ⟨o71, h72, HL73⟩ := bind_some H
     clear H
     obtain ⟨R74, hR74⟩ : ∃ R : Act → World → Prop, R = fun a w => ∃ (u64 : Int) (u65 : Int) (u66 : List S_Op) (A69 : Option Addr) (p70 : Nat) (k67 : Chunk), o71 = .out (u64, u65, u66) ∧ Kn [(0, (.pointer (some ⟨b0_, 0, none⟩))), (3, (.slice A22 u19.length p23)), (4, (.int .i64 u16)), (5, (.pointer (some ⟨b44, 0, none⟩)))] 35 a ∧ Sat (blks [(1, [(b0_, .cells #[.slice A0_0 x0.code.length p0_0, .int .i64 x0.at_, .int .i64 x0.seed] 65 (0, 0))])]) w0 w [(2, k0_0)] [(3, k20), (1, [(b0_, .cells #[.slice A0_0 x0.code.length p0_0, .int .i64 u64, .int .i64 u65] 65 (0, 0))]), (5, [(b44, .cells #[.slice A69 u66.length p70] 36 (0, 0))]), (8, k67)] ∧ Own L_Op 33 A69 p70 u66 k67 := ⟨_, rfl⟩
     refine wp_cutq R74 ?_ ?_
     ·refine wp_block ?_
      obtain ⟨fu76, h72⟩ := loopO_some h72
      obtain ⟨I75, hI75⟩ : ∃ I : Nat → Act → World → Prop, I = fun fu a w => ∃ (u51 : Int) (u52 : Int) (u53 : Int) (u59 : List S_Op) (A62 : Option Addr) (p63 : Nat) (k60 : Chunk), loopN (fun s => spec_l00Src_batch.s1 x0 s.1 s.2.1 s.2.2.1 s.2.2.2) fu (u51, u52, u53, u59) = some o71 ∧ Kn [(0, (.pointer (some ⟨b0_, 0, none⟩))), (3, (.slice A22 u19.length p23)), (4, (.int .i64 u16)), (5, (.pointer (some ⟨b44, 0, none⟩))), (6, (.int .i64 u51))] 35 a ∧ Sat (blks [(1, [(b0_, .cells #[.slice A0_0 x0.code.length p0_0, .int .i64 x0.at_, .int .i64 x0.seed] 65 (0, 0))])]) w0 w [(2, k0_0)] [(3, k20), (1, [(b0_, .cells #[.slice A0_0 x0.code.length p0_0, .int .i64 u52, .int .i64 u53] 65 (0, 0))]), (5, [(b44, .cells #[.slice A62 u59.length p63] 36 (0, 0))]), (8, k60)] ∧ Own L_Op 33 A62 p63 u59 k60 := ⟨_, rfl⟩
      refine wp_loop_ghost I75 fu76 ?_ ?_
      ·rw [hI75]
       exact ⟨(w64 (1 + y47.1)), y47.2.1, y47.2.2, ([] : List S_Op), none, 0, _, h72, (hk.c 0 rfl (hk.c 3 rfl (hk.c 4 rfl (hk.c 5 rfl (hk.c 6 rfl hk.k))))), ((hs.addNil 1008).pick [(3, 3), (1, 1), (5, 5), (8, 1008)] rfl), Own.nil _ _⟩
      ·clear h72 hk hs
       intro fu76 a w hI0
       rw [hI75] at hI0
       obtain ⟨u51, u52, u53, u59, A62, p63, k60, hi, hk, hs, o61⟩ := hI0
       obtain ⟨x77, H, h78⟩ := loop_round hi
       try dsimp only at H
       unfold spec_l00Src_batch.s1 at H
       apply wp_seq_k; intro K79 hK79
       apply wp_seq_k; intro K80 hK80
       apply wp_region_lit
       refine sm _ rfl hk rfl rfl rfl fun a hk => ?_
       refine sv (.bool (decide (u51 > 0))) hk rfl rfl rfl fun a hk => ?_
       show wpList _ _ _ [] _ _
       refine wpList_nil ?_
       refine hK80 _ _ ?_
       have hs := hs.pick [(3, 3), (1, 1), (5, 5), (8, 8)] rfl
       rcases cond_some H with ⟨c81, H⟩ | ⟨c81, H⟩
       ·have hk := hk.lit 20 c81 rfl
        refine cnd_true hk rfl rfl ?_
        refine wp_skip ?_
        refine hK79 _ _ ?_
        apply wp_seq_k; intro K82 hK82
        refine wp_block ?_
        refine wp_region_tree (.q 0 (.q 1 (.alt 2 (.alt 3 (.alt 4 (.alt 5 (.alt 6 (.last 7) .stop) .stop) .stop) .stop) .stop))) mo (by kernel_rfl) (hs.pick [(3, 3), (5, 5)] rfl) fun _ => ?_
        have hs := hs.drew
        refine tqst (.pointer (some ⟨b44, 0, none⟩)) hk rfl rfl rfl rfl (fun w hs => sf ⟨b44, 0, none⟩ rfl hk rfl rfl rfl fd36_0 rfl fun a hk => qe hk) fun a hk => ?_
        refine tqst (.slice A62 u59.length p63) hk rfl rfl rfl rfl (fun w hs => sl rfl hk rfl rfl rfl ag34 (box_cell hs (k := 5) rfl rfl) fun a hk => qe hk) fun a hk => ?_
        refine tsst hk rfl rfl (fun K_r83_2 hK_r83_2 w hF => ?_) wt_stop
        have hs := hs.f hF
        refine sm _ rfl hk rfl rfl rfl fun a hk => ?_
        refine se (hs.pick [(3, 3), (5, 5)] rfl) hk (hK_r83_2 _ _ ?_)
        refine tsst hk rfl rfl (fun K_r83_3 hK_r83_3 w hF => ?_) wt_stop
        have hs := hs.f hF
        obtain ⟨y84, h85, H⟩ := bind_some H
        refine sc rfl en45 hk rfl rfl rfl (spec_l00Src_op_t _ b0_ (⟨x0.code, u52, u53⟩ : S_l00Src) A0_0 p0_0 _ v0_0 (hs.hasD (k := 2) rfl) ((hs.hand [(1, 1)] rfl).dpick [(2, 2)] rfl) _ h85) ?_
        rintro _ w ⟨rfl, hG⟩ a hk
        have hs := hs.back [(1, 1)] rfl hG [1] rfl
        refine se (hs.pick [(3, 3), (5, 5)] rfl) hk (hK_r83_3 _ _ ?_)
        refine tsst hk rfl rfl (fun K_r83_4 hK_r83_4 w hF => ?_) wt_stop
        have hs := hs.f hF
        refine sbs (L := L_Op) (pv := [(0, (.agg #[.int .i64 y84.1.Kind, .int .i64 y84.1.Key, .int .i64 y84.1.Value]))]) (xs := [y84.1]) (ess := [[.int .i64 y84.1.Kind, .int .i64 y84.1.Key, .int .i64 y84.1.Value]]) 10 hs rfl hk rfl rfl rfl un34 (bs33_4 y84.1.Kind y84.1.Key y84.1.Value) (AllOwn.cons0 ⟨rfl, rfl⟩ AllOwn.nil) rfl rfl rfl fun b86 k87 w a hk o88 hs => ?_
        refine se (hs.pick [(3, 3), (5, 5)] rfl) hk (hK_r83_4 _ _ ?_)
        refine tsst hk rfl rfl (fun K_r83_5 hK_r83_5 w hF => ?_) wt_stop
        have hs := hs.f hF
        rcases ite_some H with ⟨c89, H⟩ | ⟨_, H⟩
        rotate_left
        ·cases H
        refine sap 8 (xs := u59) (ys := [y84.1]) (flat_flat : (L_Op).Flat) hs rfl o61 o88.view (hs.hasG (k := 10) rfl) rfl hk rfl rfl rfl rfl rfl rfl un34 mk33 rfl rfl rfl c89 fun A90 p91 k92 w a hk o93 hs => ?_
        refine se (hs.pick [(3, 3), (5, 5)] rfl) hk (hK_r83_5 _ _ ?_)
        refine tsst hk rfl rfl (fun K_r83_6 hK_r83_6 w hF => ?_) wt_stop
        have hs := hs.f hF
        refine sf ⟨b44, 0, none⟩ rfl hk rfl rfl rfl fd36_0 rfl fun a hk => ?_
        refine se (hs.pick [(3, 3), (5, 5)] rfl) hk (hK_r83_6 _ _ ?_)
        refine tlst hk rfl rfl fun K_r83_7 hK_r83_7 w hF => ?_
        have hs := hs.f hF
        refine ssx (cs' := #[.slice A90 (u59 ++ ([y84.1])).length p91]) 5 hs rfl rfl hk rfl rfl rfl rfl sz34 rfl rfl rfl rfl fun w a hk hs => ?_
        refine se trivial hk (hK_r83_7 _ _ fun w hF => ?_)
        have hs := hs.f hF
        refine hK82 _ _ ?_
        apply wp_region_lit
        refine sm _ rfl hk rfl rfl rfl fun a hk => ?_
        refine sv (.int .i64 (w64 (u51 - 1))) hk rfl rfl rfl fun a hk => ?_
        refine sa _ rfl hk rfl rfl rfl fun a hk => ?_
        show wpList _ _ _ [] _ _
        refine wpList_nil ?_
        obtain rfl := Option.some.inj H
        obtain ⟨m94, hmm94, h78⟩ := h78
        show ∃ n', n' < _ ∧ I75 n' _ _
        refine ⟨m94, hmm94, ?_⟩
        rw [hI75]
        exact ⟨(w64 (u51 - 1)), y84.2.1, y84.2.2, (u59 ++ ([y84.1])), A90, p91, _, h78, (hk.c 0 rfl (hk.c 3 rfl (hk.c 4 rfl (hk.c 5 rfl (hk.c 6 rfl hk.k))))), (hs.pick [(3, 3), (1, 1), (5, 5), (8, 8)] rfl), o93⟩
       ·have hk := hk.lit 20 c81 rfl
        refine cnd_false hk rfl rfl ?_
        refine wp_exit ?_
        obtain rfl := Option.some.inj H
        show R74 _ _
        rw [hR74]
        exact ⟨u52, u53, u59, A62, p63, _, h78.symm, (hk.c 0 rfl (hk.c 3 rfl (hk.c 4 rfl (hk.c 5 rfl hk.k)))), (hs.pick [(3, 3), (1, 1), (5, 5), (8, 8)] rfl), o61⟩
     ·intro a w hR0
      rw [hR74] at hR0
      obtain ⟨u64, u65, u66, A69, p70, k67, rfl, hk, hs, o68⟩ := hR0
      have H := HL73
      try dsimp only at H
      refine hK45 _ _ ?_
      have hs := hs.pick [(3, 3), (1, 1), (5, 5), (8, 8)] rfl
      apply wp_region_lit
      refine sm _ rfl hk rfl rfl rfl fun a hk => ?_
      refine sln [.slice A69 u66.length p70] rfl hk rfl rfl rfl ag36 sz36 (box_cells hs (k := 5) rfl) fun a hk => ?_
      refine sbs1 (L := L_impl_Txn) (pv := [(0, (.agg #[.slice A69 u66.length p70]))]) (xs := [(⟨u66⟩ : S_Txn)]) (ess := [[.slice A69 u66.length p70]]) 11 8 hs rfl rfl hk rfl rfl rfl un22 (bs36_5 A69 u66.length p70) (AllOwn.one ⟨_, rfl, o68.toV⟩) rfl rfl rfl fun b95 k96 w a hk o97 hs => ?_
      rcases ite_some H with ⟨c98, H⟩ | ⟨_, H⟩
      rotate_left
      ·cases H
      refine sapm 3 11 (xs := u19) (ys := [(⟨u66⟩ : S_Txn)]) hs rfl rfl o21 o97 rfl hk rfl rfl rfl rfl rfl rfl un22 mk36 rfl rfl rfl c98 fun A99 p100 k101 w a hk o102 hs => ?_
      refine sa _ rfl hk rfl rfl rfl fun a hk => ?_
      show wpList _ _ _ [] _ _
      refine wpList_nil ?_
      refine hK42 _ _ ?_
      apply wp_region_lit
      refine sm _ rfl hk rfl rfl rfl fun a hk => ?_
      refine sv (.int .i64 (w64 (u16 - 1))) hk rfl rfl rfl fun a hk => ?_
      refine sa _ rfl hk rfl rfl rfl fun a hk => ?_
      show wpList _ _ _ [] _ _
      refine wpList_nil ?_
      obtain rfl := Option.some.inj H
      obtain ⟨m103, hmm103, h38⟩ := h38
      show ∃ n', n' < _ ∧ I35 n' _ _
      refine ⟨m103, hmm103, ?_⟩
      rw [hI35]
      exact ⟨(u19 ++ ([(⟨u66⟩ : S_Txn)])), (w64 (u16 - 1)), u64, u65, A99, p100, _, h38, (hk.c 0 rfl (hk.c 3 rfl (hk.c 4 rfl hk.k))), (hs.pick [(3, 3), (1, 1)] rfl), o102⟩
    ·have hk := hk.lit 12 c41 rfl
     refine cnd_false hk rfl rfl ?_
     refine wp_exit ?_
     obtain rfl := Option.some.inj H
     show R34 _ _
     rw [hR34]
     exact ⟨u19, u17, u18, A22, p23, _, h38.symm, (hk.c 0 rfl (hk.c 3 rfl hk.k)), (hs.pick [(3, 3), (1, 1)] rfl), o21⟩
  ·intro a w hR0
   rw [hR34] at hR0
   obtain ⟨u24, u29, u30, A27, p28, k25, rfl, hk, hs, o26⟩ := hR0
   have H := HL33
   try dsimp only at H
   refine hK6 _ _ ?_
   have hs := hs.pick [(3, 3), (1, 1)] rfl
   apply wp_seq_k; intro K104 hK104
   apply wp_region_lit
   refine sm _ rfl hk rfl rfl rfl fun a hk => ?_
   refine sa _ rfl hk rfl rfl rfl fun a hk => ?_
   show wpList _ _ _ [] _ _
   refine wpList_nil ?_
   refine hK104 _ _ ?_
   refine wp_ret ?_
   obtain rfl := Option.some.inj H
   exact fin hk _ [(.slice A27 u24.length p28)] rfl ⟨rfl, trivial⟩ ⟨A27, p28, _, rfl, o26, (hs.pick [(0, 3), (1, 1)] rfl).dnil⟩

noncomputable def spec_BatchOf.f (l0 : List Int) : Option ((List S_Txn)) :=
  ((spec_l00Source.f l0).bind fun y3 => ((spec_l00Src_batch.f y3).bind fun y10 => (some y10.1)))
set_option maxRecDepth 100000 in
set_option maxHeartbeats 0 in
theorem spec_BatchOf_t (w0 : World) (A0_ : Option Addr) (p0_ : Nat) (l0 : List Int) (k0_ : Chunk) (v0_ : View (Lay.int .u8) A0_ p0_ l0 k0_) (w0_ : Has w0 k0_) (r : (List S_Txn)) (H : spec_BatchOf.f l0 = some r) :
    Calls Tryz.prog 10 #[.slice A0_ l0.length p0_] w0 (Ret (fun v w => ∃ (A0 : Option Addr) (p0 : Nat) (k0 : Chunk), v = .slice A0 r.length p0 ∧ Own L_impl_Txn 36 A0 p0 r k0 ∧ Sat [] w0 w [] [(0, k0)])) := by
  have hs : Sat [] w0 w0 [(1, k0_)] [] := Sat.init w0 [(1, k0_)] [] (by simp only [List.mem_cons, List.not_mem_nil, or_false]; rintro x (rfl) <;> assumption) (by simp) List.nodup_nil (by simp [blks])
  unfold spec_BatchOf.f at H
  refine enter Tryz.func10 rfl Tryz.ntmps10 rfl fun a hk => ?_
  apply wp_seq_k; intro K1 hK1
  apply wp_region_lit
  refine sa _ rfl hk rfl rfl rfl fun a hk => ?_
  show wpList _ _ _ [] _ _
  refine wpList_nil ?_
  refine hK1 _ _ ?_
  apply wp_seq_k; intro K2 hK2
  apply wp_region_lit
  refine sm _ rfl hk rfl rfl rfl fun a hk => ?_
  obtain ⟨y3, h4, H⟩ := bind_some H
  refine sc rfl en24 hk rfl rfl rfl (spec_l00Source_t _ A0_ p0_ l0 _ v0_ (hs.hasD (k := 1) rfl) _ h4) ?_
  rintro _ w ⟨b6, A7, p8, k5, rfl, v9, hG⟩ a hk
  have hs := hs.call0k hG [3, 2] rfl
  obtain ⟨y10, h11, H⟩ := bind_some H
  refine sc rfl en25 hk rfl rfl rfl (spec_l00Src_batch_t _ b6 y3 A7 p8 _ v9 (Has.app (hs.hasD (k := 1) rfl) (hs.hasG (k := 2) rfl)) (((hs.hand [(1, 3)] rfl).dcat 2004 (k := 1) (l := 2) rfl rfl).dpick [(2, 2004)] rfl) _ h11) ?_
  rintro _ w ⟨A12, p13, k14, rfl, o15, hG⟩ a hk
  have hs := hs.back [(1, 3)] rfl hG [5, 3] rfl
  refine sa _ rfl hk rfl rfl rfl fun a hk => ?_
  show wpList _ _ _ [] _ _
  refine wpList_nil ?_
  refine hK2 _ _ ?_
  refine wp_ret ?_
  obtain rfl := Option.some.inj H
  exact fin hk _ [(.slice A12 y10.1.length p13)] rfl ⟨rfl, trivial⟩ ⟨A12, p13, _, rfl, o15, (hs.pick [(0, 5)] rfl).dnil⟩

noncomputable def impl_opText.f (x0 : S_Op) : Option (ByteArray) :=
  ((impl_opWords.f).bind fun y5 => (if 0 ≤ x0.Kind ∧ x0.Kind < (y5.length : Int) then ((strconv_Itoa.f x0.Key).bind fun y14 => (if (y5.getD (x0.Kind).toNat ByteArray.empty).size + (⟨#[32]⟩ : ByteArray).size ≤ 1152921504606846976 then (if ((y5.getD (x0.Kind).toNat ByteArray.empty) ++ (⟨#[32]⟩ : ByteArray)).size + y14.size ≤ 1152921504606846976 then ((impl_isBare.f x0.Kind).bind fun y21 => (bif y21 then (some (((y5.getD (x0.Kind).toNat ByteArray.empty) ++ (⟨#[32]⟩ : ByteArray)) ++ y14)) else (if (((y5.getD (x0.Kind).toNat ByteArray.empty) ++ (⟨#[32]⟩ : ByteArray)) ++ y14).size + (⟨#[32]⟩ : ByteArray).size ≤ 1152921504606846976 then ((strconv_Itoa.f x0.Value).bind fun y27 => (if ((((y5.getD (x0.Kind).toNat ByteArray.empty) ++ (⟨#[32]⟩ : ByteArray)) ++ y14) ++ (⟨#[32]⟩ : ByteArray)).size + y27.size ≤ 1152921504606846976 then (some (((((y5.getD (x0.Kind).toNat ByteArray.empty) ++ (⟨#[32]⟩ : ByteArray)) ++ y14) ++ (⟨#[32]⟩ : ByteArray)) ++ y27)) else none)) else none))) else none) else none)) else none))
set_option maxRecDepth 100000 in
set_option maxHeartbeats 0 in
theorem impl_opText_t (w0 : World) (x0 : S_Op) (kT : Chunk) (tT : TabR Tryz.prog kT) (wT : Has w0 kT) (r : ByteArray) (H : impl_opText.f x0 = some r) :
    Calls Tryz.prog 29 #[.agg #[.int .i64 x0.Kind, .int .i64 x0.Key, .int .i64 x0.Value]] w0 (Ret (fun v w => v = .string r ∧ Sat [] w0 w [] [])) := by
  have hs : Sat [] w0 w0 [(1, kT)] [] := Sat.init w0 [(1, kT)] [] (by simp only [List.mem_cons, List.not_mem_nil, or_false]; rintro x (rfl) <;> assumption) (by simp) List.nodup_nil (by simp [blks])
  unfold impl_opText.f at H
  refine enter Tryz.func29 rfl Tryz.ntmps29 rfl fun a hk => ?_
  apply wp_seq_k; intro K1 hK1
  apply wp_region_lit
  refine sbx 2 hs rfl hk rfl rfl rfl rfl fun b2 w a hk hs => ?_
  refine sa _ rfl hk rfl rfl rfl fun a hk => ?_
  show wpList _ _ _ [] _ _
  refine wpList_nil ?_
  refine hK1 _ _ ?_
  apply wp_seq_k; intro K3 hK3
  refine wp_region_tree (.q 1 (.q 2 (.q 6 (.q 7 (.alt 0 (.q 3 (.q 8 (.alt 4 (.alt 5 (.alt 9 (.last 10) .stop) .stop) .stop))) .stop))))) mo (by kernel_rfl) (hs.pick [(2, 2)] rfl) fun _ => ?_
  have hs := hs.drew
  refine tqst (.pointer (some ⟨b2, 0, none⟩)) hk rfl rfl rfl rfl (fun w hs => sf ⟨b2, 0, none⟩ rfl hk rfl rfl rfl fd33_0 rfl fun a hk => qe hk) fun a hk => ?_
  refine tqst (.int .i64 x0.Kind) hk rfl rfl rfl rfl (fun w hs => sl rfl hk rfl rfl rfl ag3 (box_cell hs (k := 2) rfl rfl) fun a hk => qe hk) fun a hk => ?_
  refine tqst (.pointer (some ⟨b2, 1, none⟩)) hk rfl rfl rfl rfl (fun w hs => sf ⟨b2, 1, none⟩ rfl hk rfl rfl rfl fd33_1 rfl fun a hk => qe hk) fun a hk => ?_
  refine tqst (.int .i64 x0.Key) hk rfl rfl rfl rfl (fun w hs => sl rfl hk rfl rfl rfl ag3 (box_cell hs (k := 2) rfl rfl) fun a hk => qe hk) fun a hk => ?_
  refine tsst hk rfl rfl (fun K_r4_0 hK_r4_0 w hF => ?_) wt_stop
  have hs := hs.f hF
  obtain ⟨y5, h6, H⟩ := bind_some H
  refine sc rfl en51 hk rfl rfl rfl (impl_opWords_t _ _ h6) ?_
  rintro _ w ⟨A7, p8, k9, rfl, o10, hG⟩ a hk
  have hs := hs.call0k hG [4] rfl
  refine se (hs.pick [(2, 2)] rfl) hk (hK_r4_0 _ _ ?_)
  rcases ite_some H with ⟨c11, H⟩ | ⟨_, H⟩
  rotate_left
  ·cases H
  obtain ⟨b12, q13, hAc11⟩ := (o10.view).some_ x0.Kind c11.1 c11.2
  refine tqst (.pointer (some (padd A7 ((x0.Kind).toNat * 1)))) hk rfl rfl rfl rfl (fun w hs => si rfl hk rfl rfl rfl rfl un59 sz9 c11.1 c11.2 hAc11 fun a hk => qe hk) fun a hk => ?_
  obtain ⟨y14, h15, H⟩ := bind_some H
  refine tqst (.string y14) hk rfl rfl rfl rfl (fun w hs => sc rfl en52 hk rfl rfl rfl (strconv_Itoa_t _ x0.Key kT tT (hs.hasD (k := 1) rfl) _ h15) fun _ w hR a hk => qc hR hk) fun a hk => ?_
  refine tsst hk rfl rfl (fun K_r4_4 hK_r4_4 w hF => ?_) wt_stop
  have hs := hs.f hF
  obtain ⟨_, rfl, e16⟩ := (o10.view).at_ ByteArray.empty x0.Kind c11.1 c11.2
  refine sl (v := (.string (y5.getD (x0.Kind).toNat ByteArray.empty))) rfl hk rfl rfl rfl ag9 ((e16 0 _ rfl).cell (hs.hasG (k := 4) rfl)) fun a hk => ?_
  refine se (hs.pick [(2, 2)] rfl) hk (hK_r4_4 _ _ ?_)
  refine tsst hk rfl rfl (fun K_r4_5 hK_r4_5 w hF => ?_) wt_stop
  have hs := hs.f hF
  rcases ite_some H with ⟨c17, H⟩ | ⟨_, H⟩
  rotate_left
  ·cases H
  refine ssa rfl hk rfl rfl rfl rfl c17 fun a hk => ?_
  refine se (hs.pick [(2, 2)] rfl) hk (hK_r4_5 _ _ ?_)
  refine tsst hk rfl rfl (fun K_r4_9 hK_r4_9 w hF => ?_) wt_stop
  have hs := hs.f hF
  rcases ite_some H with ⟨c18, H⟩ | ⟨_, H⟩
  rotate_left
  ·cases H
  refine ssa rfl hk rfl rfl rfl rfl c18 fun a hk => ?_
  refine se (hs.pick [(2, 2)] rfl) hk (hK_r4_9 _ _ ?_)
  refine tlst hk rfl rfl fun K_r4_10 hK_r4_10 w hF => ?_
  have hs := hs.f hF
  refine sa _ rfl hk rfl rfl rfl fun a hk => ?_
  refine se trivial hk (hK_r4_10 _ _ fun w hF => ?_)
  have hs := hs.f hF
  refine hK3 _ _ ?_
  apply wp_seq_k; intro K19 hK19
  apply wp_seq_k; intro K20 hK20
  apply wp_region_lit
  refine sf ⟨b2, 0, none⟩ rfl hk rfl rfl rfl fd33_0 rfl fun a hk => ?_
  refine sl rfl hk rfl rfl rfl ag3 (box_cell hs (k := 2) rfl rfl) fun a hk => ?_
  obtain ⟨y21, h22, H⟩ := bind_some H
  refine sc rfl en34 hk rfl rfl rfl (impl_isBare_t _ x0.Kind _ h22) ?_
  rintro _ w ⟨rfl, hG⟩ a hk
  have hs := hs.call0 hG
  show wpList _ _ _ [] _ _
  refine wpList_nil ?_
  refine hK20 _ _ ?_
  rcases cond_some H with ⟨c23, H⟩ | ⟨c23, H⟩
  ·have hk := hk.lit 16 c23 rfl
   refine cnd_true hk rfl rfl ?_
   apply wp_seq_k; intro K24 hK24
   apply wp_region_lit
   refine sm _ rfl hk rfl rfl rfl fun a hk => ?_
   refine sa _ rfl hk rfl rfl rfl fun a hk => ?_
   show wpList _ _ _ [] _ _
   refine wpList_nil ?_
   refine hK24 _ _ ?_
   have hs := hs.pick [] rfl
   refine wp_ret ?_
   obtain rfl := Option.some.inj H
   exact fin hk _ [(.string (((y5.getD (x0.Kind).toNat ByteArray.empty) ++ (⟨#[32]⟩ : ByteArray)) ++ y14))] rfl ⟨rfl, trivial⟩ ⟨rfl, (hs.pick [] rfl).dnil⟩
  ·have hk := hk.lit 16 c23 rfl
   refine cnd_false hk rfl rfl ?_
   refine wp_skip ?_
   refine hK19 _ _ ?_
   have hs := hs.pick [(2, 2)] rfl
   apply wp_seq_k; intro K25 hK25
   apply wp_region_lit
   refine sm _ rfl hk rfl rfl rfl fun a hk => ?_
   rcases ite_some H with ⟨c26, H⟩ | ⟨_, H⟩
   rotate_left
   ·cases H
   refine ssa rfl hk rfl rfl rfl rfl c26 fun a hk => ?_
   refine sf ⟨b2, 2, none⟩ rfl hk rfl rfl rfl fd33_2 rfl fun a hk => ?_
   refine sl rfl hk rfl rfl rfl ag3 (box_cell hs (k := 2) rfl rfl) fun a hk => ?_
   obtain ⟨y27, h28, H⟩ := bind_some H
   refine sc rfl en52 hk rfl rfl rfl (strconv_Itoa_t _ x0.Value kT tT (hs.hasD (k := 1) rfl) _ h28) ?_
   rintro _ w ⟨rfl, hG⟩ a hk
   have hs := hs.call0 hG
   rcases ite_some H with ⟨c29, H⟩ | ⟨_, H⟩
   rotate_left
   ·cases H
   refine ssa rfl hk rfl rfl rfl rfl c29 fun a hk => ?_
   refine sa _ rfl hk rfl rfl rfl fun a hk => ?_
   show wpList _ _ _ [] _ _
   refine wpList_nil ?_
   refine hK25 _ _ ?_
   refine wp_ret ?_
   obtain rfl := Option.some.inj H
   exact fin hk _ [(.string (((((y5.getD (x0.Kind).toNat ByteArray.empty) ++ (⟨#[32]⟩ : ByteArray)) ++ y14) ++ (⟨#[32]⟩ : ByteArray)) ++ y27))] rfl ⟨rfl, trivial⟩ ⟨rfl, (hs.pick [] rfl).dnil⟩

def join_ren : Go.Shelf.Ren := ⟨fun | 156 => 46 | 165 => 72 | 166 => 73 | 169 => 74 | 240 => 88 | 241 => 89 | 276 => 98 | 277 => 99 | n => n, fun | 31 => 59 | 9 => 9 | 3 => 3 | 4 => 4 | 0 => 0 | 20 => 20 | 72 => 86 | 76 => 90 | 70 => 84 | 37 => 28 | 75 => 89 | 127 => 98 | 164 => 106 | 5 => 5 | 80 => 92 | n => n, fun | n => n⟩
theorem join_lays : Go.Proofs.Lays.n156 Tryz.prog join_ren := {
  mixed := by kernel_rfl
  f156 := Tryz.func46.trans (congrArg some (by kernel_rfl))
  f165 := Tryz.func72.trans (congrArg some (by kernel_rfl))
  f166 := Tryz.func73.trans (congrArg some (by kernel_rfl))
  f169 := Tryz.func74.trans (congrArg some (by kernel_rfl))
  f240 := Tryz.func88.trans (congrArg some (by kernel_rfl))
  f241 := Tryz.func89.trans (congrArg some (by kernel_rfl))
  f276 := Tryz.func98.trans (congrArg some (by kernel_rfl))
  f277 := Tryz.func99.trans (congrArg some (by kernel_rfl))
  t0 := Tryz.underlying0
  a0 := Tryz.isAgg0
  z0 := Tryz.sizeOf0
  v0 := Tryz.zeroValue0
  t3 := Tryz.underlying3
  a3 := Tryz.isAgg3
  z3 := Tryz.sizeOf3
  v3 := Tryz.zeroValue3
  t4 := Tryz.underlying4
  a4 := Tryz.isAgg4
  z4 := Tryz.sizeOf4
  v4 := Tryz.zeroValue4
  t9 := Tryz.underlying9
  a9 := Tryz.isAgg9
  z9 := Tryz.sizeOf9
  v9 := Tryz.zeroValue9
  t20 := Tryz.underlying20
  a20 := Tryz.isAgg20
  z20 := Tryz.sizeOf20
  v20 := Tryz.zeroValue20
  t31 := Tryz.underlying59
  a31 := Tryz.isAgg59
  z31 := Tryz.sizeOf59
  v31 := Tryz.zeroValue59
  t37 := Tryz.underlying28
  a37 := Tryz.isAgg28
  z37 := Tryz.sizeOf28
  v37 := Tryz.zeroValue28
  t70 := Tryz.underlying84
  a70 := Tryz.isAgg84
  z70 := Tryz.sizeOf84
  v70 := Tryz.zeroValue84
  t72 := Tryz.underlying86
  a72 := Tryz.isAgg86
  z72 := Tryz.sizeOf86
  v72 := Tryz.zeroValue86
  t75 := Tryz.underlying89
  a75 := Tryz.isAgg89
  z75 := Tryz.sizeOf89
  v75 := Tryz.zeroValue89
  t76 := Tryz.underlying90
  a76 := Tryz.isAgg90
  z76 := Tryz.sizeOf90
  v76 := Tryz.zeroValue90
  t127 := Tryz.underlying98
  a127 := Tryz.isAgg98
  z127 := Tryz.sizeOf98
  v127 := Tryz.zeroValue98
  t164 := Tryz.underlying106
  a164 := Tryz.isAgg106
  z164 := Tryz.sizeOf106
  v164 := Tryz.zeroValue106 }
theorem join_extra : Builder.Extra Tryz.prog join_ren := {
  sizeBuilder := by kernel_rfl
  liesBuilder := by kernel_rfl
  t5 := Tryz.underlying5
  a5 := Tryz.isAgg5
  z5 := Tryz.sizeOf5
  v5 := Tryz.zeroValue5
  infoByte := by kernel_rfl
  cellsByte := by kernel_rfl
  sizeByte := by kernel_rfl
  neB5 := by decide }
open Go.RowKit in
theorem join_none (a : Option Addr) (c : Nat) (sep : ByteArray) (w : World) :
    Calls Tryz.prog 46 #[.slice a 0 c, .string sep] w fun e w' => e = .returned (.string ⟨#[]⟩) ∧ w' = w := Any.strings_Join_none join_lays join_extra a c sep w
open Go.RowKit in
theorem join_shelf (bk o c : Nat) (xs : List ByteArray) (sep : ByteArray) (w : World) (hcells : ∀ (j : Nat) x, xs[j]? = some x → w.cell? ⟨bk, o + j, none⟩ = some (.string x)) (hbk : bk < w.heap.size) (hN : xs.length ≤ 140737488355328) (hcap : xs.length ≤ c) (hlen : (Lib.join (xs.map (·.data.toList)) sep.data.toList).length ≤ 140737488355328) :
    Calls Tryz.prog 46 #[.slice (some ⟨bk, o, none⟩) xs.length c, .string sep] w fun e w' => e = .returned (.string ⟨(Lib.join (xs.map (·.data.toList)) sep.data.toList).toArray⟩) ∧ Below w.heap.size w w' := Any.strings_Join join_lays join_extra bk o c xs sep w hcells hbk hN hcap hlen
noncomputable def strings_Join.f (l0 : List ByteArray) (x1 : ByteArray) : Option ByteArray := if l0.length ≤ 140737488355328 ∧ (joinB l0 x1).size ≤ 140737488355328 then some (joinB l0 x1) else none
theorem strings_Join_t (w0 : World) (A0_ : Option Addr) (p0_ : Nat) (l0 : List ByteArray) (k0_ : Chunk) (v0_ : View Lay.str A0_ p0_ l0 k0_) (w0_ : Has w0 k0_) (x1 : ByteArray) (r : ByteArray) (H : strings_Join.f l0 x1 = some r) :
    Calls Tryz.prog 46 #[.slice A0_ l0.length p0_, .string x1] w0 (Ret (fun v w => v = .string r ∧ Sat [] w0 w [] [])) := by
  unfold strings_Join.f at H
  rcases ite_some H with ⟨⟨h1, h2⟩, H⟩ | ⟨_, H⟩
  rotate_left
  · cases H
  obtain rfl := Option.some.inj H
  by_cases hl : l0.length = 0
  · obtain rfl := List.eq_nil_of_length_eq_zero hl
    refine (join_none A0_ p0_ x1 w0).mono ?_
    rintro e w' ⟨rfl, rfl⟩
    exact ⟨_, rfl, rfl, F.refl _⟩
  obtain ⟨b, o, rfl⟩ := v0_.some_ 0 (by omega) (by omega)
  have hc : ∀ (j : Nat) x, l0[j]? = some x → w0.cell? ⟨b, o + j, none⟩ = some (.string x) := fun j x hx => by
    have hj := (List.getElem?_eq_some_iff.1 hx).1
    obtain ⟨_, rfl, hcell⟩ := v0_.at_ ByteArray.empty (j : Int) (by omega) (by omega)
    have h := (hcell 0 _ rfl).cell w0_
    have e : l0.getD j ByteArray.empty = x := by rw [List.getD_eq_getElem?_getD, hx]; rfl
    rw [Int.toNat_natCast, e] at h
    simpa [padd, Lay.str, Lay.flat] using h
  have hb : b < w0.heap.size := by
    have h := hc 0 l0[0] (List.getElem?_eq_getElem (by omega))
    rcases Nat.lt_or_ge b w0.heap.size with hlt | hge
    · exact hlt
    · unfold World.cell? at h
      rw [Array.getElem?_eq_none hge] at h; cases h
  refine (join_shelf b o p0_ l0 x1 w0 hc hb h1 v0_.le (by exact h2)).mono ?_
  rintro e w' ⟨rfl, hB⟩
  exact ⟨_, rfl, rfl, Sat.ofBelow hB⟩

noncomputable def impl_batchText.s1 (l0 : List S_Txn) (u12 : Int) (u55 : List ByteArray) (u54 : Int) : Option (((List ByteArray) × Int) ⊕ Ex ((List ByteArray)) (ByteArray)) :=
  (bif (decide (u54 < (((l0.getD u12.toNat z_Txn).Ops).length : Int))) then (if 0 ≤ u54 ∧ u54 < (((l0.getD u12.toNat z_Txn).Ops).length : Int) then ((impl_opText.f (((l0.getD u12.toNat z_Txn).Ops).getD u54.toNat z_Op)).bind fun y83 => (if u55.length + ([y83]).length ≤ 1073741824 then (some (.inl ((u55 ++ ([y83])), (w64 (u54 + 1))))) else none)) else none) else (some (.inr (.out u55))))
noncomputable def impl_batchText.s0 (l0 : List S_Txn) (u13 : List ByteArray) (u12 : Int) : Option (((List ByteArray) × Int) ⊕ Ex ((List ByteArray)) (ByteArray)) :=
  (bif (decide (u12 < (l0.length : Int))) then (if 0 ≤ u12 ∧ u12 < (l0.length : Int) then ((loopO (fun s => impl_batchText.s1 l0 u12 s.1 s.2) (([] : List ByteArray), 0)).bind fun o => match o with | .out u60 => ((strings_Join.f u60 (⟨#[59, 32]⟩ : ByteArray)).bind fun y94 => (if u13.length + ([y94]).length ≤ 1073741824 then (some (.inl ((u13 ++ ([y94])), (w64 (u12 + 1))))) else none)) | .ret r => (some (.inr (.ret r)))) else none) else (some (.inr (.out u13))))
noncomputable def impl_batchText.f (l0 : List S_Txn) : Option (ByteArray) :=
  ((loopO (fun s => impl_batchText.s0 l0 s.1 s.2) (([] : List ByteArray), 0)).bind fun o => match o with | .out u18 => ((strings_Join.f u18 (⟨#[32, 124, 32]⟩ : ByteArray)).bind fun y106 => (some y106)) | .ret r => (some r))
set_option maxRecDepth 100000 in
set_option maxHeartbeats 0 in
theorem impl_batchText_t (w0 : World) (A0_ : Option Addr) (p0_ : Nat) (l0 : List S_Txn) (k0_ : Chunk) (v0_ : View L_impl_Txn A0_ p0_ l0 k0_) (w0_ : Has w0 k0_) (kT : Chunk) (tT : TabR Tryz.prog kT) (wT : Has w0 kT) (r : ByteArray) (H : impl_batchText.f l0 = some r) :
    Calls Tryz.prog 26 #[.slice A0_ l0.length p0_] w0 (Ret (fun v w => v = .string r ∧ Sat [] w0 w [] [])) := by
  have hs : Sat [] w0 w0 [(1, k0_), (2, kT)] [] := Sat.init w0 [(1, k0_), (2, kT)] [] (by simp only [List.mem_cons, List.not_mem_nil, or_false]; rintro x (rfl | rfl) <;> assumption) (by simp) List.nodup_nil (by simp [blks])
  unfold impl_batchText.f at H
  refine enter Tryz.func26 rfl Tryz.ntmps26 rfl fun a hk => ?_
  apply wp_seq_k; intro K1 hK1
  apply wp_region_lit
  refine sa _ rfl hk rfl rfl rfl fun a hk => ?_
  show wpList _ _ _ [] _ _
  refine wpList_nil ?_
  refine hK1 _ _ ?_
  apply wp_seq_k; intro K2 hK2
  apply wp_region_lit
  refine sa _ rfl hk rfl rfl rfl fun a hk => ?_
  show wpList _ _ _ [] _ _
  refine wpList_nil ?_
  refine hK2 _ _ ?_
  apply wp_seq_k; intro K3 hK3
  apply wp_seq_k; intro K4 hK4
  apply wp_region_lit
  refine sm _ rfl hk rfl rfl rfl fun a hk => ?_
  refine sle rfl hk rfl rfl rfl un22 fun a hk => ?_
  refine sm _ rfl hk rfl rfl rfl fun a hk => ?_
  show wpList _ _ _ [] _ _
  refine wpList_nil ?_
  refine hK4 _ _ ?_
  obtain ⟨o23, h24, HL25⟩ := bind_some H
  clear H
  obtain ⟨R26, hR26⟩ : ∃ R : Act → World → Prop, R = fun a w => ∃ (u18 : List ByteArray) (A21 : Option Addr) (p22 : Nat) (k19 : Chunk), o23 = .out u18 ∧ Kn [(3, (.slice A21 u18.length p22))] 36 a ∧ Sat [] w0 w [(1, k0_), (2, kT)] [(5, k19)] ∧ Own Lay.str 9 A21 p22 u18 k19 := ⟨_, rfl⟩
  refine wp_cutq R26 ?_ ?_
  ·refine wp_block ?_
   obtain ⟨fu28, h24⟩ := loopO_some h24
   obtain ⟨I27, hI27⟩ : ∃ I : Nat → Act → World → Prop, I = fun fu a w => ∃ (u13 : List ByteArray) (u12 : Int) (A16 : Option Addr) (p17 : Nat) (k14 : Chunk), loopN (fun s => impl_batchText.s0 l0 s.1 s.2) fu (u13, u12) = some o23 ∧ Kn [(3, (.slice A16 u13.length p17)), (9, (.slice A0_ l0.length p0_)), (10, (.int .i64 (l0.length : Int))), (11, (.int .i64 u12))] 36 a ∧ Sat [] w0 w [(1, k0_), (2, kT)] [(5, k14)] ∧ Own Lay.str 9 A16 p17 u13 k14 := ⟨_, rfl⟩
   refine wp_loop_ghost I27 fu28 ?_ ?_
   ·rw [hI27]
    exact ⟨([] : List ByteArray), 0, none, 0, _, h24, (hk.c 3 rfl (hk.c 9 rfl (hk.c 10 rfl (hk.c 11 rfl hk.k)))), ((hs.addNil 1005).pick [(5, 1005)] rfl), Own.nil _ _⟩
   ·clear h24 hk hs
    intro fu28 a w hI0
    rw [hI27] at hI0
    obtain ⟨u13, u12, A16, p17, k14, hi, hk, hs, o15⟩ := hI0
    obtain ⟨x29, H, h30⟩ := loop_round hi
    try dsimp only at H
    unfold impl_batchText.s0 at H
    apply wp_seq_k; intro K31 hK31
    apply wp_region_lit
    refine sv (.bool (decide (u12 < (l0.length : Int)))) hk rfl rfl rfl fun a hk => ?_
    show wpList _ _ _ [] _ _
    refine wpList_nil ?_
    refine hK31 _ _ ?_
    have hs := hs.pick [(5, 5)] rfl
    apply wp_seq_k; intro K32 hK32
    rcases cond_some H with ⟨c33, H⟩ | ⟨c33, H⟩
    ·have hk := hk.lit 12 c33 rfl
     refine cnd_true hk rfl rfl ?_
     refine wp_skip ?_
     refine hK32 _ _ ?_
     apply wp_seq_k; intro K34 hK34
     refine wp_block ?_
     apply wp_seq_k; intro K35 hK35
     apply wp_region_lit
     rcases ite_some H with ⟨c36, H⟩ | ⟨_, H⟩
     rotate_left
     ·cases H
     obtain ⟨b37, q38, hAc36⟩ := (v0_).some_ u12 c36.1 c36.2
     refine si rfl hk rfl rfl rfl rfl un22 sz36 c36.1 c36.2 hAc36 fun a hk => ?_
     obtain ⟨_, ⟨_, rfl, A40, p41, rfl, v42⟩, e39⟩ := (v0_).at_ z_Txn u12 c36.1 c36.2
     refine sln [.slice A40 ((l0.getD u12.toNat z_Txn).Ops).length p41] rfl hk rfl rfl rfl ag36 sz36 (cells_at e39 (hs.hasD (k := 1) rfl)) fun a hk => ?_
     refine salx 6 hs rfl hk rfl rfl ze36 rfl fun b43 w a hk hs => ?_
     refine ssw 6 hs rfl rfl hk rfl rfl rfl rfl sz36 (by simp [Value.oneCell']) rfl fun w a hk hs => ?_
     show wpList _ _ _ [] _ _
     refine wpList_nil ?_
     refine hK35 _ _ ?_
     apply wp_seq_k; intro K44 hK44
     apply wp_region_lit
     refine sa _ rfl hk rfl rfl rfl fun a hk => ?_
     show wpList _ _ _ [] _ _
     refine wpList_nil ?_
     refine hK44 _ _ ?_
     apply wp_seq_k; intro K45 hK45
     apply wp_seq_k; intro K46 hK46
     apply wp_region_lit
     refine sf ⟨b43, 0, none⟩ rfl hk rfl rfl rfl fd36_0 rfl fun a hk => ?_
     refine sl rfl hk rfl rfl rfl ag34 (box_cell hs (k := 6) rfl rfl) fun a hk => ?_
     refine sle rfl hk rfl rfl rfl un34 fun a hk => ?_
     refine sm _ rfl hk rfl rfl rfl fun a hk => ?_
     show wpList _ _ _ [] _ _
     refine wpList_nil ?_
     refine hK46 _ _ ?_
     have hs := hs.pick [(5, 5)] rfl
     obtain ⟨o65, h66, HL67⟩ := bind_some H
     clear H
     obtain ⟨R68, hR68⟩ : ∃ R : Act → World → Prop, R = fun a w => ∃ (u60 : List ByteArray) (A63 : Option Addr) (p64 : Nat) (k61 : Chunk), o65 = .out u60 ∧ Kn [(3, (.slice A16 u13.length p17)), (6, (.slice A63 u60.length p64)), (9, (.slice A0_ l0.length p0_)), (10, (.int .i64 (l0.length : Int))), (11, (.int .i64 u12))] 36 a ∧ Sat [] w0 w [(1, k0_), (2, kT)] [(5, k14), (9, k61)] ∧ Own Lay.str 9 A63 p64 u60 k61 := ⟨_, rfl⟩
     refine wp_cutq R68 ?_ ?_
     ·refine wp_block ?_
      obtain ⟨fu70, h66⟩ := loopO_some h66
      obtain ⟨I69, hI69⟩ : ∃ I : Nat → Act → World → Prop, I = fun fu a w => ∃ (u55 : List ByteArray) (u54 : Int) (A58 : Option Addr) (p59 : Nat) (k56 : Chunk), loopN (fun s => impl_batchText.s1 l0 u12 s.1 s.2) fu (u55, u54) = some o65 ∧ Kn [(3, (.slice A16 u13.length p17)), (6, (.slice A58 u55.length p59)), (9, (.slice A0_ l0.length p0_)), (10, (.int .i64 (l0.length : Int))), (11, (.int .i64 u12)), (16, (.slice A40 ((l0.getD u12.toNat z_Txn).Ops).length p41)), (17, (.int .i64 (((l0.getD u12.toNat z_Txn).Ops).length : Int))), (18, (.int .i64 u54))] 36 a ∧ Sat [] w0 w [(1, k0_), (2, kT)] [(5, k14), (9, k56)] ∧ Own Lay.str 9 A58 p59 u55 k56 := ⟨_, rfl⟩
      refine wp_loop_ghost I69 fu70 ?_ ?_
      ·rw [hI69]
       exact ⟨([] : List ByteArray), 0, none, 0, _, h66, (hk.c 3 rfl (hk.c 6 rfl (hk.c 9 rfl (hk.c 10 rfl (hk.c 11 rfl (hk.c 16 rfl (hk.c 17 rfl (hk.c 18 rfl hk.k)))))))), ((hs.addNil 1009).pick [(5, 5), (9, 1009)] rfl), Own.nil _ _⟩
      ·clear h66 hk hs
       intro fu70 a w hI0
       rw [hI69] at hI0
       obtain ⟨u55, u54, A58, p59, k56, hi, hk, hs, o57⟩ := hI0
       obtain ⟨x71, H, h72⟩ := loop_round hi
       try dsimp only at H
       unfold impl_batchText.s1 at H
       apply wp_seq_k; intro K73 hK73
       apply wp_region_lit
       refine sv (.bool (decide (u54 < (((l0.getD u12.toNat z_Txn).Ops).length : Int)))) hk rfl rfl rfl fun a hk => ?_
       show wpList _ _ _ [] _ _
       refine wpList_nil ?_
       refine hK73 _ _ ?_
       apply wp_seq_k; intro K74 hK74
       rcases cond_some H with ⟨c75, H⟩ | ⟨c75, H⟩
       ·have hk := hk.lit 19 c75 rfl
        refine cnd_true hk rfl rfl ?_
        refine wp_skip ?_
        refine hK74 _ _ ?_
        apply wp_seq_k; intro K76 hK76
        refine wp_block ?_
        apply wp_seq_k; intro K77 hK77
        apply wp_region_lit
        rcases ite_some H with ⟨c78, H⟩ | ⟨_, H⟩
        rotate_left
        ·cases H
        obtain ⟨b79, q80, hAc78⟩ := (v42).some_ u54 c78.1 c78.2
        refine si rfl hk rfl rfl rfl rfl un34 sz33 c78.1 c78.2 hAc78 fun a hk => ?_
        obtain ⟨_, rfl, e81⟩ := (v42).at_ z_Op u54 c78.1 c78.2
        refine sln [.int .i64 ((((l0.getD u12.toNat z_Txn).Ops).getD u54.toNat z_Op).Kind), .int .i64 ((((l0.getD u12.toNat z_Txn).Ops).getD u54.toNat z_Op).Key), .int .i64 ((((l0.getD u12.toNat z_Txn).Ops).getD u54.toNat z_Op).Value)] rfl hk rfl rfl rfl ag33 sz33 (cells_at e81 (hs.hasD (k := 1) rfl)) fun a hk => ?_
        refine salx 10 hs rfl hk rfl rfl ze33 rfl fun b82 w a hk hs => ?_
        refine ssw 10 hs rfl rfl hk rfl rfl rfl rfl sz33 (by simp [Value.oneCell']) rfl fun w a hk hs => ?_
        show wpList _ _ _ [] _ _
        refine wpList_nil ?_
        refine hK77 _ _ ?_
        apply wp_region_lit
        refine sm _ rfl hk rfl rfl rfl fun a hk => ?_
        refine sln [.int .i64 ((((l0.getD u12.toNat z_Txn).Ops).getD u54.toNat z_Op).Kind), .int .i64 ((((l0.getD u12.toNat z_Txn).Ops).getD u54.toNat z_Op).Key), .int .i64 ((((l0.getD u12.toNat z_Txn).Ops).getD u54.toNat z_Op).Value)] rfl hk rfl rfl rfl ag33 sz33 (box_cells hs (k := 10) rfl) fun a hk => ?_
        obtain ⟨y83, h84, H⟩ := bind_some H
        refine sc rfl en29 hk rfl rfl rfl (impl_opText_t _ (((l0.getD u12.toNat z_Txn).Ops).getD u54.toNat z_Op) kT tT (hs.hasD (k := 2) rfl) _ h84) ?_
        rintro _ w ⟨rfl, hG⟩ a hk
        have hs := hs.call0 hG
        refine sbs (L := Lay.str) (pv := [(0, (.string y83))]) (xs := [y83]) (ess := [[.string y83]]) 11 hs rfl hk rfl rfl rfl un59 (bs9_6 y83) (AllOwn.cons0 ⟨rfl, rfl⟩ AllOwn.nil) rfl rfl rfl fun b85 k86 w a hk o87 hs => ?_
        rcases ite_some H with ⟨c88, H⟩ | ⟨_, H⟩
        rotate_left
        ·cases H
        refine sap 9 (xs := u55) (ys := [y83]) (flat_flat : (Lay.str).Flat) hs rfl o57 o87.view (hs.hasG (k := 11) rfl) rfl hk rfl rfl rfl rfl rfl rfl un59 mk9 rfl rfl rfl c88 fun A89 p90 k91 w a hk o92 hs => ?_
        refine sa _ rfl hk rfl rfl rfl fun a hk => ?_
        show wpList _ _ _ [] _ _
        refine wpList_nil ?_
        refine hK76 _ _ ?_
        have hs := hs.pick [(5, 5), (9, 9)] rfl
        apply wp_region_lit
        refine sv (.int .i64 (w64 (u54 + 1))) hk rfl rfl rfl fun a hk => ?_
        refine sm _ rfl hk rfl rfl rfl fun a hk => ?_
        show wpList _ _ _ [] _ _
        refine wpList_nil ?_
        obtain rfl := Option.some.inj H
        obtain ⟨m93, hmm93, h72⟩ := h72
        show ∃ n', n' < _ ∧ I69 n' _ _
        refine ⟨m93, hmm93, ?_⟩
        rw [hI69]
        exact ⟨(u55 ++ ([y83])), (w64 (u54 + 1)), A89, p90, _, h72, (hk.c 3 rfl (hk.c 6 rfl (hk.c 9 rfl (hk.c 10 rfl (hk.c 11 rfl (hk.c 16 rfl (hk.c 17 rfl (hk.c 18 rfl hk.k)))))))), (hs.pick [(5, 5), (9, 9)] rfl), o92⟩
       ·have hk := hk.lit 19 c75 rfl
        refine cnd_false hk rfl rfl ?_
        refine wp_exit ?_
        obtain rfl := Option.some.inj H
        show R68 _ _
        rw [hR68]
        exact ⟨u55, A58, p59, _, h72.symm, (hk.c 3 rfl (hk.c 6 rfl (hk.c 9 rfl (hk.c 10 rfl (hk.c 11 rfl hk.k))))), (hs.pick [(5, 5), (9, 9)] rfl), o57⟩
     ·intro a w hR0
      rw [hR68] at hR0
      obtain ⟨u60, A63, p64, k61, rfl, hk, hs, o62⟩ := hR0
      have H := HL67
      try dsimp only at H
      refine hK45 _ _ ?_
      apply wp_region_lit
      refine sm _ rfl hk rfl rfl rfl fun a hk => ?_
      refine sm _ rfl hk rfl rfl rfl fun a hk => ?_
      obtain ⟨y94, h95, H⟩ := bind_some H
      refine sc rfl en46 hk rfl rfl rfl (strings_Join_t _ A63 p64 u60 _ o62.view (hs.hasG (k := 9) rfl) (⟨#[59, 32]⟩ : ByteArray) _ h95) ?_
      rintro _ w ⟨rfl, hG⟩ a hk
      have hs := hs.call0 hG
      refine sbs (L := Lay.str) (pv := [(0, (.string y94))]) (xs := [y94]) (ess := [[.string y94]]) 12 hs rfl hk rfl rfl rfl un59 (bs9_6 y94) (AllOwn.cons0 ⟨rfl, rfl⟩ AllOwn.nil) rfl rfl rfl fun b96 k97 w a hk o98 hs => ?_
      rcases ite_some H with ⟨c99, H⟩ | ⟨_, H⟩
      rotate_left
      ·cases H
      refine sap 5 (xs := u13) (ys := [y94]) (flat_flat : (Lay.str).Flat) hs rfl o15 o98.view (hs.hasG (k := 12) rfl) rfl hk rfl rfl rfl rfl rfl rfl un59 mk9 rfl rfl rfl c99 fun A100 p101 k102 w a hk o103 hs => ?_
      refine sa _ rfl hk rfl rfl rfl fun a hk => ?_
      show wpList _ _ _ [] _ _
      refine wpList_nil ?_
      refine hK34 _ _ ?_
      apply wp_region_lit
      refine sv (.int .i64 (w64 (u12 + 1))) hk rfl rfl rfl fun a hk => ?_
      refine sm _ rfl hk rfl rfl rfl fun a hk => ?_
      show wpList _ _ _ [] _ _
      refine wpList_nil ?_
      obtain rfl := Option.some.inj H
      obtain ⟨m104, hmm104, h30⟩ := h30
      show ∃ n', n' < _ ∧ I27 n' _ _
      refine ⟨m104, hmm104, ?_⟩
      rw [hI27]
      exact ⟨(u13 ++ ([y94])), (w64 (u12 + 1)), A100, p101, _, h30, (hk.c 3 rfl (hk.c 9 rfl (hk.c 10 rfl (hk.c 11 rfl hk.k)))), (hs.pick [(5, 5)] rfl), o103⟩
    ·have hk := hk.lit 12 c33 rfl
     refine cnd_false hk rfl rfl ?_
     refine wp_exit ?_
     obtain rfl := Option.some.inj H
     show R26 _ _
     rw [hR26]
     exact ⟨u13, A16, p17, _, h30.symm, (hk.c 3 rfl hk.k), (hs.pick [(5, 5)] rfl), o15⟩
  ·intro a w hR0
   rw [hR26] at hR0
   obtain ⟨u18, A21, p22, k19, rfl, hk, hs, o20⟩ := hR0
   have H := HL25
   try dsimp only at H
   refine hK3 _ _ ?_
   have hs := hs.pick [(5, 5)] rfl
   apply wp_seq_k; intro K105 hK105
   apply wp_region_lit
   refine sm _ rfl hk rfl rfl rfl fun a hk => ?_
   obtain ⟨y106, h107, H⟩ := bind_some H
   refine sc rfl en46 hk rfl rfl rfl (strings_Join_t _ A21 p22 u18 _ o20.view (hs.hasG (k := 5) rfl) (⟨#[32, 124, 32]⟩ : ByteArray) _ h107) ?_
   rintro _ w ⟨rfl, hG⟩ a hk
   have hs := hs.call0 hG
   refine sa _ rfl hk rfl rfl rfl fun a hk => ?_
   show wpList _ _ _ [] _ _
   refine wpList_nil ?_
   refine hK105 _ _ ?_
   refine wp_ret ?_
   obtain rfl := Option.some.inj H
   exact fin hk _ [(.string y106)] rfl ⟨rfl, trivial⟩ ⟨rfl, (hs.pick [] rfl).dnil⟩

noncomputable def impl_BatchText.f (l0 : List S_Txn) : Option (ByteArray × Int) :=
  (bif (decide ((l0.length : Int) > 4096)) then (some ((⟨#[]⟩ : ByteArray), 2)) else ((impl_BatchOK.f l0).bind fun y7 => (bif (!y7) then (some ((⟨#[]⟩ : ByteArray), 1)) else ((impl_batchText.f l0).bind fun y12 => (some (y12, 0))))))
set_option maxRecDepth 100000 in
set_option maxHeartbeats 0 in
theorem impl_BatchText_t (w0 : World) (A0_ : Option Addr) (p0_ : Nat) (l0 : List S_Txn) (k0_ : Chunk) (v0_ : View L_impl_Txn A0_ p0_ l0 k0_) (w0_ : Has w0 k0_) (kT : Chunk) (tT : TabR Tryz.prog kT) (wT : Has w0 kT) (r : ByteArray × Int) (H : impl_BatchText.f l0 = some r) :
    Calls Tryz.prog 11 #[.slice A0_ l0.length p0_] w0 (Ret (fun v w => v = .tuple #[.string r.1, .int .i64 r.2] ∧ Sat [] w0 w [] [])) := by
  have hs : Sat [] w0 w0 [(1, k0_), (2, kT)] [] := Sat.init w0 [(1, k0_), (2, kT)] [] (by simp only [List.mem_cons, List.not_mem_nil, or_false]; rintro x (rfl | rfl) <;> assumption) (by simp) List.nodup_nil (by simp [blks])
  unfold impl_BatchText.f at H
  refine enter Tryz.func11 rfl Tryz.ntmps11 rfl fun a hk => ?_
  apply wp_seq_k; intro K1 hK1
  apply wp_region_lit
  refine sa _ rfl hk rfl rfl rfl fun a hk => ?_
  refine sa _ rfl hk rfl rfl rfl fun a hk => ?_
  show wpList _ _ _ [] _ _
  refine wpList_nil ?_
  refine hK1 _ _ ?_
  apply wp_seq_k; intro K2 hK2
  refine wp_block ?_
  apply wp_seq_k; intro K3 hK3
  apply wp_region_lit
  refine sm _ rfl hk rfl rfl rfl fun a hk => ?_
  refine sle rfl hk rfl rfl rfl un22 fun a hk => ?_
  refine sv (.bool (decide ((l0.length : Int) > 4096))) hk rfl rfl rfl fun a hk => ?_
  refine sa _ rfl hk rfl rfl rfl fun a hk => ?_
  show wpList _ _ _ [] _ _
  refine wpList_nil ?_
  refine hK3 _ _ ?_
  rcases cond_some H with ⟨c4, H⟩ | ⟨c4, H⟩
  ·have hk := hk.lit 4 c4 rfl
   refine cnd_true hk rfl rfl ?_
   apply wp_seq_k; intro K5 hK5
   apply wp_region_lit
   refine sa _ rfl hk rfl rfl rfl fun a hk => ?_
   refine sa _ rfl hk rfl rfl rfl fun a hk => ?_
   show wpList _ _ _ [] _ _
   refine wpList_nil ?_
   refine hK5 _ _ ?_
   refine wp_ret ?_
   obtain rfl := Option.some.inj H
   exact fin hk _ [(.string (⟨#[]⟩ : ByteArray)), (.int .i64 2)] rfl ⟨rfl, ⟨rfl, trivial⟩⟩ ⟨rfl, (hs.pick [] rfl).dnil⟩
  ·have hk := hk.lit 4 c4 rfl
   refine cnd_false hk rfl rfl ?_
   apply wp_seq_k; intro K6 hK6
   apply wp_region_lit
   refine sm _ rfl hk rfl rfl rfl fun a hk => ?_
   obtain ⟨y7, h8, H⟩ := bind_some H
   refine sc rfl en17 hk rfl rfl rfl (impl_BatchOK_t _ A0_ p0_ l0 _ v0_ (hs.hasD (k := 1) rfl) _ h8) ?_
   rintro _ w ⟨rfl, hG⟩ a hk
   have hs := hs.call0 hG
   refine sv (.bool (!y7)) hk rfl rfl rfl fun a hk => ?_
   refine sa _ rfl hk rfl rfl rfl fun a hk => ?_
   show wpList _ _ _ [] _ _
   refine wpList_nil ?_
   refine hK6 _ _ ?_
   rcases cond_some H with ⟨c9, H⟩ | ⟨c9, H⟩
   ·have hk := hk.lit 8 c9 rfl
    refine cnd_true hk rfl rfl ?_
    apply wp_seq_k; intro K10 hK10
    apply wp_region_lit
    refine sa _ rfl hk rfl rfl rfl fun a hk => ?_
    refine sa _ rfl hk rfl rfl rfl fun a hk => ?_
    show wpList _ _ _ [] _ _
    refine wpList_nil ?_
    refine hK10 _ _ ?_
    have hs := hs.pick [] rfl
    refine wp_ret ?_
    obtain rfl := Option.some.inj H
    exact fin hk _ [(.string (⟨#[]⟩ : ByteArray)), (.int .i64 1)] rfl ⟨rfl, ⟨rfl, trivial⟩⟩ ⟨rfl, (hs.pick [] rfl).dnil⟩
   ·have hk := hk.lit 8 c9 rfl
    refine cnd_false hk rfl rfl ?_
    refine wp_skip ?_
    refine hK2 _ _ ?_
    have hs := hs.pick [] rfl
    apply wp_seq_k; intro K11 hK11
    apply wp_region_lit
    refine sm _ rfl hk rfl rfl rfl fun a hk => ?_
    obtain ⟨y12, h13, H⟩ := bind_some H
    refine sc rfl en26 hk rfl rfl rfl (impl_batchText_t _ A0_ p0_ l0 _ v0_ (hs.hasD (k := 1) rfl) kT tT (hs.hasD (k := 2) rfl) _ h13) ?_
    rintro _ w ⟨rfl, hG⟩ a hk
    have hs := hs.call0 hG
    refine sa _ rfl hk rfl rfl rfl fun a hk => ?_
    refine sa _ rfl hk rfl rfl rfl fun a hk => ?_
    show wpList _ _ _ [] _ _
    refine wpList_nil ?_
    refine hK11 _ _ ?_
    refine wp_ret ?_
    obtain rfl := Option.some.inj H
    exact fin hk _ [(.string y12), (.int .i64 0)] rfl ⟨rfl, ⟨rfl, trivial⟩⟩ ⟨rfl, (hs.pick [] rfl).dnil⟩

noncomputable def spec_l01In.f (x0 : Int) (x1 : Int) (x2 : Int) : Option (Bool) :=
  (((bif (decide (x1 ≤ x0)) then (some (decide (x0 ≤ x2))) else (some false)) : Option (Bool)).bind fun u4 => (some u4))
set_option maxRecDepth 100000 in
set_option maxHeartbeats 0 in
theorem spec_l01In_t (w0 : World) (x0 : Int) (x1 : Int) (x2 : Int) (r : Bool) (H : spec_l01In.f x0 x1 x2 = some r) :
    Calls Tryz.prog 47 #[.int .i64 x0, .int .i64 x1, .int .i64 x2] w0 (Ret (fun v w => v = .bool r ∧ Sat [] w0 w [] [])) := by
  have hs : Sat [] w0 w0 [] [] := Sat.init w0 [] [] (by simp) (by simp) List.nodup_nil (by simp [blks])
  unfold spec_l01In.f at H
  refine enter Tryz.func47 rfl Tryz.ntmps47 rfl fun a hk => ?_
  apply wp_seq_k; intro K1 hK1
  apply wp_region_lit
  refine sa _ rfl hk rfl rfl rfl fun a hk => ?_
  show wpList _ _ _ [] _ _
  refine wpList_nil ?_
  refine hK1 _ _ ?_
  apply wp_seq_k; intro K2 hK2
  obtain ⟨o5, h6, HL7⟩ := bind_some H
  clear H
  obtain ⟨R8, hR8⟩ : ∃ R : Act → World → Prop, R = fun a w => ∃ (u4 : Bool), u4 = o5 ∧ Kn [(6, (.bool u4))] 15 a ∧ Sat [] w0 w [] [] := ⟨_, rfl⟩
  refine wp_cutq R8 ?_ ?_
  ·have H := h6
   apply wp_region_lit
   refine sm _ rfl hk rfl rfl rfl fun a hk => ?_
   refine sm _ rfl hk rfl rfl rfl fun a hk => ?_
   refine sv (.bool (decide (x1 ≤ x0))) hk rfl rfl rfl fun a hk => ?_
   refine sm _ rfl hk rfl rfl rfl fun a hk => ?_
   rcases cond_some H with ⟨c9, H⟩ | ⟨c9, H⟩
   ·have hk := hk.lit 10 c9 rfl
    refine sm _ rfl hk rfl rfl rfl fun a hk => ?_
    refine sm _ rfl hk rfl rfl rfl fun a hk => ?_
    refine sv (.bool (decide (x0 ≤ x2))) hk rfl rfl rfl fun a hk => ?_
    refine sv (.bool (decide (x0 ≤ x2))) hk rfl rfl rfl fun a hk => ?_
    refine sa _ rfl hk rfl rfl rfl fun a hk => ?_
    show wpList _ _ _ [] _ _
    refine wpList_nil ?_
    obtain rfl := Option.some.inj H
    show R8 _ _
    rw [hR8]
    exact ⟨(decide (x0 ≤ x2)), rfl, (hk.c 6 rfl hk.k), (hs.pick [] rfl)⟩
   ·have hk := hk.lit 10 c9 rfl
    refine sk hk rfl rfl rfl fun a hk => ?_
    refine sk hk rfl rfl rfl fun a hk => ?_
    refine sk hk rfl rfl rfl fun a hk => ?_
    refine sv (.bool false) hk rfl rfl rfl fun a hk => ?_
    refine sa _ rfl hk rfl rfl rfl fun a hk => ?_
    show wpList _ _ _ [] _ _
    refine wpList_nil ?_
    obtain rfl := Option.some.inj H
    show R8 _ _
    rw [hR8]
    exact ⟨false, rfl, (hk.c 6 rfl hk.k), (hs.pick [] rfl)⟩
  ·intro a w hR0
   rw [hR8] at hR0
   obtain ⟨u4, rfl, hk, hs⟩ := hR0
   have H := HL7
   try dsimp only at H
   refine hK2 _ _ ?_
   refine wp_ret ?_
   obtain rfl := Option.some.inj H
   exact fin hk _ [(.bool u4)] rfl ⟨rfl, trivial⟩ ⟨rfl, (hs.pick [] rfl).dnil⟩

noncomputable def spec_OpOK.f (x0 : S_Op) : Option (Bool) :=
  ((((spec_l01In.f x0.Kind 1 6).bind fun y11 => (bif (!y11) then (some true) else ((spec_l01In.f x0.Key 1 9999).bind fun y14 => (some (!y14))))) : Option (Bool)).bind fun u6 => (bif u6 then (some false) else (((bif (x0.Kind == 1) then (some true) else (some (x0.Kind == 3))) : Option (Bool)).bind fun u23 => (bif u23 then (some (x0.Value == 0)) else (bif (x0.Kind == 6) then ((spec_l01In.f x0.Value 1 4).bind fun y34 => (some y34)) else ((spec_l01In.f x0.Value 0 999999).bind fun y37 => (some y37)))))))
set_option maxRecDepth 100000 in
set_option maxHeartbeats 0 in
theorem spec_OpOK_t (w0 : World) (x0 : S_Op) (r : Bool) (H : spec_OpOK.f x0 = some r) :
    Calls Tryz.prog 66 #[.agg #[.int .i64 x0.Kind, .int .i64 x0.Key, .int .i64 x0.Value]] w0 (Ret (fun v w => v = .bool r ∧ Sat [] w0 w [] [])) := by
  have hs : Sat [] w0 w0 [] [] := Sat.init w0 [] [] (by simp) (by simp) List.nodup_nil (by simp [blks])
  unfold spec_OpOK.f at H
  refine enter Tryz.func66 rfl Tryz.ntmps66 rfl fun a hk => ?_
  apply wp_seq_k; intro K1 hK1
  apply wp_region_lit
  refine sbx 1 hs rfl hk rfl rfl rfl rfl fun b2 w a hk hs => ?_
  refine sa _ rfl hk rfl rfl rfl fun a hk => ?_
  show wpList _ _ _ [] _ _
  refine wpList_nil ?_
  refine hK1 _ _ ?_
  apply wp_seq_k; intro K3 hK3
  apply wp_seq_k; intro K4 hK4
  obtain ⟨o7, h8, HL9⟩ := bind_some H
  clear H
  obtain ⟨R10, hR10⟩ : ∃ R : Act → World → Prop, R = fun a w => ∃ (u6 : Bool), u6 = o7 ∧ Kn [(1, (.pointer (some ⟨b2, 0, none⟩))), (12, (.bool u6))] 29 a ∧ Sat [] w0 w [] [(1, [(b2, .cells #[.int .i64 x0.Kind, .int .i64 x0.Key, .int .i64 x0.Value] 33 (0, 0))])] := ⟨_, rfl⟩
  refine wp_cutq R10 ?_ ?_
  ·have H := h8
   apply wp_region_lit
   refine sf ⟨b2, 0, none⟩ rfl hk rfl rfl rfl fd33_0 rfl fun a hk => ?_
   refine sl rfl hk rfl rfl rfl ag3 (box_cell hs (k := 1) rfl rfl) fun a hk => ?_
   obtain ⟨y11, h12, H⟩ := bind_some H
   refine sc rfl en47 hk rfl rfl rfl (spec_l01In_t _ x0.Kind 1 6 _ h12) ?_
   rintro _ w ⟨rfl, hG⟩ a hk
   have hs := hs.call0 hG
   refine sv (.bool (!y11)) hk rfl rfl rfl fun a hk => ?_
   refine sm _ rfl hk rfl rfl rfl fun a hk => ?_
   rcases cond_some H with ⟨c13, H⟩ | ⟨c13, H⟩
   ·have hk := hk.lit 7 c13 rfl
    refine sk hk rfl rfl rfl fun a hk => ?_
    refine sk hk rfl rfl rfl fun a hk => ?_
    refine sk hk rfl rfl rfl fun a hk => ?_
    refine sk hk rfl rfl rfl fun a hk => ?_
    refine sv (.bool true) hk rfl rfl rfl fun a hk => ?_
    show wpList _ _ _ [] _ _
    refine wpList_nil ?_
    obtain rfl := Option.some.inj H
    show R10 _ _
    rw [hR10]
    exact ⟨true, rfl, (hk.c 1 rfl (hk.c 12 rfl hk.k)), (hs.pick [(1, 1)] rfl)⟩
   ·have hk := hk.lit 7 c13 rfl
    refine sf ⟨b2, 1, none⟩ rfl hk rfl rfl rfl fd33_1 rfl fun a hk => ?_
    refine sl rfl hk rfl rfl rfl ag3 (box_cell hs (k := 1) rfl rfl) fun a hk => ?_
    obtain ⟨y14, h15, H⟩ := bind_some H
    refine sc rfl en47 hk rfl rfl rfl (spec_l01In_t _ x0.Key 1 9999 _ h15) ?_
    rintro _ w ⟨rfl, hG⟩ a hk
    have hs := hs.call0 hG
    refine sv (.bool (!y14)) hk rfl rfl rfl fun a hk => ?_
    refine sv (.bool (!y14)) hk rfl rfl rfl fun a hk => ?_
    show wpList _ _ _ [] _ _
    refine wpList_nil ?_
    obtain rfl := Option.some.inj H
    show R10 _ _
    rw [hR10]
    exact ⟨(!y14), rfl, (hk.c 1 rfl (hk.c 12 rfl hk.k)), (hs.pick [(1, 1)] rfl)⟩
  ·intro a w hR0
   rw [hR10] at hR0
   obtain ⟨u6, rfl, hk, hs⟩ := hR0
   have H := HL9
   try dsimp only at H
   refine hK4 _ _ ?_
   rcases cond_some H with ⟨c16, H⟩ | ⟨c16, H⟩
   ·have hk := hk.lit 12 c16 rfl
    refine cnd_true hk rfl rfl ?_
    apply wp_seq_k; intro K17 hK17
    apply wp_region_lit
    refine sa _ rfl hk rfl rfl rfl fun a hk => ?_
    show wpList _ _ _ [] _ _
    refine wpList_nil ?_
    refine hK17 _ _ ?_
    refine wp_ret ?_
    obtain rfl := Option.some.inj H
    exact fin hk _ [(.bool false)] rfl ⟨rfl, trivial⟩ ⟨rfl, (hs.pick [] rfl).dnil⟩
   ·have hk := hk.lit 12 c16 rfl
    refine cnd_false hk rfl rfl ?_
    refine wp_skip ?_
    refine hK3 _ _ ?_
    apply wp_seq_k; intro K18 hK18
    apply wp_seq_k; intro K19 hK19
    apply wp_region_lit
    refine sf ⟨b2, 0, none⟩ rfl hk rfl rfl rfl fd33_0 rfl fun a hk => ?_
    refine sl rfl hk rfl rfl rfl ag3 (box_cell hs (k := 1) rfl rfl) fun a hk => ?_
    show wpList _ _ _ [] _ _
    refine wpList_nil ?_
    refine hK19 _ _ ?_
    have hs := hs.pick [(1, 1)] rfl
    refine wp_block ?_
    apply wp_seq_k; intro K20 hK20
    apply wp_seq_k; intro K21 hK21
    apply wp_region_lit
    refine sv (.bool (x0.Kind == 1)) hk rfl rfl rfl fun a hk => ?_
    refine sa _ rfl hk rfl rfl rfl fun a hk => ?_
    show wpList _ _ _ [] _ _
    refine wpList_nil ?_
    refine hK21 _ _ ?_
    obtain ⟨o24, h25, HL26⟩ := bind_some H
    clear H
    obtain ⟨R27, hR27⟩ : ∃ R : Act → World → Prop, R = fun a w => ∃ (u23 : Bool), u23 = o24 ∧ Kn [(1, (.pointer (some ⟨b2, 0, none⟩))), (14, (.int .i64 x0.Kind)), (15, (.bool u23))] 29 a ∧ Sat [] w0 w [] [(1, [(b2, .cells #[.int .i64 x0.Kind, .int .i64 x0.Key, .int .i64 x0.Value] 33 (0, 0))])] := ⟨_, rfl⟩
    refine wp_cutq R27 ?_ ?_
    ·have H := h25
     rcases cond_some H with ⟨c28, H⟩ | ⟨c28, H⟩
     ·have hk := hk.lit 15 c28 rfl
      refine cnd_true hk rfl rfl ?_
      refine wp_skip ?_
      obtain rfl := Option.some.inj H
      show R27 _ _
      rw [hR27]
      exact ⟨true, rfl, (hk.c 1 rfl (hk.c 14 rfl (hk.c 15 rfl hk.k))), (hs.pick [(1, 1)] rfl)⟩
     ·have hk := hk.lit 15 c28 rfl
      refine cnd_false hk rfl rfl ?_
      apply wp_region_lit
      refine sv (.bool (x0.Kind == 3)) hk rfl rfl rfl fun a hk => ?_
      refine sa _ rfl hk rfl rfl rfl fun a hk => ?_
      show wpList _ _ _ [] _ _
      refine wpList_nil ?_
      obtain rfl := Option.some.inj H
      show R27 _ _
      rw [hR27]
      exact ⟨(x0.Kind == 3), rfl, (hk.c 1 rfl (hk.c 14 rfl (hk.c 15 rfl hk.k))), (hs.pick [(1, 1)] rfl)⟩
    ·intro a w hR0
     rw [hR27] at hR0
     obtain ⟨u23, rfl, hk, hs⟩ := hR0
     have H := HL26
     try dsimp only at H
     refine hK20 _ _ ?_
     rcases cond_some H with ⟨c29, H⟩ | ⟨c29, H⟩
     ·have hk := hk.lit 15 c29 rfl
      refine cnd_true hk rfl rfl ?_
      apply wp_seq_k; intro K30 hK30
      apply wp_region_lit
      refine sf ⟨b2, 2, none⟩ rfl hk rfl rfl rfl fd33_2 rfl fun a hk => ?_
      refine sl rfl hk rfl rfl rfl ag3 (box_cell hs (k := 1) rfl rfl) fun a hk => ?_
      refine sv (.bool (x0.Value == 0)) hk rfl rfl rfl fun a hk => ?_
      refine sa _ rfl hk rfl rfl rfl fun a hk => ?_
      show wpList _ _ _ [] _ _
      refine wpList_nil ?_
      refine hK30 _ _ ?_
      refine wp_ret ?_
      obtain rfl := Option.some.inj H
      exact fin hk _ [(.bool (x0.Value == 0))] rfl ⟨rfl, trivial⟩ ⟨rfl, (hs.pick [] rfl).dnil⟩
     ·have hk := hk.lit 15 c29 rfl
      refine cnd_false hk rfl rfl ?_
      apply wp_seq_k; intro K31 hK31
      apply wp_region_lit
      refine sv (.bool (x0.Kind == 6)) hk rfl rfl rfl fun a hk => ?_
      refine sa _ rfl hk rfl rfl rfl fun a hk => ?_
      show wpList _ _ _ [] _ _
      refine wpList_nil ?_
      refine hK31 _ _ ?_
      rcases cond_some H with ⟨c32, H⟩ | ⟨c32, H⟩
      ·have hk := hk.lit 21 c32 rfl
       refine cnd_true hk rfl rfl ?_
       apply wp_seq_k; intro K33 hK33
       apply wp_region_lit
       refine sf ⟨b2, 2, none⟩ rfl hk rfl rfl rfl fd33_2 rfl fun a hk => ?_
       refine sl rfl hk rfl rfl rfl ag3 (box_cell hs (k := 1) rfl rfl) fun a hk => ?_
       obtain ⟨y34, h35, H⟩ := bind_some H
       refine sc rfl en47 hk rfl rfl rfl (spec_l01In_t _ x0.Value 1 4 _ h35) ?_
       rintro _ w ⟨rfl, hG⟩ a hk
       have hs := hs.call0 hG
       refine sa _ rfl hk rfl rfl rfl fun a hk => ?_
       show wpList _ _ _ [] _ _
       refine wpList_nil ?_
       refine hK33 _ _ ?_
       have hs := hs.pick [] rfl
       refine wp_ret ?_
       obtain rfl := Option.some.inj H
       exact fin hk _ [(.bool y34)] rfl ⟨rfl, trivial⟩ ⟨rfl, (hs.pick [] rfl).dnil⟩
      ·have hk := hk.lit 21 c32 rfl
       refine cnd_false hk rfl rfl ?_
       refine wp_skip ?_
       refine hK18 _ _ ?_
       have hs := hs.pick [(1, 1)] rfl
       apply wp_seq_k; intro K36 hK36
       apply wp_region_lit
       refine sf ⟨b2, 2, none⟩ rfl hk rfl rfl rfl fd33_2 rfl fun a hk => ?_
       refine sl rfl hk rfl rfl rfl ag3 (box_cell hs (k := 1) rfl rfl) fun a hk => ?_
       obtain ⟨y37, h38, H⟩ := bind_some H
       refine sc rfl en47 hk rfl rfl rfl (spec_l01In_t _ x0.Value 0 999999 _ h38) ?_
       rintro _ w ⟨rfl, hG⟩ a hk
       have hs := hs.call0 hG
       refine sa _ rfl hk rfl rfl rfl fun a hk => ?_
       show wpList _ _ _ [] _ _
       refine wpList_nil ?_
       refine hK36 _ _ ?_
       refine wp_ret ?_
       obtain rfl := Option.some.inj H
       exact fin hk _ [(.bool y37)] rfl ⟨rfl, trivial⟩ ⟨rfl, (hs.pick [] rfl).dnil⟩

noncomputable def spec_l09Txn.s0 (x0 : S_Txn) (u7 : Int) : Option ((Int) ⊕ Ex (Unit) (Bool)) :=
  (bif (decide (u7 < (x0.Ops.length : Int))) then (if 0 ≤ u7 ∧ u7 < (x0.Ops.length : Int) then ((spec_OpOK.f (x0.Ops.getD u7.toNat z_Op)).bind fun y25 => (bif (!y25) then (some (.inr (.ret false))) else (some (.inl (w64 (u7 + 1)))))) else none) else (some (.inr (.out ()))))
noncomputable def spec_l09Txn.f (x0 : S_Txn) : Option (Bool) :=
  ((loopO (fun s => spec_l09Txn.s0 x0 s) 0).bind fun o => match o with | .out _ => ((spec_l01In.f (x0.Ops.length : Int) 1 4).bind fun y31 => (some y31)) | .ret r => (some r))
set_option maxRecDepth 100000 in
set_option maxHeartbeats 0 in
theorem spec_l09Txn_t (w0 : World) (x0 : S_Txn) (A0_0 : Option Addr) (p0_0 : Nat) (k0_0 : Chunk) (v0_0 : View L_Op A0_0 p0_0 x0.Ops k0_0) (w0_0 : Has w0 k0_0) (r : Bool) (H : spec_l09Txn.f x0 = some r) :
    Calls Tryz.prog 48 #[.agg #[.slice A0_0 x0.Ops.length p0_0]] w0 (Ret (fun v w => v = .bool r ∧ Sat [] w0 w [] [])) := by
  have hs : Sat [] w0 w0 [(1, k0_0)] [] := Sat.init w0 [(1, k0_0)] [] (by simp only [List.mem_cons, List.not_mem_nil, or_false]; rintro x (rfl) <;> assumption) (by simp) List.nodup_nil (by simp [blks])
  unfold spec_l09Txn.f at H
  refine enter Tryz.func48 rfl Tryz.ntmps48 rfl fun a hk => ?_
  apply wp_seq_k; intro K1 hK1
  apply wp_region_lit
  refine sbx 2 hs rfl hk rfl rfl rfl rfl fun b2 w a hk hs => ?_
  refine sa _ rfl hk rfl rfl rfl fun a hk => ?_
  show wpList _ _ _ [] _ _
  refine wpList_nil ?_
  refine hK1 _ _ ?_
  apply wp_seq_k; intro K3 hK3
  apply wp_seq_k; intro K4 hK4
  apply wp_region_lit
  refine sa _ rfl hk rfl rfl rfl fun a hk => ?_
  show wpList _ _ _ [] _ _
  refine wpList_nil ?_
  refine hK4 _ _ ?_
  obtain ⟨o8, h9, HL10⟩ := bind_some H
  clear H
  obtain ⟨R11, hR11⟩ : ∃ R : Act → World → Prop, R = fun a w => o8 = .out () ∧ Kn [(1, (.pointer (some ⟨b2, 0, none⟩)))] 22 a ∧ Sat [] w0 w [(1, k0_0)] [(2, [(b2, .cells #[.slice A0_0 x0.Ops.length p0_0] 36 (0, 0))])] := ⟨_, rfl⟩
  refine wp_cutq R11 ?_ ?_
  ·refine wp_block ?_
   obtain ⟨fu13, h9⟩ := loopO_some h9
   obtain ⟨I12, hI12⟩ : ∃ I : Nat → Act → World → Prop, I = fun fu a w => ∃ (u7 : Int), loopN (fun s => spec_l09Txn.s0 x0 s) fu u7 = some o8 ∧ Kn [(1, (.pointer (some ⟨b2, 0, none⟩))), (3, (.int .i64 u7))] 22 a ∧ Sat [] w0 w [(1, k0_0)] [(2, [(b2, .cells #[.slice A0_0 x0.Ops.length p0_0] 36 (0, 0))])] := ⟨_, rfl⟩
   refine wp_loop_ghost I12 fu13 ?_ ?_
   ·rw [hI12]
    exact ⟨0, h9, (hk.c 1 rfl (hk.c 3 rfl hk.k)), (hs.pick [(2, 2)] rfl)⟩
   ·clear h9 hk hs
    intro fu13 a w hI0
    rw [hI12] at hI0
    obtain ⟨u7, hi, hk, hs⟩ := hI0
    obtain ⟨x14, H, h15⟩ := loop_round hi
    try dsimp only at H
    unfold spec_l09Txn.s0 at H
    apply wp_seq_k; intro K16 hK16
    apply wp_seq_k; intro K17 hK17
    apply wp_region_lit
    refine sm _ rfl hk rfl rfl rfl fun a hk => ?_
    refine sf ⟨b2, 0, none⟩ rfl hk rfl rfl rfl fd36_0 rfl fun a hk => ?_
    refine sl rfl hk rfl rfl rfl ag34 (box_cell hs (k := 2) rfl rfl) fun a hk => ?_
    refine sle rfl hk rfl rfl rfl un34 fun a hk => ?_
    refine sv (.bool (decide (u7 < (x0.Ops.length : Int)))) hk rfl rfl rfl fun a hk => ?_
    show wpList _ _ _ [] _ _
    refine wpList_nil ?_
    refine hK17 _ _ ?_
    rcases cond_some H with ⟨c18, H⟩ | ⟨c18, H⟩
    ·have hk := hk.lit 8 c18 rfl
     refine cnd_true hk rfl rfl ?_
     refine wp_skip ?_
     refine hK16 _ _ ?_
     have hs := hs.pick [(2, 2)] rfl
     apply wp_seq_k; intro K19 hK19
     refine wp_block ?_
     apply wp_seq_k; intro K20 hK20
     apply wp_region_lit
     refine sf ⟨b2, 0, none⟩ rfl hk rfl rfl rfl fd36_0 rfl fun a hk => ?_
     refine sl rfl hk rfl rfl rfl ag34 (box_cell hs (k := 2) rfl rfl) fun a hk => ?_
     refine sm _ rfl hk rfl rfl rfl fun a hk => ?_
     rcases ite_some H with ⟨c21, H⟩ | ⟨_, H⟩
     rotate_left
     ·cases H
     obtain ⟨b22, q23, hAc21⟩ := (v0_0).some_ u7 c21.1 c21.2
     refine si rfl hk rfl rfl rfl rfl un34 sz33 c21.1 c21.2 hAc21 fun a hk => ?_
     obtain ⟨_, rfl, e24⟩ := (v0_0).at_ z_Op u7 c21.1 c21.2
     refine sln [.int .i64 ((x0.Ops.getD u7.toNat z_Op).Kind), .int .i64 ((x0.Ops.getD u7.toNat z_Op).Key), .int .i64 ((x0.Ops.getD u7.toNat z_Op).Value)] rfl hk rfl rfl rfl ag33 sz33 (cells_at e24 (hs.hasD (k := 1) rfl)) fun a hk => ?_
     obtain ⟨y25, h26, H⟩ := bind_some H
     refine sc rfl en66 hk rfl rfl rfl (spec_OpOK_t _ (x0.Ops.getD u7.toNat z_Op) _ h26) ?_
     rintro _ w ⟨rfl, hG⟩ a hk
     have hs := hs.call0 hG
     refine sv (.bool (!y25)) hk rfl rfl rfl fun a hk => ?_
     show wpList _ _ _ [] _ _
     refine wpList_nil ?_
     refine hK20 _ _ ?_
     rcases cond_some H with ⟨c27, H⟩ | ⟨c27, H⟩
     ·have hk := hk.lit 17 c27 rfl
      refine cnd_true hk rfl rfl ?_
      apply wp_seq_k; intro K28 hK28
      apply wp_region_lit
      refine sa _ rfl hk rfl rfl rfl fun a hk => ?_
      show wpList _ _ _ [] _ _
      refine wpList_nil ?_
      refine hK28 _ _ ?_
      refine wp_ret ?_
      obtain rfl := Option.some.inj H
      have ho8 := h15
      try dsimp only at ho8
      subst ho8
      have H := HL10
      try dsimp only at H
      obtain rfl := Option.some.inj H
      exact fin hk _ [(.bool false)] rfl ⟨rfl, trivial⟩ ⟨rfl, (hs.pick [] rfl).dnil⟩
     ·have hk := hk.lit 17 c27 rfl
      refine cnd_false hk rfl rfl ?_
      refine wp_skip ?_
      refine hK19 _ _ ?_
      apply wp_region_lit
      refine sm _ rfl hk rfl rfl rfl fun a hk => ?_
      refine sv (.int .i64 (w64 (u7 + 1))) hk rfl rfl rfl fun a hk => ?_
      refine sa _ rfl hk rfl rfl rfl fun a hk => ?_
      show wpList _ _ _ [] _ _
      refine wpList_nil ?_
      obtain rfl := Option.some.inj H
      obtain ⟨m29, hmm29, h15⟩ := h15
      show ∃ n', n' < _ ∧ I12 n' _ _
      refine ⟨m29, hmm29, ?_⟩
      rw [hI12]
      exact ⟨(w64 (u7 + 1)), h15, (hk.c 1 rfl (hk.c 3 rfl hk.k)), (hs.pick [(2, 2)] rfl)⟩
    ·have hk := hk.lit 8 c18 rfl
     refine cnd_false hk rfl rfl ?_
     refine wp_exit ?_
     obtain rfl := Option.some.inj H
     show R11 _ _
     rw [hR11]
     exact ⟨h15.symm, (hk.c 1 rfl hk.k), (hs.pick [(2, 2)] rfl)⟩
  ·intro a w hR0
   rw [hR11] at hR0
   obtain ⟨rfl, hk, hs⟩ := hR0
   have H := HL10
   try dsimp only at H
   refine hK3 _ _ ?_
   apply wp_seq_k; intro K30 hK30
   apply wp_region_lit
   refine sf ⟨b2, 0, none⟩ rfl hk rfl rfl rfl fd36_0 rfl fun a hk => ?_
   refine sl rfl hk rfl rfl rfl ag34 (box_cell hs (k := 2) rfl rfl) fun a hk => ?_
   refine sle rfl hk rfl rfl rfl un34 fun a hk => ?_
   obtain ⟨y31, h32, H⟩ := bind_some H
   refine sc rfl en47 hk rfl rfl rfl (spec_l01In_t _ (x0.Ops.length : Int) 1 4 _ h32) ?_
   rintro _ w ⟨rfl, hG⟩ a hk
   have hs := hs.call0 hG
   refine sa _ rfl hk rfl rfl rfl fun a hk => ?_
   show wpList _ _ _ [] _ _
   refine wpList_nil ?_
   refine hK30 _ _ ?_
   have hs := hs.pick [] rfl
   refine wp_ret ?_
   obtain rfl := Option.some.inj H
   exact fin hk _ [(.bool y31)] rfl ⟨rfl, trivial⟩ ⟨rfl, (hs.pick [] rfl).dnil⟩

noncomputable def spec_BatchOK.s0 (l0 : List S_Txn) (u16 : Int) : Option ((Int) ⊕ Ex (Unit) (Bool)) :=
  (bif (decide (u16 < (l0.length : Int))) then (if 0 ≤ u16 ∧ u16 < (l0.length : Int) then ((spec_l09Txn.f (l0.getD u16.toNat z_Txn)).bind fun y37 => (bif (!y37) then (some (.inr (.ret false))) else (some (.inl (w64 (u16 + 1)))))) else none) else (some (.inr (.out ()))))
noncomputable def spec_BatchOK.f (l0 : List S_Txn) : Option (Bool) :=
  (bif (decide ((l0.length : Int) > 4096)) then (some false) else ((spec_l01In.f (l0.length : Int) 1 2).bind fun y8 => (bif (!y8) then (some false) else ((loopO (fun s => spec_BatchOK.s0 l0 s) 0).bind fun o => match o with | .out _ => (some true) | .ret r => (some r)))))
set_option maxRecDepth 100000 in
set_option maxHeartbeats 0 in
theorem spec_BatchOK_t (w0 : World) (A0_ : Option Addr) (p0_ : Nat) (l0 : List S_Txn) (k0_ : Chunk) (v0_ : View L_impl_Txn A0_ p0_ l0 k0_) (w0_ : Has w0 k0_) (r : Bool) (H : spec_BatchOK.f l0 = some r) :
    Calls Tryz.prog 27 #[.slice A0_ l0.length p0_] w0 (Ret (fun v w => v = .bool r ∧ Sat [] w0 w [] [])) := by
  have hs : Sat [] w0 w0 [(1, k0_)] [] := Sat.init w0 [(1, k0_)] [] (by simp only [List.mem_cons, List.not_mem_nil, or_false]; rintro x (rfl) <;> assumption) (by simp) List.nodup_nil (by simp [blks])
  unfold spec_BatchOK.f at H
  refine enter Tryz.func27 rfl Tryz.ntmps27 rfl fun a hk => ?_
  apply wp_seq_k; intro K1 hK1
  apply wp_region_lit
  refine sa _ rfl hk rfl rfl rfl fun a hk => ?_
  show wpList _ _ _ [] _ _
  refine wpList_nil ?_
  refine hK1 _ _ ?_
  apply wp_seq_k; intro K2 hK2
  apply wp_seq_k; intro K3 hK3
  apply wp_region_lit
  refine sm _ rfl hk rfl rfl rfl fun a hk => ?_
  refine sle rfl hk rfl rfl rfl un22 fun a hk => ?_
  refine sv (.bool (decide ((l0.length : Int) > 4096))) hk rfl rfl rfl fun a hk => ?_
  show wpList _ _ _ [] _ _
  refine wpList_nil ?_
  refine hK3 _ _ ?_
  rcases cond_some H with ⟨c4, H⟩ | ⟨c4, H⟩
  ·have hk := hk.lit 6 c4 rfl
   refine cnd_true hk rfl rfl ?_
   apply wp_seq_k; intro K5 hK5
   apply wp_region_lit
   refine sa _ rfl hk rfl rfl rfl fun a hk => ?_
   show wpList _ _ _ [] _ _
   refine wpList_nil ?_
   refine hK5 _ _ ?_
   refine wp_ret ?_
   obtain rfl := Option.some.inj H
   exact fin hk _ [(.bool false)] rfl ⟨rfl, trivial⟩ ⟨rfl, (hs.pick [] rfl).dnil⟩
  ·have hk := hk.lit 6 c4 rfl
   refine cnd_false hk rfl rfl ?_
   refine wp_skip ?_
   refine hK2 _ _ ?_
   apply wp_seq_k; intro K6 hK6
   apply wp_seq_k; intro K7 hK7
   apply wp_region_lit
   refine sm _ rfl hk rfl rfl rfl fun a hk => ?_
   refine sle rfl hk rfl rfl rfl un22 fun a hk => ?_
   obtain ⟨y8, h9, H⟩ := bind_some H
   refine sc rfl en47 hk rfl rfl rfl (spec_l01In_t _ (l0.length : Int) 1 2 _ h9) ?_
   rintro _ w ⟨rfl, hG⟩ a hk
   have hs := hs.call0 hG
   refine sv (.bool (!y8)) hk rfl rfl rfl fun a hk => ?_
   show wpList _ _ _ [] _ _
   refine wpList_nil ?_
   refine hK7 _ _ ?_
   have hs := hs.pick [] rfl
   rcases cond_some H with ⟨c10, H⟩ | ⟨c10, H⟩
   ·have hk := hk.lit 10 c10 rfl
    refine cnd_true hk rfl rfl ?_
    apply wp_seq_k; intro K11 hK11
    apply wp_region_lit
    refine sa _ rfl hk rfl rfl rfl fun a hk => ?_
    show wpList _ _ _ [] _ _
    refine wpList_nil ?_
    refine hK11 _ _ ?_
    refine wp_ret ?_
    obtain rfl := Option.some.inj H
    exact fin hk _ [(.bool false)] rfl ⟨rfl, trivial⟩ ⟨rfl, (hs.pick [] rfl).dnil⟩
   ·have hk := hk.lit 10 c10 rfl
    refine cnd_false hk rfl rfl ?_
    refine wp_skip ?_
    refine hK6 _ _ ?_
    apply wp_seq_k; intro K12 hK12
    apply wp_seq_k; intro K13 hK13
    apply wp_region_lit
    refine sa _ rfl hk rfl rfl rfl fun a hk => ?_
    show wpList _ _ _ [] _ _
    refine wpList_nil ?_
    refine hK13 _ _ ?_
    obtain ⟨o17, h18, HL19⟩ := bind_some H
    clear H
    obtain ⟨R20, hR20⟩ : ∃ R : Act → World → Prop, R = fun a w => o17 = .out () ∧ Kn [] 23 a ∧ Sat [] w0 w [(1, k0_)] [] := ⟨_, rfl⟩
    refine wp_cutq R20 ?_ ?_
    ·refine wp_block ?_
     obtain ⟨fu22, h18⟩ := loopO_some h18
     obtain ⟨I21, hI21⟩ : ∃ I : Nat → Act → World → Prop, I = fun fu a w => ∃ (u16 : Int), loopN (fun s => spec_BatchOK.s0 l0 s) fu u16 = some o17 ∧ Kn [(0, (.slice A0_ l0.length p0_)), (3, (.int .i64 u16))] 23 a ∧ Sat [] w0 w [(1, k0_)] [] := ⟨_, rfl⟩
     refine wp_loop_ghost I21 fu22 ?_ ?_
     ·rw [hI21]
      exact ⟨0, h18, (hk.c 0 rfl (hk.c 3 rfl hk.k)), (hs.pick [] rfl)⟩
     ·clear h18 hk hs
      intro fu22 a w hI0
      rw [hI21] at hI0
      obtain ⟨u16, hi, hk, hs⟩ := hI0
      obtain ⟨x23, H, h24⟩ := loop_round hi
      try dsimp only at H
      unfold spec_BatchOK.s0 at H
      apply wp_seq_k; intro K25 hK25
      apply wp_seq_k; intro K26 hK26
      apply wp_region_lit
      refine sm _ rfl hk rfl rfl rfl fun a hk => ?_
      refine sm _ rfl hk rfl rfl rfl fun a hk => ?_
      refine sle rfl hk rfl rfl rfl un22 fun a hk => ?_
      refine sv (.bool (decide (u16 < (l0.length : Int)))) hk rfl rfl rfl fun a hk => ?_
      show wpList _ _ _ [] _ _
      refine wpList_nil ?_
      refine hK26 _ _ ?_
      rcases cond_some H with ⟨c27, H⟩ | ⟨c27, H⟩
      ·have hk := hk.lit 14 c27 rfl
       refine cnd_true hk rfl rfl ?_
       refine wp_skip ?_
       refine hK25 _ _ ?_
       have hs := hs.pick [] rfl
       apply wp_seq_k; intro K28 hK28
       refine wp_block ?_
       apply wp_seq_k; intro K29 hK29
       apply wp_region_lit
       refine sm _ rfl hk rfl rfl rfl fun a hk => ?_
       refine sm _ rfl hk rfl rfl rfl fun a hk => ?_
       rcases ite_some H with ⟨c30, H⟩ | ⟨_, H⟩
       rotate_left
       ·cases H
       obtain ⟨b31, q32, hAc30⟩ := (v0_).some_ u16 c30.1 c30.2
       refine si rfl hk rfl rfl rfl rfl un22 sz36 c30.1 c30.2 hAc30 fun a hk => ?_
       obtain ⟨_, ⟨_, rfl, A34, p35, rfl, v36⟩, e33⟩ := (v0_).at_ z_Txn u16 c30.1 c30.2
       refine sln [.slice A34 ((l0.getD u16.toNat z_Txn).Ops).length p35] rfl hk rfl rfl rfl ag36 sz36 (cells_at e33 (hs.hasD (k := 1) rfl)) fun a hk => ?_
       obtain ⟨y37, h38, H⟩ := bind_some H
       refine sc rfl en48 hk rfl rfl rfl (spec_l09Txn_t _ (l0.getD u16.toNat z_Txn) A34 p35 _ v36 (hs.hasD (k := 1) rfl) _ h38) ?_
       rintro _ w ⟨rfl, hG⟩ a hk
       have hs := hs.call0 hG
       refine sv (.bool (!y37)) hk rfl rfl rfl fun a hk => ?_
       show wpList _ _ _ [] _ _
       refine wpList_nil ?_
       refine hK29 _ _ ?_
       rcases cond_some H with ⟨c39, H⟩ | ⟨c39, H⟩
       ·have hk := hk.lit 22 c39 rfl
        refine cnd_true hk rfl rfl ?_
        apply wp_seq_k; intro K40 hK40
        apply wp_region_lit
        refine sa _ rfl hk rfl rfl rfl fun a hk => ?_
        show wpList _ _ _ [] _ _
        refine wpList_nil ?_
        refine hK40 _ _ ?_
        refine wp_ret ?_
        obtain rfl := Option.some.inj H
        have ho17 := h24
        try dsimp only at ho17
        subst ho17
        have H := HL19
        try dsimp only at H
        obtain rfl := Option.some.inj H
        exact fin hk _ [(.bool false)] rfl ⟨rfl, trivial⟩ ⟨rfl, (hs.pick [] rfl).dnil⟩
       ·have hk := hk.lit 22 c39 rfl
        refine cnd_false hk rfl rfl ?_
        refine wp_skip ?_
        refine hK28 _ _ ?_
        apply wp_region_lit
        refine sm _ rfl hk rfl rfl rfl fun a hk => ?_
        refine sv (.int .i64 (w64 (u16 + 1))) hk rfl rfl rfl fun a hk => ?_
        refine sa _ rfl hk rfl rfl rfl fun a hk => ?_
        show wpList _ _ _ [] _ _
        refine wpList_nil ?_
        obtain rfl := Option.some.inj H
        obtain ⟨m41, hmm41, h24⟩ := h24
        show ∃ n', n' < _ ∧ I21 n' _ _
        refine ⟨m41, hmm41, ?_⟩
        rw [hI21]
        exact ⟨(w64 (u16 + 1)), h24, (hk.c 0 rfl (hk.c 3 rfl hk.k)), (hs.pick [] rfl)⟩
      ·have hk := hk.lit 14 c27 rfl
       refine cnd_false hk rfl rfl ?_
       refine wp_exit ?_
       obtain rfl := Option.some.inj H
       show R20 _ _
       rw [hR20]
       exact ⟨h24.symm, hk.k, (hs.pick [] rfl)⟩
    ·intro a w hR0
     rw [hR20] at hR0
     obtain ⟨rfl, hk, hs⟩ := hR0
     have H := HL19
     try dsimp only at H
     refine hK12 _ _ ?_
     apply wp_seq_k; intro K42 hK42
     apply wp_region_lit
     refine sa _ rfl hk rfl rfl rfl fun a hk => ?_
     show wpList _ _ _ [] _ _
     refine wpList_nil ?_
     refine hK42 _ _ ?_
     have hs := hs.pick [] rfl
     refine wp_ret ?_
     obtain rfl := Option.some.inj H
     exact fin hk _ [(.bool true)] rfl ⟨rfl, trivial⟩ ⟨rfl, (hs.pick [] rfl).dnil⟩

noncomputable def spec_l09Words.f  : Option ((List ByteArray)) :=
  (some ([(⟨#[]⟩ : ByteArray), (⟨#[103, 101, 116]⟩ : ByteArray), (⟨#[112, 117, 116]⟩ : ByteArray), (⟨#[100, 114, 111, 112]⟩ : ByteArray), (⟨#[99, 104, 101, 99, 107]⟩ : ByteArray), (⟨#[97, 100, 100]⟩ : ByteArray), (⟨#[115, 99, 97, 110]⟩ : ByteArray)]))
set_option maxRecDepth 100000 in
set_option maxHeartbeats 0 in
theorem spec_l09Words_t (w0 : World)  (r : (List ByteArray)) (H : spec_l09Words.f  = some r) :
    Calls Tryz.prog 63 #[] w0 (Ret (fun v w => ∃ (A0 : Option Addr) (p0 : Nat) (k0 : Chunk), v = .slice A0 r.length p0 ∧ Own Lay.str 9 A0 p0 r k0 ∧ Sat [] w0 w [] [(0, k0)])) := by
  have hs : Sat [] w0 w0 [] [] := Sat.init w0 [] [] (by simp) (by simp) List.nodup_nil (by simp [blks])
  unfold spec_l09Words.f at H
  refine enter Tryz.func63 rfl Tryz.ntmps63 rfl fun a hk => ?_
  apply wp_seq_k; intro K1 hK1
  apply wp_region_lit
  refine sa _ rfl hk rfl rfl rfl fun a hk => ?_
  show wpList _ _ _ [] _ _
  refine wpList_nil ?_
  refine hK1 _ _ ?_
  apply wp_seq_k; intro K2 hK2
  apply wp_region_lit
  refine sbs (L := Lay.str) (pv := [(0, (.string (⟨#[]⟩ : ByteArray))), (1, (.string (⟨#[103, 101, 116]⟩ : ByteArray))), (2, (.string (⟨#[112, 117, 116]⟩ : ByteArray))), (3, (.string (⟨#[100, 114, 111, 112]⟩ : ByteArray))), (4, (.string (⟨#[99, 104, 101, 99, 107]⟩ : ByteArray))), (5, (.string (⟨#[97, 100, 100]⟩ : ByteArray))), (6, (.string (⟨#[115, 99, 97, 110]⟩ : ByteArray)))]) (xs := [(⟨#[]⟩ : ByteArray), (⟨#[103, 101, 116]⟩ : ByteArray), (⟨#[112, 117, 116]⟩ : ByteArray), (⟨#[100, 114, 111, 112]⟩ : ByteArray), (⟨#[99, 104, 101, 99, 107]⟩ : ByteArray), (⟨#[97, 100, 100]⟩ : ByteArray), (⟨#[115, 99, 97, 110]⟩ : ByteArray)]) (ess := [[.string (⟨#[]⟩ : ByteArray)], [.string (⟨#[103, 101, 116]⟩ : ByteArray)], [.string (⟨#[112, 117, 116]⟩ : ByteArray)], [.string (⟨#[100, 114, 111, 112]⟩ : ByteArray)], [.string (⟨#[99, 104, 101, 99, 107]⟩ : ByteArray)], [.string (⟨#[97, 100, 100]⟩ : ByteArray)], [.string (⟨#[115, 99, 97, 110]⟩ : ByteArray)]]) 1 hs rfl hk rfl rfl rfl un59 (bs9_0 (⟨#[]⟩ : ByteArray) (⟨#[103, 101, 116]⟩ : ByteArray) (⟨#[112, 117, 116]⟩ : ByteArray) (⟨#[100, 114, 111, 112]⟩ : ByteArray) (⟨#[99, 104, 101, 99, 107]⟩ : ByteArray) (⟨#[97, 100, 100]⟩ : ByteArray) (⟨#[115, 99, 97, 110]⟩ : ByteArray)) (AllOwn.cons0 ⟨rfl, rfl⟩ (AllOwn.cons0 ⟨rfl, rfl⟩ (AllOwn.cons0 ⟨rfl, rfl⟩ (AllOwn.cons0 ⟨rfl, rfl⟩ (AllOwn.cons0 ⟨rfl, rfl⟩ (AllOwn.cons0 ⟨rfl, rfl⟩ (AllOwn.cons0 ⟨rfl, rfl⟩ AllOwn.nil))))))) rfl rfl rfl fun b3 k4 w a hk o5 hs => ?_
  refine sa _ rfl hk rfl rfl rfl fun a hk => ?_
  show wpList _ _ _ [] _ _
  refine wpList_nil ?_
  refine hK2 _ _ ?_
  refine wp_ret ?_
  obtain rfl := Option.some.inj H
  exact fin hk _ [(.slice (some ⟨b3, 0, none⟩) 7 7)] rfl ⟨rfl, trivial⟩ ⟨(some ⟨b3, 0, none⟩), 7, _, rfl, o5, (hs.pick [(0, 1)] rfl).dnil⟩

noncomputable def spec_l00Digits.g : Nat → Int → Option (ByteArray)
  | 0, _ => none
  | n + 1, x0 => (bif (x0 == (-9223372036854775808)) then (some (⟨#[45, 57, 50, 50, 51, 51, 55, 50, 48, 51, 54, 56, 53, 52, 55, 55, 53, 56, 48, 56]⟩ : ByteArray)) else (bif (decide (x0 < 0)) then ((spec_l00Digits.g n (w64 (0 - x0))).bind fun y10 => (if (⟨#[45]⟩ : ByteArray).size + y10.size ≤ 1152921504606846976 then (some ((⟨#[45]⟩ : ByteArray) ++ y10)) else none)) else (bif (decide (x0 < 10)) then (some (strOfNums ([(IntKind.wrap .u8 (w64 (48 + x0)))]))) else ((spec_l00Digits.g n (IntKind.wrap .i64 (Int.tdiv x0 10))).bind fun y22 => (if y22.size + (strOfNums ([(IntKind.wrap .u8 (w64 (48 + (Int.tmod x0 10))))])).size ≤ 1152921504606846976 then (some (y22 ++ (strOfNums ([(IntKind.wrap .u8 (w64 (48 + (Int.tmod x0 10))))])))) else none)))))
noncomputable def spec_l00Digits.f (x0 : Int) : Option (ByteArray) := recO (fun n => spec_l00Digits.g n x0)
set_option maxRecDepth 100000 in
set_option maxHeartbeats 0 in
theorem spec_l00Digits_n : ∀ (n : Nat) (w0 : World) (x0 : Int) (r : ByteArray) (H : spec_l00Digits.g n x0 = some r), Calls Tryz.prog 75 #[.int .i64 x0] w0 (Ret (fun v w => v = .string r ∧ Sat [] w0 w [] [])) := by
  intro n
  induction n with
  | zero => intro w0 x0 r H; rw [spec_l00Digits.g] at H; cases H
  | succ n ih =>
  intro w0 x0 r H
  have hs : Sat [] w0 w0 [] [] := Sat.init w0 [] [] (by simp) (by simp) List.nodup_nil (by simp [blks])
  rw [spec_l00Digits.g] at H
  refine enter Tryz.func75 rfl Tryz.ntmps75 rfl fun a hk => ?_
  apply wp_seq_k; intro K1 hK1
  apply wp_region_lit
  refine sa _ rfl hk rfl rfl rfl fun a hk => ?_
  show wpList _ _ _ [] _ _
  refine wpList_nil ?_
  refine hK1 _ _ ?_
  apply wp_seq_k; intro K2 hK2
  apply wp_seq_k; intro K3 hK3
  apply wp_region_lit
  refine sm _ rfl hk rfl rfl rfl fun a hk => ?_
  refine sv (.bool (x0 == (-9223372036854775808))) hk rfl rfl rfl fun a hk => ?_
  show wpList _ _ _ [] _ _
  refine wpList_nil ?_
  refine hK3 _ _ ?_
  rcases cond_some H with ⟨c4, H⟩ | ⟨c4, H⟩
  ·have hk := hk.lit 4 c4 rfl
   refine cnd_true hk rfl rfl ?_
   apply wp_seq_k; intro K5 hK5
   apply wp_region_lit
   refine sa _ rfl hk rfl rfl rfl fun a hk => ?_
   show wpList _ _ _ [] _ _
   refine wpList_nil ?_
   refine hK5 _ _ ?_
   refine wp_ret ?_
   obtain rfl := Option.some.inj H
   exact fin hk _ [(.string (⟨#[45, 57, 50, 50, 51, 51, 55, 50, 48, 51, 54, 56, 53, 52, 55, 55, 53, 56, 48, 56]⟩ : ByteArray))] rfl ⟨rfl, trivial⟩ ⟨rfl, (hs.pick [] rfl).dnil⟩
  ·have hk := hk.lit 4 c4 rfl
   refine cnd_false hk rfl rfl ?_
   refine wp_skip ?_
   refine hK2 _ _ ?_
   apply wp_seq_k; intro K6 hK6
   apply wp_seq_k; intro K7 hK7
   apply wp_region_lit
   refine sm _ rfl hk rfl rfl rfl fun a hk => ?_
   refine sv (.bool (decide (x0 < 0))) hk rfl rfl rfl fun a hk => ?_
   show wpList _ _ _ [] _ _
   refine wpList_nil ?_
   refine hK7 _ _ ?_
   have hs := hs.pick [] rfl
   rcases cond_some H with ⟨c8, H⟩ | ⟨c8, H⟩
   ·have hk := hk.lit 6 c8 rfl
    refine cnd_true hk rfl rfl ?_
    apply wp_seq_k; intro K9 hK9
    apply wp_region_lit
    refine sm _ rfl hk rfl rfl rfl fun a hk => ?_
    refine sv (.int .i64 (w64 (0 - x0))) hk rfl rfl rfl fun a hk => ?_
    obtain ⟨y10, h11, H⟩ := bind_some H
    refine sc rfl en75 hk rfl rfl rfl (ih _ (w64 (0 - x0)) _ h11) ?_
    rintro _ w ⟨rfl, hG⟩ a hk
    have hs := hs.call0 hG
    rcases ite_some H with ⟨c12, H⟩ | ⟨_, H⟩
    rotate_left
    ·cases H
    refine ssa rfl hk rfl rfl rfl rfl c12 fun a hk => ?_
    refine sa _ rfl hk rfl rfl rfl fun a hk => ?_
    show wpList _ _ _ [] _ _
    refine wpList_nil ?_
    refine hK9 _ _ ?_
    refine wp_ret ?_
    obtain rfl := Option.some.inj H
    exact fin hk _ [(.string ((⟨#[45]⟩ : ByteArray) ++ y10))] rfl ⟨rfl, trivial⟩ ⟨rfl, (hs.pick [] rfl).dnil⟩
   ·have hk := hk.lit 6 c8 rfl
    refine cnd_false hk rfl rfl ?_
    refine wp_skip ?_
    refine hK6 _ _ ?_
    apply wp_seq_k; intro K13 hK13
    apply wp_seq_k; intro K14 hK14
    apply wp_region_lit
    refine sm _ rfl hk rfl rfl rfl fun a hk => ?_
    refine sv (.bool (decide (x0 < 10))) hk rfl rfl rfl fun a hk => ?_
    show wpList _ _ _ [] _ _
    refine wpList_nil ?_
    refine hK14 _ _ ?_
    rcases cond_some H with ⟨c15, H⟩ | ⟨c15, H⟩
    ·have hk := hk.lit 12 c15 rfl
     refine cnd_true hk rfl rfl ?_
     apply wp_seq_k; intro K16 hK16
     apply wp_region_lit
     refine sm _ rfl hk rfl rfl rfl fun a hk => ?_
     refine sv (.int .i64 (w64 (48 + x0))) hk rfl rfl rfl fun a hk => ?_
     refine scn rfl hk rfl rfl rfl un5 un3 fun a hk => ?_
     refine sbs (L := (Lay.int .u8)) (pv := [(0, (.int .u8 (IntKind.wrap .u8 (w64 (48 + x0)))))]) (xs := [(IntKind.wrap .u8 (w64 (48 + x0)))]) (ess := [[.int .u8 (IntKind.wrap .u8 (w64 (48 + x0)))]]) 1 hs rfl hk rfl rfl rfl un28 (bs5_12 (IntKind.wrap .u8 (w64 (48 + x0)))) (AllOwn.cons0 ⟨rfl, rfl⟩ AllOwn.nil) rfl rfl rfl fun b17 k18 w a hk o19 hs => ?_
     refine sbt (xs := ([(IntKind.wrap .u8 (w64 (48 + x0)))])) rfl hk rfl rfl rfl rfl un28 un5 un9 o19.view (hs.hasG (k := 1) rfl) fun a hk => ?_
     refine sa _ rfl hk rfl rfl rfl fun a hk => ?_
     show wpList _ _ _ [] _ _
     refine wpList_nil ?_
     refine hK16 _ _ ?_
     refine wp_ret ?_
     obtain rfl := Option.some.inj H
     exact fin hk _ [(.string (strOfNums ([(IntKind.wrap .u8 (w64 (48 + x0)))])))] rfl ⟨rfl, trivial⟩ ⟨rfl, (hs.pick [] rfl).dnil⟩
    ·have hk := hk.lit 12 c15 rfl
     refine cnd_false hk rfl rfl ?_
     refine wp_skip ?_
     refine hK13 _ _ ?_
     apply wp_seq_k; intro K20 hK20
     refine wp_region_tree (.q 0 (.q 1 (.q 2 (.alt 3 (.alt 4 (.alt 5 (.alt 6 (.alt 7 (.alt 8 (.alt 9 (.last 10) .stop) .stop) .stop) .stop) .stop) .stop) .stop)))) mo (by kernel_rfl) (hs.pick [] rfl) fun _ => ?_
     have hs := hs.drew
     refine tqst (.int .i64 x0) hk rfl rfl rfl rfl (fun w hs => sm _ rfl hk rfl rfl rfl fun a hk => qe hk) fun a hk => ?_
     refine tqst (.int .i64 (IntKind.wrap .i64 (Int.tdiv x0 10))) hk rfl rfl rfl rfl (fun w hs => sv (.int .i64 (IntKind.wrap .i64 (Int.tdiv x0 10))) hk rfl rfl rfl fun a hk => qe hk) fun a hk => ?_
     obtain ⟨y22, h23, H⟩ := bind_some H
     refine tqst (.string y22) hk rfl rfl rfl rfl (fun w hs => sc rfl en75 hk rfl rfl rfl (ih _ (IntKind.wrap .i64 (Int.tdiv x0 10)) _ h23) fun _ w hR a hk => qc hR hk) fun a hk => ?_
     refine tsst hk rfl rfl (fun K_r21_3 hK_r21_3 w hF => ?_) wt_stop
     have hs := hs.f hF
     refine sm _ rfl hk rfl rfl rfl fun a hk => ?_
     refine se (hs.pick [] rfl) hk (hK_r21_3 _ _ ?_)
     refine tsst hk rfl rfl (fun K_r21_4 hK_r21_4 w hF => ?_) wt_stop
     have hs := hs.f hF
     refine sv (.int .i64 (Int.tmod x0 10)) hk rfl rfl rfl fun a hk => ?_
     refine se (hs.pick [] rfl) hk (hK_r21_4 _ _ ?_)
     refine tsst hk rfl rfl (fun K_r21_5 hK_r21_5 w hF => ?_) wt_stop
     have hs := hs.f hF
     refine sv (.int .i64 (w64 (48 + (Int.tmod x0 10)))) hk rfl rfl rfl fun a hk => ?_
     refine se (hs.pick [] rfl) hk (hK_r21_5 _ _ ?_)
     refine tsst hk rfl rfl (fun K_r21_6 hK_r21_6 w hF => ?_) wt_stop
     have hs := hs.f hF
     refine scn rfl hk rfl rfl rfl un5 un3 fun a hk => ?_
     refine se (hs.pick [] rfl) hk (hK_r21_6 _ _ ?_)
     refine tsst hk rfl rfl (fun K_r21_7 hK_r21_7 w hF => ?_) wt_stop
     have hs := hs.f hF
     refine sbs (L := (Lay.int .u8)) (pv := [(0, (.int .u8 (IntKind.wrap .u8 (w64 (48 + (Int.tmod x0 10))))))]) (xs := [(IntKind.wrap .u8 (w64 (48 + (Int.tmod x0 10))))]) (ess := [[.int .u8 (IntKind.wrap .u8 (w64 (48 + (Int.tmod x0 10))))]]) 3 hs rfl hk rfl rfl rfl un28 (bs5_12 (IntKind.wrap .u8 (w64 (48 + (Int.tmod x0 10))))) (AllOwn.cons0 ⟨rfl, rfl⟩ AllOwn.nil) rfl rfl rfl fun b24 k25 w a hk o26 hs => ?_
     refine se (hs.pick [] rfl) hk (hK_r21_7 _ _ ?_)
     refine tsst hk rfl rfl (fun K_r21_8 hK_r21_8 w hF => ?_) wt_stop
     have hs := hs.f hF
     refine sbt (xs := ([(IntKind.wrap .u8 (w64 (48 + (Int.tmod x0 10))))])) rfl hk rfl rfl rfl rfl un28 un5 un9 o26.view (hs.hasG (k := 3) rfl) fun a hk => ?_
     refine se (hs.pick [] rfl) hk (hK_r21_8 _ _ ?_)
     refine tsst hk rfl rfl (fun K_r21_9 hK_r21_9 w hF => ?_) wt_stop
     have hs := hs.f hF
     rcases ite_some H with ⟨c27, H⟩ | ⟨_, H⟩
     rotate_left
     ·cases H
     refine ssa rfl hk rfl rfl rfl rfl c27 fun a hk => ?_
     refine se (hs.pick [] rfl) hk (hK_r21_9 _ _ ?_)
     refine tlst hk rfl rfl fun K_r21_10 hK_r21_10 w hF => ?_
     have hs := hs.f hF
     refine sa _ rfl hk rfl rfl rfl fun a hk => ?_
     refine se trivial hk (hK_r21_10 _ _ fun w hF => ?_)
     have hs := hs.f hF
     refine hK20 _ _ ?_
     have hs := hs.pick [] rfl
     refine wp_ret ?_
     obtain rfl := Option.some.inj H
     exact fin hk _ [(.string (y22 ++ (strOfNums ([(IntKind.wrap .u8 (w64 (48 + (Int.tmod x0 10))))]))))] rfl ⟨rfl, trivial⟩ ⟨rfl, (hs.pick [] rfl).dnil⟩
set_option maxRecDepth 100000 in
set_option maxHeartbeats 0 in
theorem spec_l00Digits_t (w0 : World) (x0 : Int) (r : ByteArray) (H : spec_l00Digits.f x0 = some r) :
    Calls Tryz.prog 75 #[.int .i64 x0] w0 (Ret (fun v w => v = .string r ∧ Sat [] w0 w [] [])) := by
  obtain ⟨n, H⟩ := recO_some H
  exact spec_l00Digits_n n w0 x0 r H

noncomputable def spec_l09Op.f (x0 : S_Op) : Option (ByteArray) :=
  ((spec_l09Words.f).bind fun y5 => (if 0 ≤ x0.Kind ∧ x0.Kind < (y5.length : Int) then ((spec_l00Digits.f x0.Key).bind fun y14 => (if (y5.getD (x0.Kind).toNat ByteArray.empty).size + (⟨#[32]⟩ : ByteArray).size ≤ 1152921504606846976 then (if ((y5.getD (x0.Kind).toNat ByteArray.empty) ++ (⟨#[32]⟩ : ByteArray)).size + y14.size ≤ 1152921504606846976 then (((bif (x0.Kind != 1) then (some (x0.Kind != 3)) else (some false)) : Option (Bool)).bind fun u22 => (((bif u22 then ((spec_l00Digits.f x0.Value).bind fun y35 => (if (⟨#[32]⟩ : ByteArray).size + y35.size ≤ 1152921504606846976 then (if (((y5.getD (x0.Kind).toNat ByteArray.empty) ++ (⟨#[32]⟩ : ByteArray)) ++ y14).size + ((⟨#[32]⟩ : ByteArray) ++ y35).size ≤ 1152921504606846976 then (some ((((y5.getD (x0.Kind).toNat ByteArray.empty) ++ (⟨#[32]⟩ : ByteArray)) ++ y14) ++ ((⟨#[32]⟩ : ByteArray) ++ y35))) else none) else none)) else (some (((y5.getD (x0.Kind).toNat ByteArray.empty) ++ (⟨#[32]⟩ : ByteArray)) ++ y14))) : Option (ByteArray)).bind fun u29 => (some u29))) else none) else none)) else none))
set_option maxRecDepth 100000 in
set_option maxHeartbeats 0 in
theorem spec_l09Op_t (w0 : World) (x0 : S_Op) (r : ByteArray) (H : spec_l09Op.f x0 = some r) :
    Calls Tryz.prog 49 #[.agg #[.int .i64 x0.Kind, .int .i64 x0.Key, .int .i64 x0.Value]] w0 (Ret (fun v w => v = .string r ∧ Sat [] w0 w [] [])) := by
  have hs : Sat [] w0 w0 [] [] := Sat.init w0 [] [] (by simp) (by simp) List.nodup_nil (by simp [blks])
  unfold spec_l09Op.f at H
  refine enter Tryz.func49 rfl Tryz.ntmps49 rfl fun a hk => ?_
  apply wp_seq_k; intro K1 hK1
  apply wp_region_lit
  refine sbx 1 hs rfl hk rfl rfl rfl rfl fun b2 w a hk hs => ?_
  refine sa _ rfl hk rfl rfl rfl fun a hk => ?_
  show wpList _ _ _ [] _ _
  refine wpList_nil ?_
  refine hK1 _ _ ?_
  apply wp_seq_k; intro K3 hK3
  refine wp_region_tree (.q 1 (.q 2 (.q 6 (.q 7 (.alt 0 (.q 3 (.q 8 (.alt 4 (.alt 5 (.alt 9 (.last 10) .stop) .stop) .stop))) .stop))))) mo (by kernel_rfl) (hs.pick [(1, 1)] rfl) fun _ => ?_
  have hs := hs.drew
  refine tqst (.pointer (some ⟨b2, 0, none⟩)) hk rfl rfl rfl rfl (fun w hs => sf ⟨b2, 0, none⟩ rfl hk rfl rfl rfl fd33_0 rfl fun a hk => qe hk) fun a hk => ?_
  refine tqst (.int .i64 x0.Kind) hk rfl rfl rfl rfl (fun w hs => sl rfl hk rfl rfl rfl ag3 (box_cell hs (k := 1) rfl rfl) fun a hk => qe hk) fun a hk => ?_
  refine tqst (.pointer (some ⟨b2, 1, none⟩)) hk rfl rfl rfl rfl (fun w hs => sf ⟨b2, 1, none⟩ rfl hk rfl rfl rfl fd33_1 rfl fun a hk => qe hk) fun a hk => ?_
  refine tqst (.int .i64 x0.Key) hk rfl rfl rfl rfl (fun w hs => sl rfl hk rfl rfl rfl ag3 (box_cell hs (k := 1) rfl rfl) fun a hk => qe hk) fun a hk => ?_
  refine tsst hk rfl rfl (fun K_r4_0 hK_r4_0 w hF => ?_) wt_stop
  have hs := hs.f hF
  obtain ⟨y5, h6, H⟩ := bind_some H
  refine sc rfl en63 hk rfl rfl rfl (spec_l09Words_t _ _ h6) ?_
  rintro _ w ⟨A7, p8, k9, rfl, o10, hG⟩ a hk
  have hs := hs.call0k hG [3] rfl
  refine se (hs.pick [(1, 1)] rfl) hk (hK_r4_0 _ _ ?_)
  rcases ite_some H with ⟨c11, H⟩ | ⟨_, H⟩
  rotate_left
  ·cases H
  obtain ⟨b12, q13, hAc11⟩ := (o10.view).some_ x0.Kind c11.1 c11.2
  refine tqst (.pointer (some (padd A7 ((x0.Kind).toNat * 1)))) hk rfl rfl rfl rfl (fun w hs => si rfl hk rfl rfl rfl rfl un59 sz9 c11.1 c11.2 hAc11 fun a hk => qe hk) fun a hk => ?_
  obtain ⟨y14, h15, H⟩ := bind_some H
  refine tqst (.string y14) hk rfl rfl rfl rfl (fun w hs => sc rfl en75 hk rfl rfl rfl (spec_l00Digits_t _ x0.Key _ h15) fun _ w hR a hk => qc hR hk) fun a hk => ?_
  refine tsst hk rfl rfl (fun K_r4_4 hK_r4_4 w hF => ?_) wt_stop
  have hs := hs.f hF
  obtain ⟨_, rfl, e16⟩ := (o10.view).at_ ByteArray.empty x0.Kind c11.1 c11.2
  refine sl (v := (.string (y5.getD (x0.Kind).toNat ByteArray.empty))) rfl hk rfl rfl rfl ag9 ((e16 0 _ rfl).cell (hs.hasG (k := 3) rfl)) fun a hk => ?_
  refine se (hs.pick [(1, 1)] rfl) hk (hK_r4_4 _ _ ?_)
  refine tsst hk rfl rfl (fun K_r4_5 hK_r4_5 w hF => ?_) wt_stop
  have hs := hs.f hF
  rcases ite_some H with ⟨c17, H⟩ | ⟨_, H⟩
  rotate_left
  ·cases H
  refine ssa rfl hk rfl rfl rfl rfl c17 fun a hk => ?_
  refine se (hs.pick [(1, 1)] rfl) hk (hK_r4_5 _ _ ?_)
  refine tsst hk rfl rfl (fun K_r4_9 hK_r4_9 w hF => ?_) wt_stop
  have hs := hs.f hF
  rcases ite_some H with ⟨c18, H⟩ | ⟨_, H⟩
  rotate_left
  ·cases H
  refine ssa rfl hk rfl rfl rfl rfl c18 fun a hk => ?_
  refine se (hs.pick [(1, 1)] rfl) hk (hK_r4_9 _ _ ?_)
  refine tlst hk rfl rfl fun K_r4_10 hK_r4_10 w hF => ?_
  have hs := hs.f hF
  refine sa _ rfl hk rfl rfl rfl fun a hk => ?_
  refine se trivial hk (hK_r4_10 _ _ fun w hF => ?_)
  have hs := hs.f hF
  refine hK3 _ _ ?_
  apply wp_seq_k; intro K19 hK19
  apply wp_seq_k; intro K20 hK20
  obtain ⟨o23, h24, HL25⟩ := bind_some H
  clear H
  obtain ⟨R26, hR26⟩ : ∃ R : Act → World → Prop, R = fun a w => ∃ (u22 : Bool), u22 = o23 ∧ Kn [(1, (.pointer (some ⟨b2, 0, none⟩))), (3, (.string (((y5.getD (x0.Kind).toNat ByteArray.empty) ++ (⟨#[32]⟩ : ByteArray)) ++ y14))), (21, (.bool u22))] 29 a ∧ Sat [] w0 w [] [(1, [(b2, .cells #[.int .i64 x0.Kind, .int .i64 x0.Key, .int .i64 x0.Value] 33 (0, 0))])] := ⟨_, rfl⟩
  refine wp_cutq R26 ?_ ?_
  ·have H := h24
   apply wp_region_lit
   refine sf ⟨b2, 0, none⟩ rfl hk rfl rfl rfl fd33_0 rfl fun a hk => ?_
   refine sl rfl hk rfl rfl rfl ag3 (box_cell hs (k := 1) rfl rfl) fun a hk => ?_
   refine sv (.bool (x0.Kind != 1)) hk rfl rfl rfl fun a hk => ?_
   refine sm _ rfl hk rfl rfl rfl fun a hk => ?_
   rcases cond_some H with ⟨c27, H⟩ | ⟨c27, H⟩
   ·have hk := hk.lit 17 c27 rfl
    refine sf ⟨b2, 0, none⟩ rfl hk rfl rfl rfl fd33_0 rfl fun a hk => ?_
    refine sl rfl hk rfl rfl rfl ag3 (box_cell hs (k := 1) rfl rfl) fun a hk => ?_
    refine sv (.bool (x0.Kind != 3)) hk rfl rfl rfl fun a hk => ?_
    refine sv (.bool (x0.Kind != 3)) hk rfl rfl rfl fun a hk => ?_
    show wpList _ _ _ [] _ _
    refine wpList_nil ?_
    obtain rfl := Option.some.inj H
    show R26 _ _
    rw [hR26]
    exact ⟨(x0.Kind != 3), rfl, (hk.c 1 rfl (hk.c 3 rfl (hk.c 21 rfl hk.k))), (hs.pick [(1, 1)] rfl)⟩
   ·have hk := hk.lit 17 c27 rfl
    refine sk hk rfl rfl rfl fun a hk => ?_
    refine sk hk rfl rfl rfl fun a hk => ?_
    refine sk hk rfl rfl rfl fun a hk => ?_
    refine sv (.bool false) hk rfl rfl rfl fun a hk => ?_
    show wpList _ _ _ [] _ _
    refine wpList_nil ?_
    obtain rfl := Option.some.inj H
    show R26 _ _
    rw [hR26]
    exact ⟨false, rfl, (hk.c 1 rfl (hk.c 3 rfl (hk.c 21 rfl hk.k))), (hs.pick [(1, 1)] rfl)⟩
  ·intro a w hR0
   rw [hR26] at hR0
   obtain ⟨u22, rfl, hk, hs⟩ := hR0
   have H := HL25
   try dsimp only at H
   refine hK20 _ _ ?_
   obtain ⟨o30, h31, HL32⟩ := bind_some H
   clear H
   obtain ⟨R33, hR33⟩ : ∃ R : Act → World → Prop, R = fun a w => ∃ (u29 : ByteArray), u29 = o30 ∧ Kn [(3, (.string u29))] 29 a ∧ Sat [] w0 w [] [] := ⟨_, rfl⟩
   refine wp_cutq R33 ?_ ?_
   ·have H := h31
    rcases cond_some H with ⟨c34, H⟩ | ⟨c34, H⟩
    ·have hk := hk.lit 21 c34 rfl
     refine cnd_true hk rfl rfl ?_
     apply wp_region_lit
     refine sm _ rfl hk rfl rfl rfl fun a hk => ?_
     refine sf ⟨b2, 2, none⟩ rfl hk rfl rfl rfl fd33_2 rfl fun a hk => ?_
     refine sl rfl hk rfl rfl rfl ag3 (box_cell hs (k := 1) rfl rfl) fun a hk => ?_
     obtain ⟨y35, h36, H⟩ := bind_some H
     refine sc rfl en75 hk rfl rfl rfl (spec_l00Digits_t _ x0.Value _ h36) ?_
     rintro _ w ⟨rfl, hG⟩ a hk
     have hs := hs.call0 hG
     rcases ite_some H with ⟨c37, H⟩ | ⟨_, H⟩
     rotate_left
     ·cases H
     refine ssa rfl hk rfl rfl rfl rfl c37 fun a hk => ?_
     rcases ite_some H with ⟨c38, H⟩ | ⟨_, H⟩
     rotate_left
     ·cases H
     refine ssa rfl hk rfl rfl rfl rfl c38 fun a hk => ?_
     refine sa _ rfl hk rfl rfl rfl fun a hk => ?_
     show wpList _ _ _ [] _ _
     refine wpList_nil ?_
     obtain rfl := Option.some.inj H
     show R33 _ _
     rw [hR33]
     exact ⟨((((y5.getD (x0.Kind).toNat ByteArray.empty) ++ (⟨#[32]⟩ : ByteArray)) ++ y14) ++ ((⟨#[32]⟩ : ByteArray) ++ y35)), rfl, (hk.c 3 rfl hk.k), (hs.pick [] rfl)⟩
    ·have hk := hk.lit 21 c34 rfl
     refine cnd_false hk rfl rfl ?_
     refine wp_skip ?_
     obtain rfl := Option.some.inj H
     show R33 _ _
     rw [hR33]
     exact ⟨(((y5.getD (x0.Kind).toNat ByteArray.empty) ++ (⟨#[32]⟩ : ByteArray)) ++ y14), rfl, (hk.c 3 rfl hk.k), (hs.pick [] rfl)⟩
   ·intro a w hR0
    rw [hR33] at hR0
    obtain ⟨u29, rfl, hk, hs⟩ := hR0
    have H := HL32
    try dsimp only at H
    refine hK19 _ _ ?_
    have hs := hs.pick [] rfl
    apply wp_seq_k; intro K39 hK39
    apply wp_region_lit
    refine sm _ rfl hk rfl rfl rfl fun a hk => ?_
    refine sa _ rfl hk rfl rfl rfl fun a hk => ?_
    show wpList _ _ _ [] _ _
    refine wpList_nil ?_
    refine hK39 _ _ ?_
    refine wp_ret ?_
    obtain rfl := Option.some.inj H
    exact fin hk _ [(.string u29)] rfl ⟨rfl, trivial⟩ ⟨rfl, (hs.pick [] rfl).dnil⟩

noncomputable def spec_l00Join.s0 (l0 : List ByteArray) (x1 : ByteArray) (u7 : ByteArray) (u8 : Int) : Option ((ByteArray × Int) ⊕ Ex (ByteArray) (ByteArray)) :=
  (bif (decide (u8 < (l0.length : Int))) then (((bif (decide (u8 > 0)) then (if u7.size + x1.size ≤ 1152921504606846976 then (some (u7 ++ x1)) else none) else (some u7)) : Option (ByteArray)).bind fun u25 => (if 0 ≤ u8 ∧ u8 < (l0.length : Int) then (if u25.size + (l0.getD u8.toNat ByteArray.empty).size ≤ 1152921504606846976 then (some (.inl ((u25 ++ (l0.getD u8.toNat ByteArray.empty)), (w64 (u8 + 1))))) else none) else none)) else (some (.inr (.out u7))))
noncomputable def spec_l00Join.f (l0 : List ByteArray) (x1 : ByteArray) : Option (ByteArray) :=
  ((loopO (fun s => spec_l00Join.s0 l0 x1 s.1 s.2) ((⟨#[]⟩ : ByteArray), 0)).bind fun o => match o with | .out u9 => (some u9) | .ret r => (some r))
set_option maxRecDepth 100000 in
set_option maxHeartbeats 0 in
theorem spec_l00Join_t (w0 : World) (A0_ : Option Addr) (p0_ : Nat) (l0 : List ByteArray) (k0_ : Chunk) (v0_ : View Lay.str A0_ p0_ l0 k0_) (w0_ : Has w0 k0_) (x1 : ByteArray) (r : ByteArray) (H : spec_l00Join.f l0 x1 = some r) :
    Calls Tryz.prog 50 #[.slice A0_ l0.length p0_, .string x1] w0 (Ret (fun v w => v = .string r ∧ Sat [] w0 w [] [])) := by
  have hs : Sat [] w0 w0 [(1, k0_)] [] := Sat.init w0 [(1, k0_)] [] (by simp only [List.mem_cons, List.not_mem_nil, or_false]; rintro x (rfl) <;> assumption) (by simp) List.nodup_nil (by simp [blks])
  unfold spec_l00Join.f at H
  refine enter Tryz.func50 rfl Tryz.ntmps50 rfl fun a hk => ?_
  apply wp_seq_k; intro K1 hK1
  apply wp_region_lit
  refine sa _ rfl hk rfl rfl rfl fun a hk => ?_
  show wpList _ _ _ [] _ _
  refine wpList_nil ?_
  refine hK1 _ _ ?_
  apply wp_seq_k; intro K2 hK2
  apply wp_region_lit
  refine sa _ rfl hk rfl rfl rfl fun a hk => ?_
  show wpList _ _ _ [] _ _
  refine wpList_nil ?_
  refine hK2 _ _ ?_
  apply wp_seq_k; intro K3 hK3
  apply wp_seq_k; intro K4 hK4
  apply wp_region_lit
  refine sa _ rfl hk rfl rfl rfl fun a hk => ?_
  show wpList _ _ _ [] _ _
  refine wpList_nil ?_
  refine hK4 _ _ ?_
  obtain ⟨o10, h11, HL12⟩ := bind_some H
  clear H
  obtain ⟨R13, hR13⟩ : ∃ R : Act → World → Prop, R = fun a w => ∃ (u9 : ByteArray), o10 = .out u9 ∧ Kn [(5, (.string u9))] 25 a ∧ Sat [] w0 w [(1, k0_)] [] := ⟨_, rfl⟩
  refine wp_cutq R13 ?_ ?_
  ·refine wp_block ?_
   obtain ⟨fu15, h11⟩ := loopO_some h11
   obtain ⟨I14, hI14⟩ : ∃ I : Nat → Act → World → Prop, I = fun fu a w => ∃ (u7 : ByteArray) (u8 : Int), loopN (fun s => spec_l00Join.s0 l0 x1 s.1 s.2) fu (u7, u8) = some o10 ∧ Kn [(0, (.slice A0_ l0.length p0_)), (1, (.string x1)), (5, (.string u7)), (6, (.int .i64 u8))] 25 a ∧ Sat [] w0 w [(1, k0_)] [] := ⟨_, rfl⟩
   refine wp_loop_ghost I14 fu15 ?_ ?_
   ·rw [hI14]
    exact ⟨(⟨#[]⟩ : ByteArray), 0, h11, (hk.c 0 rfl (hk.c 1 rfl (hk.c 5 rfl (hk.c 6 rfl hk.k)))), (hs.pick [] rfl)⟩
   ·clear h11 hk hs
    intro fu15 a w hI0
    rw [hI14] at hI0
    obtain ⟨u7, u8, hi, hk, hs⟩ := hI0
    obtain ⟨x16, H, h17⟩ := loop_round hi
    try dsimp only at H
    unfold spec_l00Join.s0 at H
    apply wp_seq_k; intro K18 hK18
    apply wp_seq_k; intro K19 hK19
    apply wp_region_lit
    refine sm _ rfl hk rfl rfl rfl fun a hk => ?_
    refine sm _ rfl hk rfl rfl rfl fun a hk => ?_
    refine sle rfl hk rfl rfl rfl un59 fun a hk => ?_
    refine sv (.bool (decide (u8 < (l0.length : Int)))) hk rfl rfl rfl fun a hk => ?_
    show wpList _ _ _ [] _ _
    refine wpList_nil ?_
    refine hK19 _ _ ?_
    have hs := hs.pick [] rfl
    rcases cond_some H with ⟨c20, H⟩ | ⟨c20, H⟩
    ·have hk := hk.lit 10 c20 rfl
     refine cnd_true hk rfl rfl ?_
     refine wp_skip ?_
     refine hK18 _ _ ?_
     apply wp_seq_k; intro K21 hK21
     refine wp_block ?_
     apply wp_seq_k; intro K22 hK22
     apply wp_seq_k; intro K23 hK23
     apply wp_region_lit
     refine sm _ rfl hk rfl rfl rfl fun a hk => ?_
     refine sv (.bool (decide (u8 > 0))) hk rfl rfl rfl fun a hk => ?_
     show wpList _ _ _ [] _ _
     refine wpList_nil ?_
     refine hK23 _ _ ?_
     obtain ⟨o26, h27, HL28⟩ := bind_some H
     clear H
     obtain ⟨R29, hR29⟩ : ∃ R : Act → World → Prop, R = fun a w => ∃ (u25 : ByteArray), u25 = o26 ∧ Kn [(0, (.slice A0_ l0.length p0_)), (1, (.string x1)), (5, (.string u25)), (6, (.int .i64 u8))] 25 a ∧ Sat [] w0 w [(1, k0_)] [] := ⟨_, rfl⟩
     refine wp_cutq R29 ?_ ?_
     ·have H := h27
      rcases cond_some H with ⟨c30, H⟩ | ⟨c30, H⟩
      ·have hk := hk.lit 14 c30 rfl
       refine cnd_true hk rfl rfl ?_
       apply wp_region_lit
       refine sm _ rfl hk rfl rfl rfl fun a hk => ?_
       refine sm _ rfl hk rfl rfl rfl fun a hk => ?_
       rcases ite_some H with ⟨c31, H⟩ | ⟨_, H⟩
       rotate_left
       ·cases H
       refine ssa rfl hk rfl rfl rfl rfl c31 fun a hk => ?_
       refine sa _ rfl hk rfl rfl rfl fun a hk => ?_
       show wpList _ _ _ [] _ _
       refine wpList_nil ?_
       obtain rfl := Option.some.inj H
       show R29 _ _
       rw [hR29]
       exact ⟨(u7 ++ x1), rfl, (hk.c 0 rfl (hk.c 1 rfl (hk.c 5 rfl (hk.c 6 rfl hk.k)))), (hs.pick [] rfl)⟩
      ·have hk := hk.lit 14 c30 rfl
       refine cnd_false hk rfl rfl ?_
       refine wp_skip ?_
       obtain rfl := Option.some.inj H
       show R29 _ _
       rw [hR29]
       exact ⟨u7, rfl, (hk.c 0 rfl (hk.c 1 rfl (hk.c 5 rfl (hk.c 6 rfl hk.k)))), (hs.pick [] rfl)⟩
     ·intro a w hR0
      rw [hR29] at hR0
      obtain ⟨u25, rfl, hk, hs⟩ := hR0
      have H := HL28
      try dsimp only at H
      refine hK22 _ _ ?_
      apply wp_region_lit
      refine sm _ rfl hk rfl rfl rfl fun a hk => ?_
      refine sm _ rfl hk rfl rfl rfl fun a hk => ?_
      refine sm _ rfl hk rfl rfl rfl fun a hk => ?_
      rcases ite_some H with ⟨c32, H⟩ | ⟨_, H⟩
      rotate_left
      ·cases H
      obtain ⟨b33, q34, hAc32⟩ := (v0_).some_ u8 c32.1 c32.2
      refine si rfl hk rfl rfl rfl rfl un59 sz9 c32.1 c32.2 hAc32 fun a hk => ?_
      obtain ⟨_, rfl, e35⟩ := (v0_).at_ ByteArray.empty u8 c32.1 c32.2
      refine sl (v := (.string (l0.getD u8.toNat ByteArray.empty))) rfl hk rfl rfl rfl ag9 ((e35 0 _ rfl).cell (hs.hasD (k := 1) rfl)) fun a hk => ?_
      rcases ite_some H with ⟨c36, H⟩ | ⟨_, H⟩
      rotate_left
      ·cases H
      refine ssa rfl hk rfl rfl rfl rfl c36 fun a hk => ?_
      refine sa _ rfl hk rfl rfl rfl fun a hk => ?_
      show wpList _ _ _ [] _ _
      refine wpList_nil ?_
      refine hK21 _ _ ?_
      have hs := hs.pick [] rfl
      apply wp_region_lit
      refine sm _ rfl hk rfl rfl rfl fun a hk => ?_
      refine sv (.int .i64 (w64 (u8 + 1))) hk rfl rfl rfl fun a hk => ?_
      refine sa _ rfl hk rfl rfl rfl fun a hk => ?_
      show wpList _ _ _ [] _ _
      refine wpList_nil ?_
      obtain rfl := Option.some.inj H
      obtain ⟨m37, hmm37, h17⟩ := h17
      show ∃ n', n' < _ ∧ I14 n' _ _
      refine ⟨m37, hmm37, ?_⟩
      rw [hI14]
      exact ⟨(u25 ++ (l0.getD u8.toNat ByteArray.empty)), (w64 (u8 + 1)), h17, (hk.c 0 rfl (hk.c 1 rfl (hk.c 5 rfl (hk.c 6 rfl hk.k)))), (hs.pick [] rfl)⟩
    ·have hk := hk.lit 10 c20 rfl
     refine cnd_false hk rfl rfl ?_
     refine wp_exit ?_
     obtain rfl := Option.some.inj H
     show R13 _ _
     rw [hR13]
     exact ⟨u7, h17.symm, (hk.c 5 rfl hk.k), (hs.pick [] rfl)⟩
  ·intro a w hR0
   rw [hR13] at hR0
   obtain ⟨u9, rfl, hk, hs⟩ := hR0
   have H := HL12
   try dsimp only at H
   refine hK3 _ _ ?_
   have hs := hs.pick [] rfl
   apply wp_seq_k; intro K38 hK38
   apply wp_region_lit
   refine sm _ rfl hk rfl rfl rfl fun a hk => ?_
   refine sa _ rfl hk rfl rfl rfl fun a hk => ?_
   show wpList _ _ _ [] _ _
   refine wpList_nil ?_
   refine hK38 _ _ ?_
   refine wp_ret ?_
   obtain rfl := Option.some.inj H
   exact fin hk _ [(.string u9)] rfl ⟨rfl, trivial⟩ ⟨rfl, (hs.pick [] rfl).dnil⟩

noncomputable def spec_l09Text.s1 (l0 : List S_Txn) (u14 : Int) (u50 : List ByteArray) (u49 : Int) : Option (((List ByteArray) × Int) ⊕ Ex ((List ByteArray)) (ByteArray)) :=
  (if 0 ≤ u14 ∧ u14 < (l0.length : Int) then (bif (decide (u49 < (((l0.getD u14.toNat z_Txn).Ops).length : Int))) then (if 0 ≤ u14 ∧ u14 < (l0.length : Int) then (if 0 ≤ u49 ∧ u49 < (((l0.getD u14.toNat z_Txn).Ops).length : Int) then ((spec_l09Op.f (((l0.getD u14.toNat z_Txn).Ops).getD u49.toNat z_Op)).bind fun y90 => (if u50.length + ([y90]).length ≤ 1073741824 then (some (.inl ((u50 ++ ([y90])), (w64 (u49 + 1))))) else none)) else none) else none) else (some (.inr (.out u50)))) else none)
noncomputable def spec_l09Text.s0 (l0 : List S_Txn) (u15 : List ByteArray) (u14 : Int) : Option (((List ByteArray) × Int) ⊕ Ex ((List ByteArray)) (ByteArray)) :=
  (bif (decide (u14 < (l0.length : Int))) then ((loopO (fun s => spec_l09Text.s1 l0 u14 s.1 s.2) (([] : List ByteArray), 0)).bind fun o => match o with | .out u55 => ((spec_l00Join.f u55 (⟨#[59, 32]⟩ : ByteArray)).bind fun y101 => (if u15.length + ([y101]).length ≤ 1073741824 then (some (.inl ((u15 ++ ([y101])), (w64 (u14 + 1))))) else none)) | .ret r => (some (.inr (.ret r)))) else (some (.inr (.out u15))))
noncomputable def spec_l09Text.f (l0 : List S_Txn) : Option (ByteArray) :=
  ((loopO (fun s => spec_l09Text.s0 l0 s.1 s.2) (([] : List ByteArray), 0)).bind fun o => match o with | .out u20 => ((spec_l00Join.f u20 (⟨#[32, 124, 32]⟩ : ByteArray)).bind fun y113 => (some y113)) | .ret r => (some r))
set_option maxRecDepth 100000 in
set_option maxHeartbeats 0 in
theorem spec_l09Text_t (w0 : World) (A0_ : Option Addr) (p0_ : Nat) (l0 : List S_Txn) (k0_ : Chunk) (v0_ : View L_impl_Txn A0_ p0_ l0 k0_) (w0_ : Has w0 k0_) (r : ByteArray) (H : spec_l09Text.f l0 = some r) :
    Calls Tryz.prog 28 #[.slice A0_ l0.length p0_] w0 (Ret (fun v w => v = .string r ∧ Sat [] w0 w [] [])) := by
  have hs : Sat [] w0 w0 [(1, k0_)] [] := Sat.init w0 [(1, k0_)] [] (by simp only [List.mem_cons, List.not_mem_nil, or_false]; rintro x (rfl) <;> assumption) (by simp) List.nodup_nil (by simp [blks])
  unfold spec_l09Text.f at H
  refine enter Tryz.func28 rfl Tryz.ntmps28 rfl fun a hk => ?_
  apply wp_seq_k; intro K1 hK1
  apply wp_region_lit
  refine sa _ rfl hk rfl rfl rfl fun a hk => ?_
  show wpList _ _ _ [] _ _
  refine wpList_nil ?_
  refine hK1 _ _ ?_
  apply wp_seq_k; intro K2 hK2
  apply wp_region_lit
  refine sbs0 2 Lay.str hs rfl hk rfl rfl un59 sz9 fun b3 k4 w a hk o5 hs => ?_
  refine sa _ rfl hk rfl rfl rfl fun a hk => ?_
  show wpList _ _ _ [] _ _
  refine wpList_nil ?_
  refine hK2 _ _ ?_
  apply wp_seq_k; intro K6 hK6
  apply wp_seq_k; intro K7 hK7
  apply wp_region_lit
  refine sa _ rfl hk rfl rfl rfl fun a hk => ?_
  show wpList _ _ _ [] _ _
  refine wpList_nil ?_
  refine hK7 _ _ ?_
  obtain ⟨o25, h26, HL27⟩ := bind_some H
  clear H
  obtain ⟨R28, hR28⟩ : ∃ R : Act → World → Prop, R = fun a w => ∃ (u20 : List ByteArray) (A23 : Option Addr) (p24 : Nat) (k21 : Chunk), o25 = .out u20 ∧ Kn [(3, (.slice A23 u20.length p24))] 44 a ∧ Sat [] w0 w [(1, k0_)] [(2, k21)] ∧ Own Lay.str 9 A23 p24 u20 k21 := ⟨_, rfl⟩
  refine wp_cutq R28 ?_ ?_
  ·refine wp_block ?_
   obtain ⟨fu30, h26⟩ := loopO_some h26
   obtain ⟨I29, hI29⟩ : ∃ I : Nat → Act → World → Prop, I = fun fu a w => ∃ (u15 : List ByteArray) (u14 : Int) (A18 : Option Addr) (p19 : Nat) (k16 : Chunk), loopN (fun s => spec_l09Text.s0 l0 s.1 s.2) fu (u15, u14) = some o25 ∧ Kn [(0, (.slice A0_ l0.length p0_)), (3, (.slice A18 u15.length p19)), (4, (.int .i64 u14))] 44 a ∧ Sat [] w0 w [(1, k0_)] [(2, k16)] ∧ Own Lay.str 9 A18 p19 u15 k16 := ⟨_, rfl⟩
   refine wp_loop_ghost I29 fu30 ?_ ?_
   ·rw [hI29]
    exact ⟨([] : List ByteArray), 0, (some ⟨b3, 0, none⟩), 0, _, h26, (hk.c 0 rfl (hk.c 3 rfl (hk.c 4 rfl hk.k))), (hs.pick [(2, 2)] rfl), o5⟩
   ·clear h26 hk hs
    intro fu30 a w hI0
    rw [hI29] at hI0
    obtain ⟨u15, u14, A18, p19, k16, hi, hk, hs, o17⟩ := hI0
    obtain ⟨x31, H, h32⟩ := loop_round hi
    try dsimp only at H
    unfold spec_l09Text.s0 at H
    apply wp_seq_k; intro K33 hK33
    apply wp_seq_k; intro K34 hK34
    apply wp_region_lit
    refine sm _ rfl hk rfl rfl rfl fun a hk => ?_
    refine sm _ rfl hk rfl rfl rfl fun a hk => ?_
    refine sle rfl hk rfl rfl rfl un22 fun a hk => ?_
    refine sv (.bool (decide (u14 < (l0.length : Int)))) hk rfl rfl rfl fun a hk => ?_
    show wpList _ _ _ [] _ _
    refine wpList_nil ?_
    refine hK34 _ _ ?_
    have hs := hs.pick [(2, 2)] rfl
    rcases cond_some H with ⟨c35, H⟩ | ⟨c35, H⟩
    ·have hk := hk.lit 11 c35 rfl
     refine cnd_true hk rfl rfl ?_
     refine wp_skip ?_
     refine hK33 _ _ ?_
     apply wp_seq_k; intro K36 hK36
     refine wp_block ?_
     apply wp_seq_k; intro K37 hK37
     apply wp_region_lit
     refine sbs0 4 Lay.str hs rfl hk rfl rfl un59 sz9 fun b38 k39 w a hk o40 hs => ?_
     refine sa _ rfl hk rfl rfl rfl fun a hk => ?_
     show wpList _ _ _ [] _ _
     refine wpList_nil ?_
     refine hK37 _ _ ?_
     apply wp_seq_k; intro K41 hK41
     apply wp_seq_k; intro K42 hK42
     apply wp_region_lit
     refine sa _ rfl hk rfl rfl rfl fun a hk => ?_
     show wpList _ _ _ [] _ _
     refine wpList_nil ?_
     refine hK42 _ _ ?_
     obtain ⟨o60, h61, HL62⟩ := bind_some H
     clear H
     obtain ⟨R63, hR63⟩ : ∃ R : Act → World → Prop, R = fun a w => ∃ (u55 : List ByteArray) (A58 : Option Addr) (p59 : Nat) (k56 : Chunk), o60 = .out u55 ∧ Kn [(0, (.slice A0_ l0.length p0_)), (3, (.slice A18 u15.length p19)), (4, (.int .i64 u14)), (5, (.slice A58 u55.length p59))] 44 a ∧ Sat [] w0 w [(1, k0_)] [(2, k16), (4, k56)] ∧ Own Lay.str 9 A58 p59 u55 k56 := ⟨_, rfl⟩
     refine wp_cutq R63 ?_ ?_
     ·refine wp_block ?_
      obtain ⟨fu65, h61⟩ := loopO_some h61
      obtain ⟨I64, hI64⟩ : ∃ I : Nat → Act → World → Prop, I = fun fu a w => ∃ (u50 : List ByteArray) (u49 : Int) (A53 : Option Addr) (p54 : Nat) (k51 : Chunk), loopN (fun s => spec_l09Text.s1 l0 u14 s.1 s.2) fu (u50, u49) = some o60 ∧ Kn [(0, (.slice A0_ l0.length p0_)), (3, (.slice A18 u15.length p19)), (4, (.int .i64 u14)), (5, (.slice A53 u50.length p54)), (6, (.int .i64 u49))] 44 a ∧ Sat [] w0 w [(1, k0_)] [(2, k16), (4, k51)] ∧ Own Lay.str 9 A53 p54 u50 k51 := ⟨_, rfl⟩
      refine wp_loop_ghost I64 fu65 ?_ ?_
      ·rw [hI64]
       exact ⟨([] : List ByteArray), 0, (some ⟨b38, 0, none⟩), 0, _, h61, (hk.c 0 rfl (hk.c 3 rfl (hk.c 4 rfl (hk.c 5 rfl (hk.c 6 rfl hk.k))))), (hs.pick [(2, 2), (4, 4)] rfl), o40⟩
      ·clear h61 hk hs
       intro fu65 a w hI0
       rw [hI64] at hI0
       obtain ⟨u50, u49, A53, p54, k51, hi, hk, hs, o52⟩ := hI0
       obtain ⟨x66, H, h67⟩ := loop_round hi
       try dsimp only at H
       unfold spec_l09Text.s1 at H
       apply wp_seq_k; intro K68 hK68
       apply wp_seq_k; intro K69 hK69
       apply wp_region_lit
       refine sm _ rfl hk rfl rfl rfl fun a hk => ?_
       refine sm _ rfl hk rfl rfl rfl fun a hk => ?_
       refine sm _ rfl hk rfl rfl rfl fun a hk => ?_
       rcases ite_some H with ⟨c70, H⟩ | ⟨_, H⟩
       rotate_left
       ·cases H
       obtain ⟨b71, q72, hAc70⟩ := (v0_).some_ u14 c70.1 c70.2
       refine si rfl hk rfl rfl rfl rfl un22 sz36 c70.1 c70.2 hAc70 fun a hk => ?_
       refine sf (padd A0_ (u14.toNat * 1 + 0)) rfl hk rfl rfl rfl fd36_0 (padd_add _ _ _) fun a hk => ?_
       obtain ⟨_, ⟨_, rfl, A74, p75, rfl, v76⟩, e73⟩ := (v0_).at_ z_Txn u14 c70.1 c70.2
       refine sl (v := (.slice A74 ((l0.getD u14.toNat z_Txn).Ops).length p75)) rfl hk rfl rfl rfl ag34 ((e73 0 _ rfl).cell (hs.hasD (k := 1) rfl)) fun a hk => ?_
       refine sle rfl hk rfl rfl rfl un34 fun a hk => ?_
       refine sv (.bool (decide (u49 < (((l0.getD u14.toNat z_Txn).Ops).length : Int)))) hk rfl rfl rfl fun a hk => ?_
       show wpList _ _ _ [] _ _
       refine wpList_nil ?_
       refine hK69 _ _ ?_
       have hs := hs.pick [(2, 2), (4, 4)] rfl
       rcases cond_some H with ⟨c77, H⟩ | ⟨c77, H⟩
       ·have hk := hk.lit 22 c77 rfl
        refine cnd_true hk rfl rfl ?_
        refine wp_skip ?_
        refine hK68 _ _ ?_
        apply wp_seq_k; intro K78 hK78
        refine wp_block ?_
        apply wp_region_lit
        refine sm _ rfl hk rfl rfl rfl fun a hk => ?_
        refine sm _ rfl hk rfl rfl rfl fun a hk => ?_
        refine sm _ rfl hk rfl rfl rfl fun a hk => ?_
        rcases ite_some H with ⟨c79, H⟩ | ⟨_, H⟩
        rotate_left
        ·cases H
        obtain ⟨b80, q81, hAc79⟩ := (v0_).some_ u14 c79.1 c79.2
        refine si rfl hk rfl rfl rfl rfl un22 sz36 c79.1 c79.2 hAc79 fun a hk => ?_
        refine sf (padd A0_ (u14.toNat * 1 + 0)) rfl hk rfl rfl rfl fd36_0 (padd_add _ _ _) fun a hk => ?_
        obtain ⟨_, ⟨_, rfl, A83, p84, rfl, v85⟩, e82⟩ := (v0_).at_ z_Txn u14 c79.1 c79.2
        refine sl (v := (.slice A83 ((l0.getD u14.toNat z_Txn).Ops).length p84)) rfl hk rfl rfl rfl ag34 ((e82 0 _ rfl).cell (hs.hasD (k := 1) rfl)) fun a hk => ?_
        refine sm _ rfl hk rfl rfl rfl fun a hk => ?_
        rcases ite_some H with ⟨c86, H⟩ | ⟨_, H⟩
        rotate_left
        ·cases H
        obtain ⟨b87, q88, hAc86⟩ := (v85).some_ u49 c86.1 c86.2
        refine si rfl hk rfl rfl rfl rfl un34 sz33 c86.1 c86.2 hAc86 fun a hk => ?_
        obtain ⟨_, rfl, e89⟩ := (v85).at_ z_Op u49 c86.1 c86.2
        refine sln [.int .i64 ((((l0.getD u14.toNat z_Txn).Ops).getD u49.toNat z_Op).Kind), .int .i64 ((((l0.getD u14.toNat z_Txn).Ops).getD u49.toNat z_Op).Key), .int .i64 ((((l0.getD u14.toNat z_Txn).Ops).getD u49.toNat z_Op).Value)] rfl hk rfl rfl rfl ag33 sz33 (cells_at e89 (hs.hasD (k := 1) rfl)) fun a hk => ?_
        obtain ⟨y90, h91, H⟩ := bind_some H
        refine sc rfl en49 hk rfl rfl rfl (spec_l09Op_t _ (((l0.getD u14.toNat z_Txn).Ops).getD u49.toNat z_Op) _ h91) ?_
        rintro _ w ⟨rfl, hG⟩ a hk
        have hs := hs.call0 hG
        refine sbs (L := Lay.str) (pv := [(0, (.string y90))]) (xs := [y90]) (ess := [[.string y90]]) 6 hs rfl hk rfl rfl rfl un59 (bs9_6 y90) (AllOwn.cons0 ⟨rfl, rfl⟩ AllOwn.nil) rfl rfl rfl fun b92 k93 w a hk o94 hs => ?_
        rcases ite_some H with ⟨c95, H⟩ | ⟨_, H⟩
        rotate_left
        ·cases H
        refine sap 4 (xs := u50) (ys := [y90]) (flat_flat : (Lay.str).Flat) hs rfl o52 o94.view (hs.hasG (k := 6) rfl) rfl hk rfl rfl rfl rfl rfl rfl un59 mk9 rfl rfl rfl c95 fun A96 p97 k98 w a hk o99 hs => ?_
        refine sa _ rfl hk rfl rfl rfl fun a hk => ?_
        show wpList _ _ _ [] _ _
        refine wpList_nil ?_
        refine hK78 _ _ ?_
        apply wp_region_lit
        refine sm _ rfl hk rfl rfl rfl fun a hk => ?_
        refine sv (.int .i64 (w64 (u49 + 1))) hk rfl rfl rfl fun a hk => ?_
        refine sa _ rfl hk rfl rfl rfl fun a hk => ?_
        show wpList _ _ _ [] _ _
        refine wpList_nil ?_
        obtain rfl := Option.some.inj H
        obtain ⟨m100, hmm100, h67⟩ := h67
        show ∃ n', n' < _ ∧ I64 n' _ _
        refine ⟨m100, hmm100, ?_⟩
        rw [hI64]
        exact ⟨(u50 ++ ([y90])), (w64 (u49 + 1)), A96, p97, _, h67, (hk.c 0 rfl (hk.c 3 rfl (hk.c 4 rfl (hk.c 5 rfl (hk.c 6 rfl hk.k))))), (hs.pick [(2, 2), (4, 4)] rfl), o99⟩
       ·have hk := hk.lit 22 c77 rfl
        refine cnd_false hk rfl rfl ?_
        refine wp_exit ?_
        obtain rfl := Option.some.inj H
        show R63 _ _
        rw [hR63]
        exact ⟨u50, A53, p54, _, h67.symm, (hk.c 0 rfl (hk.c 3 rfl (hk.c 4 rfl (hk.c 5 rfl hk.k)))), (hs.pick [(2, 2), (4, 4)] rfl), o52⟩
     ·intro a w hR0
      rw [hR63] at hR0
      obtain ⟨u55, A58, p59, k56, rfl, hk, hs, o57⟩ := hR0
      have H := HL62
      try dsimp only at H
      refine hK41 _ _ ?_
      have hs := hs.pick [(2, 2), (4, 4)] rfl
      apply wp_region_lit
      refine sm _ rfl hk rfl rfl rfl fun a hk => ?_
      refine sm _ rfl hk rfl rfl rfl fun a hk => ?_
      obtain ⟨y101, h102, H⟩ := bind_some H
      refine sc rfl en50 hk rfl rfl rfl (spec_l00Join_t _ A58 p59 u55 _ o57.view (hs.hasG (k := 4) rfl) (⟨#[59, 32]⟩ : ByteArray) _ h102) ?_
      rintro _ w ⟨rfl, hG⟩ a hk
      have hs := hs.call0 hG
      refine sbs (L := Lay.str) (pv := [(0, (.string y101))]) (xs := [y101]) (ess := [[.string y101]]) 7 hs rfl hk rfl rfl rfl un59 (bs9_6 y101) (AllOwn.cons0 ⟨rfl, rfl⟩ AllOwn.nil) rfl rfl rfl fun b103 k104 w a hk o105 hs => ?_
      rcases ite_some H with ⟨c106, H⟩ | ⟨_, H⟩
      rotate_left
      ·cases H
      refine sap 2 (xs := u15) (ys := [y101]) (flat_flat : (Lay.str).Flat) hs rfl o17 o105.view (hs.hasG (k := 7) rfl) rfl hk rfl rfl rfl rfl rfl rfl un59 mk9 rfl rfl rfl c106 fun A107 p108 k109 w a hk o110 hs => ?_
      refine sa _ rfl hk rfl rfl rfl fun a hk => ?_
      show wpList _ _ _ [] _ _
      refine wpList_nil ?_
      refine hK36 _ _ ?_
      apply wp_region_lit
      refine sm _ rfl hk rfl rfl rfl fun a hk => ?_
      refine sv (.int .i64 (w64 (u14 + 1))) hk rfl rfl rfl fun a hk => ?_
      refine sa _ rfl hk rfl rfl rfl fun a hk => ?_
      show wpList _ _ _ [] _ _
      refine wpList_nil ?_
      obtain rfl := Option.some.inj H
      obtain ⟨m111, hmm111, h32⟩ := h32
      show ∃ n', n' < _ ∧ I29 n' _ _
      refine ⟨m111, hmm111, ?_⟩
      rw [hI29]
      exact ⟨(u15 ++ ([y101])), (w64 (u14 + 1)), A107, p108, _, h32, (hk.c 0 rfl (hk.c 3 rfl (hk.c 4 rfl hk.k))), (hs.pick [(2, 2)] rfl), o110⟩
    ·have hk := hk.lit 11 c35 rfl
     refine cnd_false hk rfl rfl ?_
     refine wp_exit ?_
     obtain rfl := Option.some.inj H
     show R28 _ _
     rw [hR28]
     exact ⟨u15, A18, p19, _, h32.symm, (hk.c 3 rfl hk.k), (hs.pick [(2, 2)] rfl), o17⟩
  ·intro a w hR0
   rw [hR28] at hR0
   obtain ⟨u20, A23, p24, k21, rfl, hk, hs, o22⟩ := hR0
   have H := HL27
   try dsimp only at H
   refine hK6 _ _ ?_
   have hs := hs.pick [(2, 2)] rfl
   apply wp_seq_k; intro K112 hK112
   apply wp_region_lit
   refine sm _ rfl hk rfl rfl rfl fun a hk => ?_
   obtain ⟨y113, h114, H⟩ := bind_some H
   refine sc rfl en50 hk rfl rfl rfl (spec_l00Join_t _ A23 p24 u20 _ o22.view (hs.hasG (k := 2) rfl) (⟨#[32, 124, 32]⟩ : ByteArray) _ h114) ?_
   rintro _ w ⟨rfl, hG⟩ a hk
   have hs := hs.call0 hG
   refine sa _ rfl hk rfl rfl rfl fun a hk => ?_
   show wpList _ _ _ [] _ _
   refine wpList_nil ?_
   refine hK112 _ _ ?_
   refine wp_ret ?_
   obtain rfl := Option.some.inj H
   exact fin hk _ [(.string y113)] rfl ⟨rfl, trivial⟩ ⟨rfl, (hs.pick [] rfl).dnil⟩

noncomputable def spec_BatchText.f (l0 : List S_Txn) : Option (ByteArray × Int) :=
  (bif (decide ((l0.length : Int) > 4096)) then (some ((⟨#[]⟩ : ByteArray), 2)) else ((spec_BatchOK.f l0).bind fun y8 => (bif (!y8) then (some ((⟨#[]⟩ : ByteArray), 1)) else ((spec_l09Text.f l0).bind fun y13 => (some (y13, 0))))))
set_option maxRecDepth 100000 in
set_option maxHeartbeats 0 in
theorem spec_BatchText_t (w0 : World) (A0_ : Option Addr) (p0_ : Nat) (l0 : List S_Txn) (k0_ : Chunk) (v0_ : View L_impl_Txn A0_ p0_ l0 k0_) (w0_ : Has w0 k0_) (r : ByteArray × Int) (H : spec_BatchText.f l0 = some r) :
    Calls Tryz.prog 12 #[.slice A0_ l0.length p0_] w0 (Ret (fun v w => v = .tuple #[.string r.1, .int .i64 r.2] ∧ Sat [] w0 w [] [])) := by
  have hs : Sat [] w0 w0 [(1, k0_)] [] := Sat.init w0 [(1, k0_)] [] (by simp only [List.mem_cons, List.not_mem_nil, or_false]; rintro x (rfl) <;> assumption) (by simp) List.nodup_nil (by simp [blks])
  unfold spec_BatchText.f at H
  refine enter Tryz.func12 rfl Tryz.ntmps12 rfl fun a hk => ?_
  apply wp_seq_k; intro K1 hK1
  apply wp_region_lit
  refine sa _ rfl hk rfl rfl rfl fun a hk => ?_
  refine sa _ rfl hk rfl rfl rfl fun a hk => ?_
  show wpList _ _ _ [] _ _
  refine wpList_nil ?_
  refine hK1 _ _ ?_
  apply wp_seq_k; intro K2 hK2
  apply wp_seq_k; intro K3 hK3
  apply wp_region_lit
  refine sm _ rfl hk rfl rfl rfl fun a hk => ?_
  refine sle rfl hk rfl rfl rfl un22 fun a hk => ?_
  refine sv (.bool (decide ((l0.length : Int) > 4096))) hk rfl rfl rfl fun a hk => ?_
  show wpList _ _ _ [] _ _
  refine wpList_nil ?_
  refine hK3 _ _ ?_
  rcases cond_some H with ⟨c4, H⟩ | ⟨c4, H⟩
  ·have hk := hk.lit 6 c4 rfl
   refine cnd_true hk rfl rfl ?_
   apply wp_seq_k; intro K5 hK5
   apply wp_region_lit
   refine sa _ rfl hk rfl rfl rfl fun a hk => ?_
   refine sa _ rfl hk rfl rfl rfl fun a hk => ?_
   show wpList _ _ _ [] _ _
   refine wpList_nil ?_
   refine hK5 _ _ ?_
   refine wp_ret ?_
   obtain rfl := Option.some.inj H
   exact fin hk _ [(.string (⟨#[]⟩ : ByteArray)), (.int .i64 2)] rfl ⟨rfl, ⟨rfl, trivial⟩⟩ ⟨rfl, (hs.pick [] rfl).dnil⟩
  ·have hk := hk.lit 6 c4 rfl
   refine cnd_false hk rfl rfl ?_
   refine wp_skip ?_
   refine hK2 _ _ ?_
   apply wp_seq_k; intro K6 hK6
   apply wp_seq_k; intro K7 hK7
   apply wp_region_lit
   refine sm _ rfl hk rfl rfl rfl fun a hk => ?_
   obtain ⟨y8, h9, H⟩ := bind_some H
   refine sc rfl en27 hk rfl rfl rfl (spec_BatchOK_t _ A0_ p0_ l0 _ v0_ (hs.hasD (k := 1) rfl) _ h9) ?_
   rintro _ w ⟨rfl, hG⟩ a hk
   have hs := hs.call0 hG
   refine sv (.bool (!y8)) hk rfl rfl rfl fun a hk => ?_
   show wpList _ _ _ [] _ _
   refine wpList_nil ?_
   refine hK7 _ _ ?_
   have hs := hs.pick [] rfl
   rcases cond_some H with ⟨c10, H⟩ | ⟨c10, H⟩
   ·have hk := hk.lit 9 c10 rfl
    refine cnd_true hk rfl rfl ?_
    apply wp_seq_k; intro K11 hK11
    apply wp_region_lit
    refine sa _ rfl hk rfl rfl rfl fun a hk => ?_
    refine sa _ rfl hk rfl rfl rfl fun a hk => ?_
    show wpList _ _ _ [] _ _
    refine wpList_nil ?_
    refine hK11 _ _ ?_
    refine wp_ret ?_
    obtain rfl := Option.some.inj H
    exact fin hk _ [(.string (⟨#[]⟩ : ByteArray)), (.int .i64 1)] rfl ⟨rfl, ⟨rfl, trivial⟩⟩ ⟨rfl, (hs.pick [] rfl).dnil⟩
   ·have hk := hk.lit 9 c10 rfl
    refine cnd_false hk rfl rfl ?_
    refine wp_skip ?_
    refine hK6 _ _ ?_
    apply wp_seq_k; intro K12 hK12
    apply wp_region_lit
    refine sm _ rfl hk rfl rfl rfl fun a hk => ?_
    obtain ⟨y13, h14, H⟩ := bind_some H
    refine sc rfl en28 hk rfl rfl rfl (spec_l09Text_t _ A0_ p0_ l0 _ v0_ (hs.hasD (k := 1) rfl) _ h14) ?_
    rintro _ w ⟨rfl, hG⟩ a hk
    have hs := hs.call0 hG
    refine sa _ rfl hk rfl rfl rfl fun a hk => ?_
    refine sa _ rfl hk rfl rfl rfl fun a hk => ?_
    show wpList _ _ _ [] _ _
    refine wpList_nil ?_
    refine hK12 _ _ ?_
    refine wp_ret ?_
    obtain rfl := Option.some.inj H
    exact fin hk _ [(.string y13), (.int .i64 0)] rfl ⟨rfl, ⟨rfl, trivial⟩⟩ ⟨rfl, (hs.pick [] rfl).dnil⟩

noncomputable def impl_OpText.f (x0 : S_Op) : Option (ByteArray × Int) :=
  ((impl_OpOK.f x0).bind fun y5 => (bif (!y5) then (some ((⟨#[]⟩ : ByteArray), 1)) else ((impl_opText.f x0).bind fun y10 => (some (y10, 0)))))
set_option maxRecDepth 100000 in
set_option maxHeartbeats 0 in
theorem impl_OpText_t (w0 : World) (x0 : S_Op) (kT : Chunk) (tT : TabR Tryz.prog kT) (wT : Has w0 kT) (r : ByteArray × Int) (H : impl_OpText.f x0 = some r) :
    Calls Tryz.prog 13 #[.agg #[.int .i64 x0.Kind, .int .i64 x0.Key, .int .i64 x0.Value]] w0 (Ret (fun v w => v = .tuple #[.string r.1, .int .i64 r.2] ∧ Sat [] w0 w [] [])) := by
  have hs : Sat [] w0 w0 [(1, kT)] [] := Sat.init w0 [(1, kT)] [] (by simp only [List.mem_cons, List.not_mem_nil, or_false]; rintro x (rfl) <;> assumption) (by simp) List.nodup_nil (by simp [blks])
  unfold impl_OpText.f at H
  refine enter Tryz.func13 rfl Tryz.ntmps13 rfl fun a hk => ?_
  apply wp_seq_k; intro K1 hK1
  apply wp_region_lit
  refine sbx 2 hs rfl hk rfl rfl rfl rfl fun b2 w a hk hs => ?_
  refine sa _ rfl hk rfl rfl rfl fun a hk => ?_
  refine sa _ rfl hk rfl rfl rfl fun a hk => ?_
  show wpList _ _ _ [] _ _
  refine wpList_nil ?_
  refine hK1 _ _ ?_
  apply wp_seq_k; intro K3 hK3
  apply wp_seq_k; intro K4 hK4
  apply wp_region_lit
  refine sln [.int .i64 x0.Kind, .int .i64 x0.Key, .int .i64 x0.Value] rfl hk rfl rfl rfl ag33 sz33 (box_cells hs (k := 2) rfl) fun a hk => ?_
  obtain ⟨y5, h6, H⟩ := bind_some H
  refine sc rfl en16 hk rfl rfl rfl (impl_OpOK_t _ x0 _ h6) ?_
  rintro _ w ⟨rfl, hG⟩ a hk
  have hs := hs.call0 hG
  refine sv (.bool (!y5)) hk rfl rfl rfl fun a hk => ?_
  show wpList _ _ _ [] _ _
  refine wpList_nil ?_
  refine hK4 _ _ ?_
  rcases cond_some H with ⟨c7, H⟩ | ⟨c7, H⟩
  ·have hk := hk.lit 6 c7 rfl
   refine cnd_true hk rfl rfl ?_
   apply wp_seq_k; intro K8 hK8
   apply wp_region_lit
   refine sa _ rfl hk rfl rfl rfl fun a hk => ?_
   refine sa _ rfl hk rfl rfl rfl fun a hk => ?_
   show wpList _ _ _ [] _ _
   refine wpList_nil ?_
   refine hK8 _ _ ?_
   refine wp_ret ?_
   obtain rfl := Option.some.inj H
   exact fin hk _ [(.string (⟨#[]⟩ : ByteArray)), (.int .i64 1)] rfl ⟨rfl, ⟨rfl, trivial⟩⟩ ⟨rfl, (hs.pick [] rfl).dnil⟩
  ·have hk := hk.lit 6 c7 rfl
   refine cnd_false hk rfl rfl ?_
   refine wp_skip ?_
   refine hK3 _ _ ?_
   apply wp_seq_k; intro K9 hK9
   apply wp_region_lit
   refine sln [.int .i64 x0.Kind, .int .i64 x0.Key, .int .i64 x0.Value] rfl hk rfl rfl rfl ag33 sz33 (box_cells hs (k := 2) rfl) fun a hk => ?_
   obtain ⟨y10, h11, H⟩ := bind_some H
   refine sc rfl en29 hk rfl rfl rfl (impl_opText_t _ x0 kT tT (hs.hasD (k := 1) rfl) _ h11) ?_
   rintro _ w ⟨rfl, hG⟩ a hk
   have hs := hs.call0 hG
   refine sa _ rfl hk rfl rfl rfl fun a hk => ?_
   refine sa _ rfl hk rfl rfl rfl fun a hk => ?_
   show wpList _ _ _ [] _ _
   refine wpList_nil ?_
   refine hK9 _ _ ?_
   have hs := hs.pick [] rfl
   refine wp_ret ?_
   obtain rfl := Option.some.inj H
   exact fin hk _ [(.string y10), (.int .i64 0)] rfl ⟨rfl, ⟨rfl, trivial⟩⟩ ⟨rfl, (hs.pick [] rfl).dnil⟩

noncomputable def impl_ReadOp.f (x0 : ByteArray) : Option (S_Op × Int) :=
  ((impl_areShort.f ([x0])).bind fun y8 => (bif (!y8) then (some ((⟨0, 0, 0⟩ : S_Op), 2)) else ((impl_readOp.f x0).bind fun y13 => (bif (!y13.2) then (some ((⟨0, 0, 0⟩ : S_Op), 3)) else (some (y13.1, 0))))))
set_option maxRecDepth 100000 in
set_option maxHeartbeats 0 in
theorem impl_ReadOp_t (w0 : World) (x0 : ByteArray) (kT : Chunk) (tT : TabR Tryz.prog kT) (wT : Has w0 kT) (r : S_Op × Int) (H : impl_ReadOp.f x0 = some r) :
    Calls Tryz.prog 14 #[.string x0] w0 (Ret (fun v w => v = .tuple #[.agg #[.int .i64 r.1.Kind, .int .i64 r.1.Key, .int .i64 r.1.Value], .int .i64 r.2] ∧ Sat [] w0 w [] [])) := by
  have hs : Sat [] w0 w0 [(1, kT)] [] := Sat.init w0 [(1, kT)] [] (by simp only [List.mem_cons, List.not_mem_nil, or_false]; rintro x (rfl) <;> assumption) (by simp) List.nodup_nil (by simp [blks])
  unfold impl_ReadOp.f at H
  refine enter Tryz.func14 rfl Tryz.ntmps14 rfl fun a hk => ?_
  apply wp_seq_k; intro K1 hK1
  apply wp_region_lit
  refine salx 2 hs rfl hk rfl rfl ze33 rfl fun b2 w a hk hs => ?_
  refine sa _ rfl hk rfl rfl rfl fun a hk => ?_
  show wpList _ _ _ [] _ _
  refine wpList_nil ?_
  refine hK1 _ _ ?_
  apply wp_seq_k; intro K3 hK3
  apply wp_seq_k; intro K4 hK4
  apply wp_region_lit
  refine sm _ rfl hk rfl rfl rfl fun a hk => ?_
  refine sbs (L := Lay.str) (pv := [(0, (.string x0))]) (xs := [x0]) (ess := [[.string x0]]) 3 hs rfl hk rfl rfl rfl un59 (bs9_6 x0) (AllOwn.cons0 ⟨rfl, rfl⟩ AllOwn.nil) rfl rfl rfl fun b5 k6 w a hk o7 hs => ?_
  obtain ⟨y8, h9, H⟩ := bind_some H
  refine sc rfl en19 hk rfl rfl rfl (impl_areShort_t _ (some ⟨b5, 0, none⟩) 1 ([x0]) _ o7.view (hs.hasG (k := 3) rfl) _ h9) ?_
  rintro _ w ⟨rfl, hG⟩ a hk
  have hs := hs.call0 hG
  refine sv (.bool (!y8)) hk rfl rfl rfl fun a hk => ?_
  show wpList _ _ _ [] _ _
  refine wpList_nil ?_
  refine hK4 _ _ ?_
  rcases cond_some H with ⟨c10, H⟩ | ⟨c10, H⟩
  ·have hk := hk.lit 9 c10 rfl
   refine cnd_true hk rfl rfl ?_
   apply wp_seq_k; intro K11 hK11
   apply wp_region_lit
   refine sbd (pv := []) rfl hk rfl rfl rfl bd33_2 fun a hk => ?_
   refine ssw 2 hs rfl rfl hk rfl rfl rfl rfl sz33 (by simp [Value.oneCell']) rfl fun w a hk hs => ?_
   refine sa _ rfl hk rfl rfl rfl fun a hk => ?_
   show wpList _ _ _ [] _ _
   refine wpList_nil ?_
   refine hK11 _ _ ?_
   refine wp_ret ?_
   obtain rfl := Option.some.inj H
   exact fin hk _ [(.agg #[.int .i64 0, .int .i64 0, .int .i64 0]), (.int .i64 2)] rfl ⟨⟨_, rfl, run_loadN ag33 sz33 (box_cells hs (k := 2) rfl)⟩, ⟨rfl, trivial⟩⟩ ⟨rfl, (hs.pick [] rfl).dnil⟩
  ·have hk := hk.lit 9 c10 rfl
   refine cnd_false hk rfl rfl ?_
   refine wp_skip ?_
   refine hK3 _ _ ?_
   apply wp_seq_k; intro K12 hK12
   apply wp_region_lit
   refine sm _ rfl hk rfl rfl rfl fun a hk => ?_
   obtain ⟨y13, h14, H⟩ := bind_some H
   refine sc rfl en30 hk rfl rfl rfl (impl_readOp_t _ x0 kT tT (hs.hasD (k := 1) rfl) _ h14) ?_
   rintro _ w ⟨rfl, hG⟩ a hk
   have hs := hs.call0 hG
   refine sm _ rfl hk rfl rfl rfl fun a hk => ?_
   refine sv (.agg #[.int .i64 y13.1.Kind, .int .i64 y13.1.Key, .int .i64 y13.1.Value]) hk rfl rfl rfl fun a hk => ?_
   refine sv (.bool y13.2) hk rfl rfl rfl fun a hk => ?_
   refine salx 4 hs rfl hk rfl rfl ze33 rfl fun b15 w a hk hs => ?_
   refine ssw 4 hs rfl rfl hk rfl rfl rfl rfl sz33 (by simp [Value.oneCell']) rfl fun w a hk hs => ?_
   refine sa _ rfl hk rfl rfl rfl fun a hk => ?_
   show wpList _ _ _ [] _ _
   refine wpList_nil ?_
   refine hK12 _ _ ?_
   have hs := hs.pick [(2, 2), (4, 4)] rfl
   apply wp_seq_k; intro K16 hK16
   apply wp_seq_k; intro K17 hK17
   apply wp_region_lit
   refine sm _ rfl hk rfl rfl rfl fun a hk => ?_
   refine sv (.bool (!y13.2)) hk rfl rfl rfl fun a hk => ?_
   show wpList _ _ _ [] _ _
   refine wpList_nil ?_
   refine hK17 _ _ ?_
   rcases cond_some H with ⟨c18, H⟩ | ⟨c18, H⟩
   ·have hk := hk.lit 17 c18 rfl
    refine cnd_true hk rfl rfl ?_
    apply wp_seq_k; intro K19 hK19
    apply wp_region_lit
    refine sbd (pv := []) rfl hk rfl rfl rfl bd33_2 fun a hk => ?_
    refine ssw 2 hs rfl rfl hk rfl rfl rfl rfl sz33 (by simp [Value.oneCell']) rfl fun w a hk hs => ?_
    refine sa _ rfl hk rfl rfl rfl fun a hk => ?_
    show wpList _ _ _ [] _ _
    refine wpList_nil ?_
    refine hK19 _ _ ?_
    refine wp_ret ?_
    obtain rfl := Option.some.inj H
    exact fin hk _ [(.agg #[.int .i64 0, .int .i64 0, .int .i64 0]), (.int .i64 3)] rfl ⟨⟨_, rfl, run_loadN ag33 sz33 (box_cells hs (k := 2) rfl)⟩, ⟨rfl, trivial⟩⟩ ⟨rfl, (hs.pick [] rfl).dnil⟩
   ·have hk := hk.lit 17 c18 rfl
    refine cnd_false hk rfl rfl ?_
    refine wp_skip ?_
    refine hK16 _ _ ?_
    apply wp_seq_k; intro K20 hK20
    apply wp_region_lit
    refine sln [.int .i64 y13.1.Kind, .int .i64 y13.1.Key, .int .i64 y13.1.Value] rfl hk rfl rfl rfl ag33 sz33 (box_cells hs (k := 4) rfl) fun a hk => ?_
    refine ssw 2 hs rfl rfl hk rfl rfl rfl rfl sz33 (by simp [Value.oneCell']) rfl fun w a hk hs => ?_
    refine sa _ rfl hk rfl rfl rfl fun a hk => ?_
    show wpList _ _ _ [] _ _
    refine wpList_nil ?_
    refine hK20 _ _ ?_
    refine wp_ret ?_
    obtain rfl := Option.some.inj H
    exact fin hk _ [(.agg #[.int .i64 y13.1.Kind, .int .i64 y13.1.Key, .int .i64 y13.1.Value]), (.int .i64 0)] rfl ⟨⟨_, rfl, run_loadN ag33 sz33 (box_cells hs (k := 2) rfl)⟩, ⟨rfl, trivial⟩⟩ ⟨rfl, (hs.pick [] rfl).dnil⟩

noncomputable def slices_EqualFunc_impl_Txn_impl_Txn_impl_Txn_impl_Txn.s0 (l0 : List S_Txn) (l1 : List S_Txn) (q2 : S_Txn → S_Txn → Option (Bool)) (u10 : Int) : Option ((Int) ⊕ Ex (Unit) (Bool)) :=
  (bif (decide (u10 < (l0.length : Int))) then (if 0 ≤ u10 ∧ u10 < (l0.length : Int) then (if 0 ≤ u10 ∧ u10 < (l1.length : Int) then ((q2 (l0.getD u10.toNat z_Txn) (l1.getD u10.toNat z_Txn)).bind fun y42 => (bif (!y42) then (some (.inr (.ret false))) else (some (.inl (w64 (u10 + 1)))))) else none) else none) else (some (.inr (.out ()))))
noncomputable def slices_EqualFunc_impl_Txn_impl_Txn_impl_Txn_impl_Txn.f (l0 : List S_Txn) (l1 : List S_Txn) (q2 : S_Txn → S_Txn → Option (Bool)) : Option (Bool) :=
  (bif ((l0.length : Int) != (l1.length : Int)) then (some false) else ((loopO (fun s => slices_EqualFunc_impl_Txn_impl_Txn_impl_Txn_impl_Txn.s0 l0 l1 q2 s) 0).bind fun o => match o with | .out _ => (some true) | .ret r => (some r)))
set_option maxRecDepth 100000 in
set_option maxHeartbeats 0 in
theorem slices_EqualFunc_impl_Txn_impl_Txn_impl_Txn_impl_Txn_t (w0 : World) (A0_ : Option Addr) (p0_ : Nat) (l0 : List S_Txn) (k0_ : Chunk) (v0_ : View L_impl_Txn A0_ p0_ l0 k0_) (w0_ : Has w0 k0_) (A1_ : Option Addr) (p1_ : Nat) (l1 : List S_Txn) (k1_ : Chunk) (v1_ : View L_impl_Txn A1_ p1_ l1 k1_) (w1_ : Has w0 k1_) (f2_ : FuncId) (c2_ : List Value) (e2_ : Enters Tryz.prog f2_) (q2 : S_Txn → S_Txn → Option (Bool)) (k2_ : Chunk) (t2_ : ∀ w, Has w k2_ → ∀ (z0 : S_Txn) (z0A0 : Option Addr) (z0p0 : Nat) (z0k0 : Chunk) (z0v0 : View L_Op z0A0 z0p0 z0.Ops z0k0) (z0w0 : Has w z0k0) (z1 : S_Txn) (z1A0 : Option Addr) (z1p0 : Nat) (z1k0 : Chunk) (z1v0 : View L_Op z1A0 z1p0 z1.Ops z1k0) (z1w0 : Has w z1k0) (r : Bool), q2 z0 z1 = some r → Calls Tryz.prog f2_ (([.agg #[.slice z0A0 z0.Ops.length z0p0], .agg #[.slice z1A0 z1.Ops.length z1p0]] : List Value) ++ c2_).toArray w (Ret (fun v w2 => v = .bool r ∧ Sat [] w w2 [] []))) (w2_ : Has w0 k2_) (r : Bool) (H : slices_EqualFunc_impl_Txn_impl_Txn_impl_Txn_impl_Txn.f l0 l1 q2 = some r) :
    Calls Tryz.prog 56 #[.slice A0_ l0.length p0_, .slice A1_ l1.length p1_, .func (.func f2_) #[] c2_.toArray] w0 (Ret (fun v w => v = .bool r ∧ Sat [] w0 w [] [])) := by
  have hs : Sat [] w0 w0 [(1, k0_), (2, k1_), (3, k2_)] [] := Sat.init w0 [(1, k0_), (2, k1_), (3, k2_)] [] (by simp only [List.mem_cons, List.not_mem_nil, or_false]; rintro x (rfl | rfl | rfl) <;> assumption) (by simp) List.nodup_nil (by simp [blks])
  unfold slices_EqualFunc_impl_Txn_impl_Txn_impl_Txn_impl_Txn.f at H
  refine enter Tryz.func56 rfl Tryz.ntmps56 rfl fun a hk => ?_
  apply wp_seq_k; intro K1 hK1
  apply wp_region_lit
  refine sa _ rfl hk rfl rfl rfl fun a hk => ?_
  show wpList _ _ _ [] _ _
  refine wpList_nil ?_
  refine hK1 _ _ ?_
  apply wp_seq_k; intro K2 hK2
  apply wp_seq_k; intro K3 hK3
  apply wp_region_lit
  refine sm _ rfl hk rfl rfl rfl fun a hk => ?_
  refine sle rfl hk rfl rfl rfl un22 fun a hk => ?_
  refine sm _ rfl hk rfl rfl rfl fun a hk => ?_
  refine sle rfl hk rfl rfl rfl un22 fun a hk => ?_
  refine sv (.bool ((l0.length : Int) != (l1.length : Int))) hk rfl rfl rfl fun a hk => ?_
  show wpList _ _ _ [] _ _
  refine wpList_nil ?_
  refine hK3 _ _ ?_
  rcases cond_some H with ⟨c4, H⟩ | ⟨c4, H⟩
  ·have hk := hk.lit 14 c4 rfl
   refine cnd_true hk rfl rfl ?_
   apply wp_seq_k; intro K5 hK5
   apply wp_region_lit
   refine sa _ rfl hk rfl rfl rfl fun a hk => ?_
   show wpList _ _ _ [] _ _
   refine wpList_nil ?_
   refine hK5 _ _ ?_
   refine wp_ret ?_
   obtain rfl := Option.some.inj H
   exact fin hk _ [(.bool false)] rfl ⟨rfl, trivial⟩ ⟨rfl, (hs.pick [] rfl).dnil⟩
  ·have hk := hk.lit 14 c4 rfl
   refine cnd_false hk rfl rfl ?_
   refine wp_skip ?_
   refine hK2 _ _ ?_
   apply wp_seq_k; intro K6 hK6
   apply wp_seq_k; intro K7 hK7
   apply wp_region_lit
   refine sm _ rfl hk rfl rfl rfl fun a hk => ?_
   refine sle rfl hk rfl rfl rfl un22 fun a hk => ?_
   refine sm _ rfl hk rfl rfl rfl fun a hk => ?_
   show wpList _ _ _ [] _ _
   refine wpList_nil ?_
   refine hK7 _ _ ?_
   have hs := hs.pick [] rfl
   obtain ⟨o11, h12, HL13⟩ := bind_some H
   clear H
   obtain ⟨R14, hR14⟩ : ∃ R : Act → World → Prop, R = fun a w => o11 = .out () ∧ Kn [] 32 a ∧ Sat [] w0 w [(1, k0_), (2, k1_), (3, k2_)] [] := ⟨_, rfl⟩
   refine wp_cutq R14 ?_ ?_
   ·refine wp_block ?_
    obtain ⟨fu16, h12⟩ := loopO_some h12
    obtain ⟨I15, hI15⟩ : ∃ I : Nat → Act → World → Prop, I = fun fu a w => ∃ (u10 : Int), loopN (fun s => slices_EqualFunc_impl_Txn_impl_Txn_impl_Txn_impl_Txn.s0 l0 l1 q2 s) fu u10 = some o11 ∧ Kn [(1, (.slice A1_ l1.length p1_)), (2, (.func (.func f2_) #[] c2_.toArray)), (15, (.slice A0_ l0.length p0_)), (16, (.int .i64 (l0.length : Int))), (17, (.int .i64 u10))] 32 a ∧ Sat [] w0 w [(1, k0_), (2, k1_), (3, k2_)] [] := ⟨_, rfl⟩
    refine wp_loop_ghost I15 fu16 ?_ ?_
    ·rw [hI15]
     exact ⟨0, h12, (hk.c 1 rfl (hk.c 2 rfl (hk.c 15 rfl (hk.c 16 rfl (hk.c 17 rfl hk.k))))), (hs.pick [] rfl)⟩
    ·clear h12 hk hs
     intro fu16 a w hI0
     rw [hI15] at hI0
     obtain ⟨u10, hi, hk, hs⟩ := hI0
     obtain ⟨x17, H, h18⟩ := loop_round hi
     try dsimp only at H
     unfold slices_EqualFunc_impl_Txn_impl_Txn_impl_Txn_impl_Txn.s0 at H
     apply wp_seq_k; intro K19 hK19
     apply wp_region_lit
     refine sv (.bool (decide (u10 < (l0.length : Int)))) hk rfl rfl rfl fun a hk => ?_
     show wpList _ _ _ [] _ _
     refine wpList_nil ?_
     refine hK19 _ _ ?_
     apply wp_seq_k; intro K20 hK20
     rcases cond_some H with ⟨c21, H⟩ | ⟨c21, H⟩
     ·have hk := hk.lit 18 c21 rfl
      refine cnd_true hk rfl rfl ?_
      refine wp_skip ?_
      refine hK20 _ _ ?_
      apply wp_seq_k; intro K22 hK22
      refine wp_block ?_
      apply wp_seq_k; intro K23 hK23
      apply wp_region_lit
      refine sm _ rfl hk rfl rfl rfl fun a hk => ?_
      rcases ite_some H with ⟨c24, H⟩ | ⟨_, H⟩
      rotate_left
      ·cases H
      obtain ⟨b25, q26, hAc24⟩ := (v0_).some_ u10 c24.1 c24.2
      refine si rfl hk rfl rfl rfl rfl un22 sz36 c24.1 c24.2 hAc24 fun a hk => ?_
      obtain ⟨_, ⟨_, rfl, A28, p29, rfl, v30⟩, e27⟩ := (v0_).at_ z_Txn u10 c24.1 c24.2
      refine sln [.slice A28 ((l0.getD u10.toNat z_Txn).Ops).length p29] rfl hk rfl rfl rfl ag36 sz36 (cells_at e27 (hs.hasD (k := 1) rfl)) fun a hk => ?_
      refine salx 5 hs rfl hk rfl rfl ze36 rfl fun b31 w a hk hs => ?_
      refine sa _ rfl hk rfl rfl rfl fun a hk => ?_
      refine ssw 5 hs rfl rfl hk rfl rfl rfl rfl sz36 (by simp [Value.oneCell']) rfl fun w a hk hs => ?_
      show wpList _ _ _ [] _ _
      refine wpList_nil ?_
      refine hK23 _ _ ?_
      apply wp_seq_k; intro K32 hK32
      apply wp_region_lit
      refine sm _ rfl hk rfl rfl rfl fun a hk => ?_
      refine sm _ rfl hk rfl rfl rfl fun a hk => ?_
      rcases ite_some H with ⟨c33, H⟩ | ⟨_, H⟩
      rotate_left
      ·cases H
      obtain ⟨b34, q35, hAc33⟩ := (v1_).some_ u10 c33.1 c33.2
      refine si rfl hk rfl rfl rfl rfl un22 sz36 c33.1 c33.2 hAc33 fun a hk => ?_
      obtain ⟨_, ⟨_, rfl, A37, p38, rfl, v39⟩, e36⟩ := (v1_).at_ z_Txn u10 c33.1 c33.2
      refine sln [.slice A37 ((l1.getD u10.toNat z_Txn).Ops).length p38] rfl hk rfl rfl rfl ag36 sz36 (cells_at e36 (hs.hasD (k := 2) rfl)) fun a hk => ?_
      refine salx 6 hs rfl hk rfl rfl ze36 rfl fun b40 w a hk hs => ?_
      refine ssw 6 hs rfl rfl hk rfl rfl rfl rfl sz36 (by simp [Value.oneCell']) rfl fun w a hk hs => ?_
      show wpList _ _ _ [] _ _
      refine wpList_nil ?_
      refine hK32 _ _ ?_
      have hs := hs.pick [(5, 5), (6, 6)] rfl
      apply wp_seq_k; intro K41 hK41
      apply wp_region_lit
      refine sm _ rfl hk rfl rfl rfl fun a hk => ?_
      refine sln [.slice A28 ((l0.getD u10.toNat z_Txn).Ops).length p29] rfl hk rfl rfl rfl ag36 sz36 (box_cells hs (k := 5) rfl) fun a hk => ?_
      refine sln [.slice A37 ((l1.getD u10.toNat z_Txn).Ops).length p38] rfl hk rfl rfl rfl ag36 sz36 (box_cells hs (k := 6) rfl) fun a hk => ?_
      obtain ⟨y42, h43, H⟩ := bind_some H
      refine scv (vs := ([(.agg #[.slice A28 ((l0.getD u10.toNat z_Txn).Ops).length p29]), (.agg #[.slice A37 ((l1.getD u10.toNat z_Txn).Ops).length p38])] : List Value) ++ c2_) rfl rfl e2_ hk rfl rfl rfl (t2_ _ (hs.hasD (k := 3) rfl) (l0.getD u10.toNat z_Txn) A28 p29 _ v30 (hs.hasD (k := 1) rfl) (l1.getD u10.toNat z_Txn) A37 p38 _ v39 (hs.hasD (k := 2) rfl) _ h43) ?_
      rintro _ w ⟨rfl, hG⟩ a hk
      have hs := hs.call0 hG
      refine sv (.bool (!y42)) hk rfl rfl rfl fun a hk => ?_
      show wpList _ _ _ [] _ _
      refine wpList_nil ?_
      refine hK41 _ _ ?_
      rcases cond_some H with ⟨c44, H⟩ | ⟨c44, H⟩
      ·have hk := hk.lit 30 c44 rfl
       refine cnd_true hk rfl rfl ?_
       apply wp_seq_k; intro K45 hK45
       apply wp_region_lit
       refine sa _ rfl hk rfl rfl rfl fun a hk => ?_
       show wpList _ _ _ [] _ _
       refine wpList_nil ?_
       refine hK45 _ _ ?_
       refine wp_ret ?_
       obtain rfl := Option.some.inj H
       have ho11 := h18
       try dsimp only at ho11
       subst ho11
       have H := HL13
       try dsimp only at H
       obtain rfl := Option.some.inj H
       exact fin hk _ [(.bool false)] rfl ⟨rfl, trivial⟩ ⟨rfl, (hs.pick [] rfl).dnil⟩
      ·have hk := hk.lit 30 c44 rfl
       refine cnd_false hk rfl rfl ?_
       refine wp_skip ?_
       refine hK22 _ _ ?_
       apply wp_region_lit
       refine sv (.int .i64 (w64 (u10 + 1))) hk rfl rfl rfl fun a hk => ?_
       refine sm _ rfl hk rfl rfl rfl fun a hk => ?_
       show wpList _ _ _ [] _ _
       refine wpList_nil ?_
       obtain rfl := Option.some.inj H
       obtain ⟨m46, hmm46, h18⟩ := h18
       show ∃ n', n' < _ ∧ I15 n' _ _
       refine ⟨m46, hmm46, ?_⟩
       rw [hI15]
       exact ⟨(w64 (u10 + 1)), h18, (hk.c 1 rfl (hk.c 2 rfl (hk.c 15 rfl (hk.c 16 rfl (hk.c 17 rfl hk.k))))), (hs.pick [] rfl)⟩
     ·have hk := hk.lit 18 c21 rfl
      refine cnd_false hk rfl rfl ?_
      refine wp_exit ?_
      obtain rfl := Option.some.inj H
      show R14 _ _
      rw [hR14]
      exact ⟨h18.symm, hk.k, (hs.pick [] rfl)⟩
   ·intro a w hR0
    rw [hR14] at hR0
    obtain ⟨rfl, hk, hs⟩ := hR0
    have H := HL13
    try dsimp only at H
    refine hK6 _ _ ?_
    apply wp_seq_k; intro K47 hK47
    apply wp_region_lit
    refine sa _ rfl hk rfl rfl rfl fun a hk => ?_
    show wpList _ _ _ [] _ _
    refine wpList_nil ?_
    refine hK47 _ _ ?_
    refine wp_ret ?_
    obtain rfl := Option.some.inj H
    exact fin hk _ [(.bool true)] rfl ⟨rfl, trivial⟩ ⟨rfl, (hs.pick [] rfl).dnil⟩

end Go.Proofs.YtfjhdkmdidadiaaGreatDoor
