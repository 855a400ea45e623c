/- Further functions. -/
import Derived.Test.YtlbbkehdfgjneaaGFDevicen1
namespace Go.Proofs.Ytlbbkehdfgjneaa
open Go Go.Z Go.Proofs Go.MuLone Go.ChangeShapes Go.WideShapes Go.ChangeAt Go.RowKit
set_option linter.unusedVariables false
set_option linter.unusedSimpArgs false
noncomputable def laws_FnDevice.f (l0 : List Int) (l1 : List Int) : Option (Bool) :=
  (((bif (decide ((l0.length : Int) > 1048576)) then (some true) else (some (decide ((l1.length : Int) > 1048576)))) : Option (Bool)).bind fun u5 => (bif u5 then (some true) else ((spec_DeviceOf.f l0).bind fun y14 => ((laws_at.f l1 0 40).bind fun y26 => ((laws_at.f l1 1 9).bind fun y29 => ((spec_BytesOf.f l1 y29).bind fun y31 => ((impl_WriteAt.f y14 y26 y31).bind fun y34 => ((impl_ReadAt.f y34.1 y26).bind fun y46 => ((impl_SyncAll.f y34.1).bind fun y49 => ((spec_FatesOf.f l1).bind fun y_r61_2_1 => ((impl_CrashWith.f y49.1 y_r61_2_1).bind fun y_r61_3_1 => ((impl_ReadAt.f (⟨y_r61_3_1.1.Sure, y_r61_3_1.1.Unsure⟩ : S_Device) y26).bind fun y64 => ((impl_CrashWith.f y34.1 ([] : List Int)).bind fun y70 => ((impl_CrashWith.f y34.1 ([1])).bind fun y85 => ((spec_FatesOf.f l0).bind fun y_r97_2_1 => ((impl_CrashWith.f y34.1 y_r97_2_1).bind fun y_r97_3_1 => ((spec_FatesOf.f l0).bind fun y_r100_2_1 => ((spec_CrashWith.f y34.1 y_r100_2_1).bind fun y_r100_3_1 => (((bif (y34.2 == 0) then (bif (y46.2 == 0) then (bif (y46.1.toList == y31.toList) then (bif (y49.2 == 0) then (bif ((y49.1.Unsure.length : Int) == 0) then (bif (y_r61_3_1.2 == 0) then (bif (y64.2 == 0) then (bif (y64.1.toList == y31.toList) then (bif (y70.2 == 0) then ((laws_sameTexts.f y70.1.Sure y14.Sure).bind fun y118 => (bif y118 then (bif (y85.2 == 0) then ((laws_sameDevice.f y85.1 y49.1).bind fun y122 => (bif y122 then (bif (y_r97_3_1.2 == 0) then ((laws_sameDevice.f (⟨y_r97_3_1.1.Sure, y_r97_3_1.1.Unsure⟩ : S_Device) (⟨y_r100_3_1.1.Sure, y_r100_3_1.1.Unsure⟩ : S_Device)).bind fun y126 => (bif y126 then ((impl_DeviceOK.f (⟨y_r97_3_1.1.Sure, y_r97_3_1.1.Unsure⟩ : S_Device)).bind fun y129 => (some y129)) else (some false))) else (some false)) else (some false))) else (some false)) else (some false))) else (some false)) else (some false)) else (some false)) else (some false)) else (some false)) else (some false)) else (some false)) else (some false)) else (some false)) : Option (Bool)).bind fun u104 => (some u104))))))))))))))))))))
set_option maxRecDepth 100000 in
set_option maxHeartbeats 0 in
theorem laws_FnDevice_t (w0 : World) (A0_ : Option Addr) (p0_ : Nat) (l0 : List Int) (k0_ : Chunk) (v0_ : View (Lay.int .u8) A0_ p0_ l0 k0_) (w0_ : Has w0 k0_) (A1_ : Option Addr) (p1_ : Nat) (l1 : List Int) (k1_ : Chunk) (v1_ : View (Lay.int .u8) A1_ p1_ l1 k1_) (w1_ : Has w0 k1_) (r : Bool) (H : laws_FnDevice.f l0 l1 = some r) :
    Calls Try.prog 7 #[.slice A0_ l0.length p0_, .slice A1_ l1.length p1_] w0 (Ret (fun v w => v = .bool r ∧ Sat [] w0 w [] [])) := by
  have hs : Sat [] w0 w0 [(1, k0_), (2, k1_)] [] := Sat.init w0 [(1, k0_), (2, k1_)] [] (by simp only [List.mem_cons, List.not_mem_nil, or_false]; rintro x (rfl | rfl) <;> assumption) (by simp) List.nodup_nil (by simp [blks])
  unfold laws_FnDevice.f at H
  refine enter Try.func7 rfl Try.ntmps7 rfl fun a hk => ?_
  apply wp_seq_k; intro K1 hK1
  apply wp_region_lit
  refine sa _ rfl hk rfl rfl rfl fun a hk => ?_
  show wpList _ _ _ [] _ _
  refine wpList_nil ?_
  refine hK1 _ _ ?_
  apply wp_seq_k; intro K2 hK2
  apply wp_seq_k; intro K3 hK3
  obtain ⟨o6, h7, HL8⟩ := bind_some H
  clear H
  obtain ⟨R9, hR9⟩ : ∃ R : Act → World → Prop, R = fun a w => ∃ (u5 : Bool), u5 = o6 ∧ Kn [(0, (.slice A0_ l0.length p0_)), (1, (.slice A1_ l1.length p1_)), (33, (.bool u5))] 166 a ∧ Sat [] w0 w [(1, k0_), (2, k1_)] [] := ⟨_, rfl⟩
  refine wp_cutq R9 ?_ ?_
  ·have H := h7
   apply wp_region_lit
   refine sm _ rfl hk rfl rfl rfl fun a hk => ?_
   refine sle rfl hk rfl rfl rfl un55 fun a hk => ?_
   refine sv (.bool (decide ((l0.length : Int) > 1048576))) hk rfl rfl rfl fun a hk => ?_
   refine sm _ rfl hk rfl rfl rfl fun a hk => ?_
   rcases cond_some H with ⟨c10, H⟩ | ⟨c10, H⟩
   ·have hk := hk.lit 29 c10 rfl
    refine sk hk rfl rfl rfl fun a hk => ?_
    refine sk hk rfl rfl rfl fun a hk => ?_
    refine sk hk rfl rfl rfl fun a hk => ?_
    refine sv (.bool true) hk rfl rfl rfl fun a hk => ?_
    show wpList _ _ _ [] _ _
    refine wpList_nil ?_
    obtain rfl := Option.some.inj H
    show R9 _ _
    rw [hR9]
    exact ⟨true, rfl, (hk.c 0 rfl (hk.c 1 rfl (hk.c 33 rfl hk.k))), (hs.pick [] rfl)⟩
   ·have hk := hk.lit 29 c10 rfl
    refine sm _ rfl hk rfl rfl rfl fun a hk => ?_
    refine sle rfl hk rfl rfl rfl un55 fun a hk => ?_
    refine sv (.bool (decide ((l1.length : Int) > 1048576))) hk rfl rfl rfl fun a hk => ?_
    refine sv (.bool (decide ((l1.length : Int) > 1048576))) hk rfl rfl rfl fun a hk => ?_
    show wpList _ _ _ [] _ _
    refine wpList_nil ?_
    obtain rfl := Option.some.inj H
    show R9 _ _
    rw [hR9]
    exact ⟨(decide ((l1.length : Int) > 1048576)), rfl, (hk.c 0 rfl (hk.c 1 rfl (hk.c 33 rfl hk.k))), (hs.pick [] rfl)⟩
  ·intro a w hR0
   rw [hR9] at hR0
   obtain ⟨u5, rfl, hk, hs⟩ := hR0
   have H := HL8
   try dsimp only at H
   refine hK3 _ _ ?_
   rcases cond_some H with ⟨c11, H⟩ | ⟨c11, H⟩
   ·have hk := hk.lit 33 c11 rfl
    refine cnd_true hk rfl rfl ?_
    apply wp_seq_k; intro K12 hK12
    apply wp_region_lit
    refine sa _ rfl hk rfl rfl rfl fun a hk => ?_
    show wpList _ _ _ [] _ _
    refine wpList_nil ?_
    refine hK12 _ _ ?_
    refine wp_ret ?_
    obtain rfl := Option.some.inj H
    exact fin hk _ [(.bool true)] rfl ⟨rfl, trivial⟩ ⟨rfl, (hs.pick [] rfl).dnil⟩
   ·have hk := hk.lit 33 c11 rfl
    refine cnd_false hk rfl rfl ?_
    refine wp_skip ?_
    refine hK2 _ _ ?_
    apply wp_seq_k; intro K13 hK13
    apply wp_region_lit
    refine sm _ rfl hk rfl rfl rfl fun a hk => ?_
    obtain ⟨y14, h15, H⟩ := bind_some H
    refine sc rfl en37 hk rfl rfl rfl (spec_DeviceOf_t _ A0_ p0_ l0 _ v0_ (hs.hasD (k := 1) rfl) _ h15) ?_
    rintro _ w ⟨A16, p17, k18, A20, p21, k22, rfl, o19, o23, hG⟩ a hk
    have hs := hs.call0k hG [4, 5] rfl
    refine salx 6 hs rfl hk rfl rfl ze67 rfl fun b24 w a hk hs => ?_
    refine ssw 6 hs rfl rfl hk rfl rfl rfl rfl sz67 (by simp [Value.oneCell']) rfl fun w a hk hs => ?_
    show wpList _ _ _ [] _ _
    refine wpList_nil ?_
    refine hK13 _ _ ?_
    have hs := hs.pick [(6, 6), (4, 4), (5, 5)] rfl
    apply wp_seq_k; intro K25 hK25
    apply wp_region_lit
    refine sm _ rfl hk rfl rfl rfl fun a hk => ?_
    obtain ⟨y26, h27, H⟩ := bind_some H
    refine sc rfl en32 hk rfl rfl rfl (laws_at_t _ A1_ p1_ l1 _ v1_ (hs.hasD (k := 2) rfl) 0 40 _ h27) ?_
    rintro _ w ⟨rfl, hG⟩ a hk
    have hs := hs.call0 hG
    refine sa _ rfl hk rfl rfl rfl fun a hk => ?_
    show wpList _ _ _ [] _ _
    refine wpList_nil ?_
    refine hK25 _ _ ?_
    apply wp_seq_k; intro K28 hK28
    apply wp_region_lit
    refine sm _ rfl hk rfl rfl rfl fun a hk => ?_
    refine sm _ rfl hk rfl rfl rfl fun a hk => ?_
    obtain ⟨y29, h30, H⟩ := bind_some H
    refine sc rfl en32 hk rfl rfl rfl (laws_at_t _ A1_ p1_ l1 _ v1_ (hs.hasD (k := 2) rfl) 1 9 _ h30) ?_
    rintro _ w ⟨rfl, hG⟩ a hk
    have hs := hs.call0 hG
    obtain ⟨y31, h32, H⟩ := bind_some H
    refine sc rfl en38 hk rfl rfl rfl (spec_BytesOf_t _ A1_ p1_ l1 _ v1_ (hs.hasD (k := 2) rfl) y29 _ h32) ?_
    rintro _ w ⟨rfl, hG⟩ a hk
    have hs := hs.call0 hG
    refine sa _ rfl hk rfl rfl rfl fun a hk => ?_
    show wpList _ _ _ [] _ _
    refine wpList_nil ?_
    refine hK28 _ _ ?_
    apply wp_seq_k; intro K33 hK33
    apply wp_region_lit
    refine sln [.slice A16 y14.Sure.length p17, .slice A20 y14.Unsure.length p21] rfl hk rfl rfl rfl ag67 sz67 (box_cells hs (k := 6) rfl) fun a hk => ?_
    refine sm _ rfl hk rfl rfl rfl fun a hk => ?_
    refine sm _ rfl hk rfl rfl rfl fun a hk => ?_
    obtain ⟨y34, h35, H⟩ := bind_some H
    refine sc rfl en39 hk rfl rfl rfl (impl_WriteAt_t _ y14 A16 p17 _ o19.view (hs.hasG (k := 4) rfl) A20 p21 _ o23.view (hs.hasG (k := 5) rfl) y26 y31 _ h35) ?_
    rintro _ w ⟨A36, p37, k38, A40, p41, k42, rfl, o39, o43, hG⟩ a hk
    have hs := hs.call0k hG [7, 8] rfl
    refine sm _ rfl hk rfl rfl rfl fun a hk => ?_
    refine sv (.agg #[.slice A36 y34.1.Sure.length p37, .slice A40 y34.1.Unsure.length p41]) hk rfl rfl rfl fun a hk => ?_
    refine sv (.int .i64 y34.2) hk rfl rfl rfl fun a hk => ?_
    refine salx 9 hs rfl hk rfl rfl ze67 rfl fun b44 w a hk hs => ?_
    refine ssw 9 hs rfl rfl hk rfl rfl rfl rfl sz67 (by simp [Value.oneCell']) rfl fun w a hk hs => ?_
    refine sa _ rfl hk rfl rfl rfl fun a hk => ?_
    show wpList _ _ _ [] _ _
    refine wpList_nil ?_
    refine hK33 _ _ ?_
    apply wp_seq_k; intro K45 hK45
    apply wp_region_lit
    refine sln [.slice A36 y34.1.Sure.length p37, .slice A40 y34.1.Unsure.length p41] rfl hk rfl rfl rfl ag67 sz67 (box_cells hs (k := 9) rfl) fun a hk => ?_
    refine sm _ rfl hk rfl rfl rfl fun a hk => ?_
    obtain ⟨y46, h47, H⟩ := bind_some H
    refine sc rfl en40 hk rfl rfl rfl (impl_ReadAt_t _ y34.1 A36 p37 _ o39.view (hs.hasG (k := 7) rfl) A40 p41 _ o43.view (hs.hasG (k := 8) rfl) y26 _ h47) ?_
    rintro _ w ⟨rfl, hG⟩ a hk
    have hs := hs.call0 hG
    refine sm _ rfl hk rfl rfl rfl fun a hk => ?_
    refine sv (.string y46.1) hk rfl rfl rfl fun a hk => ?_
    refine sv (.int .i64 y46.2) hk rfl rfl rfl fun a hk => ?_
    refine sa _ rfl hk rfl rfl rfl fun a hk => ?_
    refine sa _ rfl hk rfl rfl rfl fun a hk => ?_
    show wpList _ _ _ [] _ _
    refine wpList_nil ?_
    refine hK45 _ _ ?_
    have hs := hs.pick [(6, 6), (4, 4), (5, 5), (9, 9), (7, 7), (8, 8)] rfl
    apply wp_seq_k; intro K48 hK48
    apply wp_region_lit
    refine sln [.slice A36 y34.1.Sure.length p37, .slice A40 y34.1.Unsure.length p41] rfl hk rfl rfl rfl ag67 sz67 (box_cells hs (k := 9) rfl) fun a hk => ?_
    obtain ⟨y49, h50, H⟩ := bind_some H
    refine sc rfl en41 hk rfl rfl rfl (impl_SyncAll_t _ y34.1 A36 p37 _ o39.view (hs.hasG (k := 7) rfl) A40 p41 _ o43.view (hs.hasG (k := 8) rfl) _ h50) ?_
    rintro _ w ⟨A51, p52, k53, A55, p56, k57, rfl, o54, o58, hG⟩ a hk
    have hs := hs.call0k hG [10, 11] rfl
    refine sm _ rfl hk rfl rfl rfl fun a hk => ?_
    refine sv (.agg #[.slice A51 y49.1.Sure.length p52, .slice A55 y49.1.Unsure.length p56]) hk rfl rfl rfl fun a hk => ?_
    refine sv (.int .i64 y49.2) hk rfl rfl rfl fun a hk => ?_
    refine salx 12 hs rfl hk rfl rfl ze67 rfl fun b59 w a hk hs => ?_
    refine ssw 12 hs rfl rfl hk rfl rfl rfl rfl sz67 (by simp [Value.oneCell']) rfl fun w a hk hs => ?_
    refine sa _ rfl hk rfl rfl rfl fun a hk => ?_
    show wpList _ _ _ [] _ _
    refine wpList_nil ?_
    refine hK48 _ _ ?_
    apply wp_seq_k; intro K60 hK60
    obtain ⟨y_r61_2_1, h_r61_2_2, H⟩ := bind_some H
    obtain ⟨y_r61_3_1, h_r61_3_2, H⟩ := bind_some H
    obtain ⟨R62, hR62⟩ : ∃ R : Act → World → Prop, R = fun a w => ∃ (b_r61_7_1 : Nat) (A_r61_3_3 : Option Addr) (p_r61_3_4 : Nat) (A_r61_3_7 : Option Addr) (p_r61_3_8 : Nat) (k_r61_3_5 : Chunk) (k_r61_3_9 : Chunk), Kn [(0, (.slice A0_ l0.length p0_)), (5, (.pointer (some ⟨b24, 0, none⟩))), (6, (.int .i64 y26)), (7, (.string y31)), (8, (.pointer (some ⟨b44, 0, none⟩))), (9, (.int .i64 y34.2)), (10, (.string y46.1)), (11, (.int .i64 y46.2)), (12, (.pointer (some ⟨b59, 0, none⟩))), (13, (.int .i64 y49.2)), (14, (.pointer (some ⟨b_r61_7_1, 0, none⟩))), (15, (.int .i64 y_r61_3_1.2))] 166 a ∧ Sat [] w0 w [(1, k0_), (2, k1_)] [(6, [(b24, .cells #[.slice A16 y14.Sure.length p17, .slice A20 y14.Unsure.length p21] 67 (0, 0))]), (4, k18), (5, k22), (9, [(b44, .cells #[.slice A36 y34.1.Sure.length p37, .slice A40 y34.1.Unsure.length p41] 67 (0, 0))]), (7, k38), (8, k42), (12, [(b59, .cells #[.slice A51 y49.1.Sure.length p52, .slice A55 y49.1.Unsure.length p56] 67 (0, 0))]), (10, k53), (11, k57), (113141, [(b_r61_7_1, .cells #[.slice A_r61_3_3 y_r61_3_1.1.Sure.length p_r61_3_4, .slice A_r61_3_7 y_r61_3_1.1.Unsure.length p_r61_3_8] 67 (0, 0))]), (113061, k_r61_3_5), (113062, k_r61_3_9)] ∧ Own Lay.str 9 A_r61_3_3 p_r61_3_4 y_r61_3_1.1.Sure k_r61_3_5 ∧ Own L_Io 129 A_r61_3_7 p_r61_3_8 y_r61_3_1.1.Unsure k_r61_3_9 := ⟨_, rfl⟩
    refine wp_cutq R62 ?_ ?_
    ·skip
     refine wp_region_tree (.q 0 (.q 1 (.alt 2 (.alt 3 (.q 4 (.q 5 (.q 6 (.alt 7 (.alt 8 (.last 9) .stop) .stop)))) (.alt 7 (.alt 3 (.alt 4 (.q 5 (.q 6 (.alt 8 (.last 9) .stop))) .stop) .stop) .stop)) (.alt 7 (.alt 2 (.alt 3 (.alt 4 (.q 5 (.q 6 (.alt 8 (.last 9) .stop))) .stop) .stop) .stop) .stop)))) mo (by kernel_rfl) (hs.pick [(12, 12), (11, 11), (10, 10), (6, 6), (4, 4), (5, 5), (9, 9), (7, 7), (8, 8)] rfl) fun _ => ?_
     have hs := hs.drew
     refine tqst (.agg #[.slice A51 y49.1.Sure.length p52, .slice A55 y49.1.Unsure.length p56]) hk rfl rfl rfl rfl (fun w hs => sln [.slice A51 y49.1.Sure.length p52, .slice A55 y49.1.Unsure.length p56] rfl hk rfl rfl rfl ag67 sz67 (box_cells hs (k := 12) rfl) fun a hk => qe hk) fun a hk => ?_
     refine tqst (.slice A1_ l1.length p1_) hk rfl rfl rfl rfl (fun w hs => sm _ rfl hk rfl rfl rfl fun a hk => qe hk) fun a hk => ?_
     refine tsst hk rfl rfl (fun K_r61_2 hK_r61_2 w hF => ?_) ?_
     ·skip
      have hs := hs.f hF
      refine sc rfl en43 hk rfl rfl rfl (spec_FatesOf_t _ A1_ p1_ l1 _ v1_ (hs.hasD (k := 2) rfl) _ h_r61_2_2) ?_
      rintro _ w ⟨A_r61_2_3, p_r61_2_4, k_r61_2_5, rfl, o_r61_2_6, hG⟩ a hk
      have hs := hs.call0k hG [113041] rfl
      refine se (hs.pick [(12, 12), (11, 11), (10, 10), (6, 6), (4, 4), (5, 5), (9, 9), (7, 7), (8, 8)] rfl) hk (hK_r61_2 _ _ ?_)
      refine tsst hk rfl rfl (fun K_r61_3 hK_r61_3 w hF => ?_) ?_
      ·skip
       have hs := hs.f hF
       refine sc rfl en42 hk rfl rfl rfl (impl_CrashWith_t _ y49.1 A51 p52 _ o54.view (hs.hasG (k := 10) rfl) A55 p56 _ o58.view (hs.hasG (k := 11) rfl) A_r61_2_3 p_r61_2_4 y_r61_2_1 _ o_r61_2_6.view (hs.hasG (k := 113041) rfl) _ h_r61_3_2) ?_
       rintro _ w ⟨A_r61_3_3, p_r61_3_4, k_r61_3_5, A_r61_3_7, p_r61_3_8, k_r61_3_9, rfl, o_r61_3_6, o_r61_3_10, hG⟩ a hk
       have hs := hs.call0k hG [113061, 113062] rfl
       refine se (hs.pick [(12, 12), (11, 11), (10, 10), (6, 6), (4, 4), (5, 5), (9, 9), (7, 7), (8, 8)] rfl) hk (hK_r61_3 _ _ ?_)
       refine tqst (.tuple #[(.agg #[.slice A_r61_3_3 y_r61_3_1.1.Sure.length p_r61_3_4, .slice A_r61_3_7 y_r61_3_1.1.Unsure.length p_r61_3_8]), (.int .i64 y_r61_3_1.2)]) hk rfl rfl rfl rfl (fun w hs => sm _ rfl hk rfl rfl rfl fun a hk => qe hk) fun a hk => ?_
       refine tqst (.agg #[.slice A_r61_3_3 y_r61_3_1.1.Sure.length p_r61_3_4, .slice A_r61_3_7 y_r61_3_1.1.Unsure.length p_r61_3_8]) hk rfl rfl rfl rfl (fun w hs => sv (.agg #[.slice A_r61_3_3 y_r61_3_1.1.Sure.length p_r61_3_4, .slice A_r61_3_7 y_r61_3_1.1.Unsure.length p_r61_3_8]) hk rfl rfl rfl fun a hk => qe hk) fun a hk => ?_
       refine tqst (.int .i64 y_r61_3_1.2) hk rfl rfl rfl rfl (fun w hs => sv (.int .i64 y_r61_3_1.2) hk rfl rfl rfl fun a hk => qe hk) fun a hk => ?_
       refine tsst hk rfl rfl (fun K_r61_7 hK_r61_7 w hF => ?_) wt_stop
       have hs := hs.f hF
       refine salx 113141 hs rfl hk rfl rfl ze67 rfl fun b_r61_7_1 w a hk hs => ?_
       refine se (hs.pick [(12, 12), (11, 11), (10, 10), (6, 6), (4, 4), (5, 5), (9, 9), (7, 7), (8, 8)] rfl) hk (hK_r61_7 _ _ ?_)
       refine tsst hk rfl rfl (fun K_r61_8 hK_r61_8 w hF => ?_) wt_stop
       have hs := hs.f hF
       refine ssw 113141 hs rfl rfl hk rfl rfl rfl rfl sz67 (by simp [Value.oneCell']) rfl fun w a hk hs => ?_
       refine se (hs.pick [(12, 12), (11, 11), (10, 10), (6, 6), (4, 4), (5, 5), (9, 9), (7, 7), (8, 8)] rfl) hk (hK_r61_8 _ _ ?_)
       refine tlst hk rfl rfl fun K_r61_9 hK_r61_9 w hF => ?_
       have hs := hs.f hF
       refine sa _ rfl hk rfl rfl rfl fun a hk => ?_
       refine se trivial hk (hK_r61_9 _ _ fun w hF => ?_)
       have hs := hs.f hF
       show R62 _ _
       rw [hR62]
       exact ⟨b_r61_7_1, A_r61_3_3, p_r61_3_4, A_r61_3_7, p_r61_3_8, k_r61_3_5, k_r61_3_9, (hk.c 0 rfl (hk.c 5 rfl (hk.c 6 rfl (hk.c 7 rfl (hk.c 8 rfl (hk.c 9 rfl (hk.c 10 rfl (hk.c 11 rfl (hk.c 12 rfl (hk.c 13 rfl (hk.c 14 rfl (hk.c 15 rfl hk.k)))))))))))), (hs.pick [(6, 6), (4, 4), (5, 5), (9, 9), (7, 7), (8, 8), (12, 12), (10, 10), (11, 11), (113141, 113141), (113061, 113061), (113062, 113062)] rfl), o_r61_3_6, o_r61_3_10⟩
      refine tsst hk rfl rfl (fun K_r61_7 hK_r61_7 w hF => ?_) wt_stop
      have hs := hs.f hF
      refine salx 113141 hs rfl hk rfl rfl ze67 rfl fun b_r61_7_1 w a hk hs => ?_
      refine se (hs.pick [(12, 12), (11, 11), (10, 10), (6, 6), (4, 4), (5, 5), (9, 9), (7, 7), (8, 8)] rfl) hk (hK_r61_7 _ _ ?_)
      refine tsst hk rfl rfl (fun K_r61_3 hK_r61_3 w hF => ?_) wt_stop
      have hs := hs.f hF
      refine sc rfl en42 hk rfl rfl rfl (impl_CrashWith_t _ y49.1 A51 p52 _ o54.view (hs.hasG (k := 10) rfl) A55 p56 _ o58.view (hs.hasG (k := 11) rfl) A_r61_2_3 p_r61_2_4 y_r61_2_1 _ o_r61_2_6.view (hs.hasG (k := 113041) rfl) _ h_r61_3_2) ?_
      rintro _ w ⟨A_r61_3_3, p_r61_3_4, k_r61_3_5, A_r61_3_7, p_r61_3_8, k_r61_3_9, rfl, o_r61_3_6, o_r61_3_10, hG⟩ a hk
      have hs := hs.call0k hG [113061, 113062] rfl
      refine se (hs.pick [(12, 12), (11, 11), (10, 10), (6, 6), (4, 4), (5, 5), (9, 9), (7, 7), (8, 8)] rfl) hk (hK_r61_3 _ _ ?_)
      refine tsst hk rfl rfl (fun K_r61_4 hK_r61_4 w hF => ?_) wt_stop
      have hs := hs.f hF
      refine sm _ rfl hk rfl rfl rfl fun a hk => ?_
      refine se (hs.pick [(12, 12), (11, 11), (10, 10), (6, 6), (4, 4), (5, 5), (9, 9), (7, 7), (8, 8)] rfl) hk (hK_r61_4 _ _ ?_)
      refine tqst (.agg #[.slice A_r61_3_3 y_r61_3_1.1.Sure.length p_r61_3_4, .slice A_r61_3_7 y_r61_3_1.1.Unsure.length p_r61_3_8]) hk rfl rfl rfl rfl (fun w hs => sv (.agg #[.slice A_r61_3_3 y_r61_3_1.1.Sure.length p_r61_3_4, .slice A_r61_3_7 y_r61_3_1.1.Unsure.length p_r61_3_8]) hk rfl rfl rfl fun a hk => qe hk) fun a hk => ?_
      refine tqst (.int .i64 y_r61_3_1.2) hk rfl rfl rfl rfl (fun w hs => sv (.int .i64 y_r61_3_1.2) hk rfl rfl rfl fun a hk => qe hk) fun a hk => ?_
      refine tsst hk rfl rfl (fun K_r61_8 hK_r61_8 w hF => ?_) wt_stop
      have hs := hs.f hF
      refine ssw 113141 hs rfl rfl hk rfl rfl rfl rfl sz67 (by simp [Value.oneCell']) rfl fun w a hk hs => ?_
      refine se (hs.pick [(12, 12), (11, 11), (10, 10), (6, 6), (4, 4), (5, 5), (9, 9), (7, 7), (8, 8)] rfl) hk (hK_r61_8 _ _ ?_)
      refine tlst hk rfl rfl fun K_r61_9 hK_r61_9 w hF => ?_
      have hs := hs.f hF
      refine sa _ rfl hk rfl rfl rfl fun a hk => ?_
      refine se trivial hk (hK_r61_9 _ _ fun w hF => ?_)
      have hs := hs.f hF
      show R62 _ _
      rw [hR62]
      exact ⟨b_r61_7_1, A_r61_3_3, p_r61_3_4, A_r61_3_7, p_r61_3_8, k_r61_3_5, k_r61_3_9, (hk.c 0 rfl (hk.c 5 rfl (hk.c 6 rfl (hk.c 7 rfl (hk.c 8 rfl (hk.c 9 rfl (hk.c 10 rfl (hk.c 11 rfl (hk.c 12 rfl (hk.c 13 rfl (hk.c 14 rfl (hk.c 15 rfl hk.k)))))))))))), (hs.pick [(6, 6), (4, 4), (5, 5), (9, 9), (7, 7), (8, 8), (12, 12), (10, 10), (11, 11), (113141, 113141), (113061, 113061), (113062, 113062)] rfl), o_r61_3_6, o_r61_3_10⟩
     refine tsst hk rfl rfl (fun K_r61_7 hK_r61_7 w hF => ?_) wt_stop
     have hs := hs.f hF
     refine salx 113141 hs rfl hk rfl rfl ze67 rfl fun b_r61_7_1 w a hk hs => ?_
     refine se (hs.pick [(12, 12), (11, 11), (10, 10), (6, 6), (4, 4), (5, 5), (9, 9), (7, 7), (8, 8)] rfl) hk (hK_r61_7 _ _ ?_)
     refine tsst hk rfl rfl (fun K_r61_2 hK_r61_2 w hF => ?_) wt_stop
     have hs := hs.f hF
     refine sc rfl en43 hk rfl rfl rfl (spec_FatesOf_t _ A1_ p1_ l1 _ v1_ (hs.hasD (k := 2) rfl) _ h_r61_2_2) ?_
     rintro _ w ⟨A_r61_2_3, p_r61_2_4, k_r61_2_5, rfl, o_r61_2_6, hG⟩ a hk
     have hs := hs.call0k hG [113041] rfl
     refine se (hs.pick [(12, 12), (11, 11), (10, 10), (6, 6), (4, 4), (5, 5), (9, 9), (7, 7), (8, 8)] rfl) hk (hK_r61_2 _ _ ?_)
     refine tsst hk rfl rfl (fun K_r61_3 hK_r61_3 w hF => ?_) wt_stop
     have hs := hs.f hF
     refine sc rfl en42 hk rfl rfl rfl (impl_CrashWith_t _ y49.1 A51 p52 _ o54.view (hs.hasG (k := 10) rfl) A55 p56 _ o58.view (hs.hasG (k := 11) rfl) A_r61_2_3 p_r61_2_4 y_r61_2_1 _ o_r61_2_6.view (hs.hasG (k := 113041) rfl) _ h_r61_3_2) ?_
     rintro _ w ⟨A_r61_3_3, p_r61_3_4, k_r61_3_5, A_r61_3_7, p_r61_3_8, k_r61_3_9, rfl, o_r61_3_6, o_r61_3_10, hG⟩ a hk
     have hs := hs.call0k hG [113061, 113062] rfl
     refine se (hs.pick [(12, 12), (11, 11), (10, 10), (6, 6), (4, 4), (5, 5), (9, 9), (7, 7), (8, 8)] rfl) hk (hK_r61_3 _ _ ?_)
     refine tsst hk rfl rfl (fun K_r61_4 hK_r61_4 w hF => ?_) wt_stop
     have hs := hs.f hF
     refine sm _ rfl hk rfl rfl rfl fun a hk => ?_
     refine se (hs.pick [(12, 12), (11, 11), (10, 10), (6, 6), (4, 4), (5, 5), (9, 9), (7, 7), (8, 8)] rfl) hk (hK_r61_4 _ _ ?_)
     refine tqst (.agg #[.slice A_r61_3_3 y_r61_3_1.1.Sure.length p_r61_3_4, .slice A_r61_3_7 y_r61_3_1.1.Unsure.length p_r61_3_8]) hk rfl rfl rfl rfl (fun w hs => sv (.agg #[.slice A_r61_3_3 y_r61_3_1.1.Sure.length p_r61_3_4, .slice A_r61_3_7 y_r61_3_1.1.Unsure.length p_r61_3_8]) hk rfl rfl rfl fun a hk => qe hk) fun a hk => ?_
     refine tqst (.int .i64 y_r61_3_1.2) hk rfl rfl rfl rfl (fun w hs => sv (.int .i64 y_r61_3_1.2) hk rfl rfl rfl fun a hk => qe hk) fun a hk => ?_
     refine tsst hk rfl rfl (fun K_r61_8 hK_r61_8 w hF => ?_) wt_stop
     have hs := hs.f hF
     refine ssw 113141 hs rfl rfl hk rfl rfl rfl rfl sz67 (by simp [Value.oneCell']) rfl fun w a hk hs => ?_
     refine se (hs.pick [(12, 12), (11, 11), (10, 10), (6, 6), (4, 4), (5, 5), (9, 9), (7, 7), (8, 8)] rfl) hk (hK_r61_8 _ _ ?_)
     refine tlst hk rfl rfl fun K_r61_9 hK_r61_9 w hF => ?_
     have hs := hs.f hF
     refine sa _ rfl hk rfl rfl rfl fun a hk => ?_
     refine se trivial hk (hK_r61_9 _ _ fun w hF => ?_)
     have hs := hs.f hF
     show R62 _ _
     rw [hR62]
     exact ⟨b_r61_7_1, A_r61_3_3, p_r61_3_4, A_r61_3_7, p_r61_3_8, k_r61_3_5, k_r61_3_9, (hk.c 0 rfl (hk.c 5 rfl (hk.c 6 rfl (hk.c 7 rfl (hk.c 8 rfl (hk.c 9 rfl (hk.c 10 rfl (hk.c 11 rfl (hk.c 12 rfl (hk.c 13 rfl (hk.c 14 rfl (hk.c 15 rfl hk.k)))))))))))), (hs.pick [(6, 6), (4, 4), (5, 5), (9, 9), (7, 7), (8, 8), (12, 12), (10, 10), (11, 11), (113141, 113141), (113061, 113061), (113062, 113062)] rfl), o_r61_3_6, o_r61_3_10⟩
    ·intro a w hR0
     rw [hR62] at hR0
     obtain ⟨b_r61_7_1, A_r61_3_3, p_r61_3_4, A_r61_3_7, p_r61_3_8, k_r61_3_5, k_r61_3_9, hk, hs, o_r61_3_6, o_r61_3_10⟩ := hR0
     refine hK60 _ _ ?_
     apply wp_seq_k; intro K63 hK63
     apply wp_region_lit
     refine sln [.slice A_r61_3_3 y_r61_3_1.1.Sure.length p_r61_3_4, .slice A_r61_3_7 y_r61_3_1.1.Unsure.length p_r61_3_8] rfl hk rfl rfl rfl ag67 sz67 (box_cells hs (k := 113141) rfl) fun a hk => ?_
     refine sm _ rfl hk rfl rfl rfl fun a hk => ?_
     obtain ⟨y64, h65, H⟩ := bind_some H
     refine sc rfl en40 hk rfl rfl rfl (impl_ReadAt_t _ (⟨y_r61_3_1.1.Sure, y_r61_3_1.1.Unsure⟩ : S_Device) A_r61_3_3 p_r61_3_4 _ o_r61_3_6.view (hs.hasG (k := 113061) rfl) A_r61_3_7 p_r61_3_8 _ o_r61_3_10.view (hs.hasG (k := 113062) rfl) y26 _ h65) ?_
     rintro _ w ⟨rfl, hG⟩ a hk
     have hs := hs.call0 hG
     refine sm _ rfl hk rfl rfl rfl fun a hk => ?_
     refine sv (.string y64.1) hk rfl rfl rfl fun a hk => ?_
     refine sv (.int .i64 y64.2) hk rfl rfl rfl fun a hk => ?_
     refine sa _ rfl hk rfl rfl rfl fun a hk => ?_
     refine sa _ rfl hk rfl rfl rfl fun a hk => ?_
     show wpList _ _ _ [] _ _
     refine wpList_nil ?_
     refine hK63 _ _ ?_
     apply wp_seq_k; intro K66 hK66
     apply wp_region_lit
     refine sln [.slice A36 y34.1.Sure.length p37, .slice A40 y34.1.Unsure.length p41] rfl hk rfl rfl rfl ag67 sz67 (box_cells hs (k := 9) rfl) fun a hk => ?_
     refine sbs0 14 (Lay.int .i64) hs rfl hk rfl rfl un27 sz3 fun b67 k68 w a hk o69 hs => ?_
     obtain ⟨y70, h71, H⟩ := bind_some H
     refine sc rfl en42 hk rfl rfl rfl (impl_CrashWith_t _ y34.1 A36 p37 _ o39.view (hs.hasG (k := 7) rfl) A40 p41 _ o43.view (hs.hasG (k := 8) rfl) (some ⟨b67, 0, none⟩) 0 [] _ o69.view (hs.hasG (k := 14) rfl) _ h71) ?_
     rintro _ w ⟨A72, p73, k74, A76, p77, k78, rfl, o75, o79, hG⟩ a hk
     have hs := hs.call0k hG [15, 16] rfl
     refine sm _ rfl hk rfl rfl rfl fun a hk => ?_
     refine sv (.agg #[.slice A72 y70.1.Sure.length p73, .slice A76 y70.1.Unsure.length p77]) hk rfl rfl rfl fun a hk => ?_
     refine sv (.int .i64 y70.2) hk rfl rfl rfl fun a hk => ?_
     refine salx 17 hs rfl hk rfl rfl ze67 rfl fun b80 w a hk hs => ?_
     refine ssw 17 hs rfl rfl hk rfl rfl rfl rfl sz67 (by simp [Value.oneCell']) rfl fun w a hk hs => ?_
     refine sa _ rfl hk rfl rfl rfl fun a hk => ?_
     show wpList _ _ _ [] _ _
     refine wpList_nil ?_
     refine hK66 _ _ ?_
     have hs := hs.pick [(6, 6), (4, 4), (5, 5), (9, 9), (7, 7), (8, 8), (12, 12), (10, 10), (11, 11), (17, 17), (15, 15), (16, 16)] rfl
     apply wp_seq_k; intro K81 hK81
     apply wp_region_lit
     refine sln [.slice A36 y34.1.Sure.length p37, .slice A40 y34.1.Unsure.length p41] rfl hk rfl rfl rfl ag67 sz67 (box_cells hs (k := 9) rfl) fun a hk => ?_
     refine sbs (L := (Lay.int .i64)) (pv := [(0, (.int .i64 1))]) (xs := [1]) (ess := [[.int .i64 1]]) 18 hs rfl hk rfl rfl rfl un27 (bs3_8 1) (AllOwn.cons0 ⟨rfl, rfl⟩ AllOwn.nil) rfl rfl rfl fun b82 k83 w a hk o84 hs => ?_
     obtain ⟨y85, h86, H⟩ := bind_some H
     refine sc rfl en42 hk rfl rfl rfl (impl_CrashWith_t _ y34.1 A36 p37 _ o39.view (hs.hasG (k := 7) rfl) A40 p41 _ o43.view (hs.hasG (k := 8) rfl) (some ⟨b82, 0, none⟩) 1 ([1]) _ o84.view (hs.hasG (k := 18) rfl) _ h86) ?_
     rintro _ w ⟨A87, p88, k89, A91, p92, k93, rfl, o90, o94, hG⟩ a hk
     have hs := hs.call0k hG [19, 20] rfl
     refine sm _ rfl hk rfl rfl rfl fun a hk => ?_
     refine sv (.agg #[.slice A87 y85.1.Sure.length p88, .slice A91 y85.1.Unsure.length p92]) hk rfl rfl rfl fun a hk => ?_
     refine sv (.int .i64 y85.2) hk rfl rfl rfl fun a hk => ?_
     refine salx 21 hs rfl hk rfl rfl ze67 rfl fun b95 w a hk hs => ?_
     refine ssw 21 hs rfl rfl hk rfl rfl rfl rfl sz67 (by simp [Value.oneCell']) rfl fun w a hk hs => ?_
     refine sa _ rfl hk rfl rfl rfl fun a hk => ?_
     show wpList _ _ _ [] _ _
     refine wpList_nil ?_
     refine hK81 _ _ ?_
     apply wp_seq_k; intro K96 hK96
     obtain ⟨y_r97_2_1, h_r97_2_2, H⟩ := bind_some H
     obtain ⟨y_r97_3_1, h_r97_3_2, H⟩ := bind_some H
     obtain ⟨R98, hR98⟩ : ∃ R : Act → World → Prop, R = fun a w => ∃ (b_r97_7_1 : Nat) (A_r97_3_3 : Option Addr) (p_r97_3_4 : Nat) (A_r97_3_7 : Option Addr) (p_r97_3_8 : Nat) (k_r97_3_5 : Chunk) (k_r97_3_9 : Chunk), Kn [(0, (.slice A0_ l0.length p0_)), (5, (.pointer (some ⟨b24, 0, none⟩))), (7, (.string y31)), (8, (.pointer (some ⟨b44, 0, none⟩))), (9, (.int .i64 y34.2)), (10, (.string y46.1)), (11, (.int .i64 y46.2)), (12, (.pointer (some ⟨b59, 0, none⟩))), (13, (.int .i64 y49.2)), (15, (.int .i64 y_r61_3_1.2)), (16, (.string y64.1)), (17, (.int .i64 y64.2)), (18, (.pointer (some ⟨b80, 0, none⟩))), (19, (.int .i64 y70.2)), (20, (.pointer (some ⟨b95, 0, none⟩))), (21, (.int .i64 y85.2)), (22, (.pointer (some ⟨b_r97_7_1, 0, none⟩))), (23, (.int .i64 y_r97_3_1.2))] 166 a ∧ Sat [] w0 w [(1, k0_), (2, k1_)] [(6, [(b24, .cells #[.slice A16 y14.Sure.length p17, .slice A20 y14.Unsure.length p21] 67 (0, 0))]), (4, k18), (5, k22), (9, [(b44, .cells #[.slice A36 y34.1.Sure.length p37, .slice A40 y34.1.Unsure.length p41] 67 (0, 0))]), (7, k38), (8, k42), (12, [(b59, .cells #[.slice A51 y49.1.Sure.length p52, .slice A55 y49.1.Unsure.length p56] 67 (0, 0))]), (10, k53), (11, k57), (17, [(b80, .cells #[.slice A72 y70.1.Sure.length p73, .slice A76 y70.1.Unsure.length p77] 67 (0, 0))]), (15, k74), (16, k78), (21, [(b95, .cells #[.slice A87 y85.1.Sure.length p88, .slice A91 y85.1.Unsure.length p92] 67 (0, 0))]), (19, k89), (20, k93), (122141, [(b_r97_7_1, .cells #[.slice A_r97_3_3 y_r97_3_1.1.Sure.length p_r97_3_4, .slice A_r97_3_7 y_r97_3_1.1.Unsure.length p_r97_3_8] 67 (0, 0))]), (122061, k_r97_3_5), (122062, k_r97_3_9)] ∧ Own Lay.str 9 A_r97_3_3 p_r97_3_4 y_r97_3_1.1.Sure k_r97_3_5 ∧ Own L_Io 129 A_r97_3_7 p_r97_3_8 y_r97_3_1.1.Unsure k_r97_3_9 := ⟨_, rfl⟩
     refine wp_cutq R98 ?_ ?_
     ·skip
      refine wp_region_tree (.q 0 (.q 1 (.alt 2 (.alt 3 (.q 4 (.q 5 (.q 6 (.alt 7 (.alt 8 (.last 9) .stop) .stop)))) (.alt 7 (.alt 3 (.alt 4 (.q 5 (.q 6 (.alt 8 (.last 9) .stop))) .stop) .stop) .stop)) (.alt 7 (.alt 2 (.alt 3 (.alt 4 (.q 5 (.q 6 (.alt 8 (.last 9) .stop))) .stop) .stop) .stop) .stop)))) mo (by kernel_rfl) (hs.pick [(21, 21), (20, 20), (19, 19), (18, 18), (6, 6), (4, 4), (5, 5), (9, 9), (7, 7), (8, 8), (12, 12), (10, 10), (11, 11), (17, 17), (15, 15), (16, 16)] rfl) fun _ => ?_
      have hs := hs.drew
      refine tqst (.agg #[.slice A36 y34.1.Sure.length p37, .slice A40 y34.1.Unsure.length p41]) hk rfl rfl rfl rfl (fun w hs => sln [.slice A36 y34.1.Sure.length p37, .slice A40 y34.1.Unsure.length p41] rfl hk rfl rfl rfl ag67 sz67 (box_cells hs (k := 9) rfl) fun a hk => qe hk) fun a hk => ?_
      refine tqst (.slice A0_ l0.length p0_) hk rfl rfl rfl rfl (fun w hs => sm _ rfl hk rfl rfl rfl fun a hk => qe hk) fun a hk => ?_
      refine tsst hk rfl rfl (fun K_r97_2 hK_r97_2 w hF => ?_) ?_
      ·skip
       have hs := hs.f hF
       refine sc rfl en43 hk rfl rfl rfl (spec_FatesOf_t _ A0_ p0_ l0 _ v0_ (hs.hasD (k := 1) rfl) _ h_r97_2_2) ?_
       rintro _ w ⟨A_r97_2_3, p_r97_2_4, k_r97_2_5, rfl, o_r97_2_6, hG⟩ a hk
       have hs := hs.call0k hG [122041] rfl
       refine se (hs.pick [(21, 21), (20, 20), (19, 19), (18, 18), (6, 6), (4, 4), (5, 5), (9, 9), (7, 7), (8, 8), (12, 12), (10, 10), (11, 11), (17, 17), (15, 15), (16, 16)] rfl) hk (hK_r97_2 _ _ ?_)
       refine tsst hk rfl rfl (fun K_r97_3 hK_r97_3 w hF => ?_) ?_
       ·skip
        have hs := hs.f hF
        refine sc rfl en42 hk rfl rfl rfl (impl_CrashWith_t _ y34.1 A36 p37 _ o39.view (hs.hasG (k := 7) rfl) A40 p41 _ o43.view (hs.hasG (k := 8) rfl) A_r97_2_3 p_r97_2_4 y_r97_2_1 _ o_r97_2_6.view (hs.hasG (k := 122041) rfl) _ h_r97_3_2) ?_
        rintro _ w ⟨A_r97_3_3, p_r97_3_4, k_r97_3_5, A_r97_3_7, p_r97_3_8, k_r97_3_9, rfl, o_r97_3_6, o_r97_3_10, hG⟩ a hk
        have hs := hs.call0k hG [122061, 122062] rfl
        refine se (hs.pick [(21, 21), (20, 20), (19, 19), (18, 18), (6, 6), (4, 4), (5, 5), (9, 9), (7, 7), (8, 8), (12, 12), (10, 10), (11, 11), (17, 17), (15, 15), (16, 16)] rfl) hk (hK_r97_3 _ _ ?_)
        refine tqst (.tuple #[(.agg #[.slice A_r97_3_3 y_r97_3_1.1.Sure.length p_r97_3_4, .slice A_r97_3_7 y_r97_3_1.1.Unsure.length p_r97_3_8]), (.int .i64 y_r97_3_1.2)]) hk rfl rfl rfl rfl (fun w hs => sm _ rfl hk rfl rfl rfl fun a hk => qe hk) fun a hk => ?_
        refine tqst (.agg #[.slice A_r97_3_3 y_r97_3_1.1.Sure.length p_r97_3_4, .slice A_r97_3_7 y_r97_3_1.1.Unsure.length p_r97_3_8]) hk rfl rfl rfl rfl (fun w hs => sv (.agg #[.slice A_r97_3_3 y_r97_3_1.1.Sure.length p_r97_3_4, .slice A_r97_3_7 y_r97_3_1.1.Unsure.length p_r97_3_8]) hk rfl rfl rfl fun a hk => qe hk) fun a hk => ?_
        refine tqst (.int .i64 y_r97_3_1.2) hk rfl rfl rfl rfl (fun w hs => sv (.int .i64 y_r97_3_1.2) hk rfl rfl rfl fun a hk => qe hk) fun a hk => ?_
        refine tsst hk rfl rfl (fun K_r97_7 hK_r97_7 w hF => ?_) wt_stop
        have hs := hs.f hF
        refine salx 122141 hs rfl hk rfl rfl ze67 rfl fun b_r97_7_1 w a hk hs => ?_
        refine se (hs.pick [(21, 21), (20, 20), (19, 19), (18, 18), (6, 6), (4, 4), (5, 5), (9, 9), (7, 7), (8, 8), (12, 12), (10, 10), (11, 11), (17, 17), (15, 15), (16, 16)] rfl) hk (hK_r97_7 _ _ ?_)
        refine tsst hk rfl rfl (fun K_r97_8 hK_r97_8 w hF => ?_) wt_stop
        have hs := hs.f hF
        refine ssw 122141 hs rfl rfl hk rfl rfl rfl rfl sz67 (by simp [Value.oneCell']) rfl fun w a hk hs => ?_
        refine se (hs.pick [(21, 21), (20, 20), (19, 19), (18, 18), (6, 6), (4, 4), (5, 5), (9, 9), (7, 7), (8, 8), (12, 12), (10, 10), (11, 11), (17, 17), (15, 15), (16, 16)] rfl) hk (hK_r97_8 _ _ ?_)
        refine tlst hk rfl rfl fun K_r97_9 hK_r97_9 w hF => ?_
        have hs := hs.f hF
        refine sa _ rfl hk rfl rfl rfl fun a hk => ?_
        refine se trivial hk (hK_r97_9 _ _ fun w hF => ?_)
        have hs := hs.f hF
        show R98 _ _
        rw [hR98]
        exact ⟨b_r97_7_1, A_r97_3_3, p_r97_3_4, A_r97_3_7, p_r97_3_8, k_r97_3_5, k_r97_3_9, (hk.c 0 rfl (hk.c 5 rfl (hk.c 7 rfl (hk.c 8 rfl (hk.c 9 rfl (hk.c 10 rfl (hk.c 11 rfl (hk.c 12 rfl (hk.c 13 rfl (hk.c 15 rfl (hk.c 16 rfl (hk.c 17 rfl (hk.c 18 rfl (hk.c 19 rfl (hk.c 20 rfl (hk.c 21 rfl (hk.c 22 rfl (hk.c 23 rfl hk.k)))))))))))))))))), (hs.pick [(6, 6), (4, 4), (5, 5), (9, 9), (7, 7), (8, 8), (12, 12), (10, 10), (11, 11), (17, 17), (15, 15), (16, 16), (21, 21), (19, 19), (20, 20), (122141, 122141), (122061, 122061), (122062, 122062)] rfl), o_r97_3_6, o_r97_3_10⟩
       refine tsst hk rfl rfl (fun K_r97_7 hK_r97_7 w hF => ?_) wt_stop
       have hs := hs.f hF
       refine salx 122141 hs rfl hk rfl rfl ze67 rfl fun b_r97_7_1 w a hk hs => ?_
       refine se (hs.pick [(21, 21), (20, 20), (19, 19), (18, 18), (6, 6), (4, 4), (5, 5), (9, 9), (7, 7), (8, 8), (12, 12), (10, 10), (11, 11), (17, 17), (15, 15), (16, 16)] rfl) hk (hK_r97_7 _ _ ?_)
       refine tsst hk rfl rfl (fun K_r97_3 hK_r97_3 w hF => ?_) wt_stop
       have hs := hs.f hF
       refine sc rfl en42 hk rfl rfl rfl (impl_CrashWith_t _ y34.1 A36 p37 _ o39.view (hs.hasG (k := 7) rfl) A40 p41 _ o43.view (hs.hasG (k := 8) rfl) A_r97_2_3 p_r97_2_4 y_r97_2_1 _ o_r97_2_6.view (hs.hasG (k := 122041) rfl) _ h_r97_3_2) ?_
       rintro _ w ⟨A_r97_3_3, p_r97_3_4, k_r97_3_5, A_r97_3_7, p_r97_3_8, k_r97_3_9, rfl, o_r97_3_6, o_r97_3_10, hG⟩ a hk
       have hs := hs.call0k hG [122061, 122062] rfl
       refine se (hs.pick [(21, 21), (20, 20), (19, 19), (18, 18), (6, 6), (4, 4), (5, 5), (9, 9), (7, 7), (8, 8), (12, 12), (10, 10), (11, 11), (17, 17), (15, 15), (16, 16)] rfl) hk (hK_r97_3 _ _ ?_)
       refine tsst hk rfl rfl (fun K_r97_4 hK_r97_4 w hF => ?_) wt_stop
       have hs := hs.f hF
       refine sm _ rfl hk rfl rfl rfl fun a hk => ?_
       refine se (hs.pick [(21, 21), (20, 20), (19, 19), (18, 18), (6, 6), (4, 4), (5, 5), (9, 9), (7, 7), (8, 8), (12, 12), (10, 10), (11, 11), (17, 17), (15, 15), (16, 16)] rfl) hk (hK_r97_4 _ _ ?_)
       refine tqst (.agg #[.slice A_r97_3_3 y_r97_3_1.1.Sure.length p_r97_3_4, .slice A_r97_3_7 y_r97_3_1.1.Unsure.length p_r97_3_8]) hk rfl rfl rfl rfl (fun w hs => sv (.agg #[.slice A_r97_3_3 y_r97_3_1.1.Sure.length p_r97_3_4, .slice A_r97_3_7 y_r97_3_1.1.Unsure.length p_r97_3_8]) hk rfl rfl rfl fun a hk => qe hk) fun a hk => ?_
       refine tqst (.int .i64 y_r97_3_1.2) hk rfl rfl rfl rfl (fun w hs => sv (.int .i64 y_r97_3_1.2) hk rfl rfl rfl fun a hk => qe hk) fun a hk => ?_
       refine tsst hk rfl rfl (fun K_r97_8 hK_r97_8 w hF => ?_) wt_stop
       have hs := hs.f hF
       refine ssw 122141 hs rfl rfl hk rfl rfl rfl rfl sz67 (by simp [Value.oneCell']) rfl fun w a hk hs => ?_
       refine se (hs.pick [(21, 21), (20, 20), (19, 19), (18, 18), (6, 6), (4, 4), (5, 5), (9, 9), (7, 7), (8, 8), (12, 12), (10, 10), (11, 11), (17, 17), (15, 15), (16, 16)] rfl) hk (hK_r97_8 _ _ ?_)
       refine tlst hk rfl rfl fun K_r97_9 hK_r97_9 w hF => ?_
       have hs := hs.f hF
       refine sa _ rfl hk rfl rfl rfl fun a hk => ?_
       refine se trivial hk (hK_r97_9 _ _ fun w hF => ?_)
       have hs := hs.f hF
       show R98 _ _
       rw [hR98]
       exact ⟨b_r97_7_1, A_r97_3_3, p_r97_3_4, A_r97_3_7, p_r97_3_8, k_r97_3_5, k_r97_3_9, (hk.c 0 rfl (hk.c 5 rfl (hk.c 7 rfl (hk.c 8 rfl (hk.c 9 rfl (hk.c 10 rfl (hk.c 11 rfl (hk.c 12 rfl (hk.c 13 rfl (hk.c 15 rfl (hk.c 16 rfl (hk.c 17 rfl (hk.c 18 rfl (hk.c 19 rfl (hk.c 20 rfl (hk.c 21 rfl (hk.c 22 rfl (hk.c 23 rfl hk.k)))))))))))))))))), (hs.pick [(6, 6), (4, 4), (5, 5), (9, 9), (7, 7), (8, 8), (12, 12), (10, 10), (11, 11), (17, 17), (15, 15), (16, 16), (21, 21), (19, 19), (20, 20), (122141, 122141), (122061, 122061), (122062, 122062)] rfl), o_r97_3_6, o_r97_3_10⟩
      refine tsst hk rfl rfl (fun K_r97_7 hK_r97_7 w hF => ?_) wt_stop
      have hs := hs.f hF
      refine salx 122141 hs rfl hk rfl rfl ze67 rfl fun b_r97_7_1 w a hk hs => ?_
      refine se (hs.pick [(21, 21), (20, 20), (19, 19), (18, 18), (6, 6), (4, 4), (5, 5), (9, 9), (7, 7), (8, 8), (12, 12), (10, 10), (11, 11), (17, 17), (15, 15), (16, 16)] rfl) hk (hK_r97_7 _ _ ?_)
      refine tsst hk rfl rfl (fun K_r97_2 hK_r97_2 w hF => ?_) wt_stop
      have hs := hs.f hF
      refine sc rfl en43 hk rfl rfl rfl (spec_FatesOf_t _ A0_ p0_ l0 _ v0_ (hs.hasD (k := 1) rfl) _ h_r97_2_2) ?_
      rintro _ w ⟨A_r97_2_3, p_r97_2_4, k_r97_2_5, rfl, o_r97_2_6, hG⟩ a hk
      have hs := hs.call0k hG [122041] rfl
      refine se (hs.pick [(21, 21), (20, 20), (19, 19), (18, 18), (6, 6), (4, 4), (5, 5), (9, 9), (7, 7), (8, 8), (12, 12), (10, 10), (11, 11), (17, 17), (15, 15), (16, 16)] rfl) hk (hK_r97_2 _ _ ?_)
      refine tsst hk rfl rfl (fun K_r97_3 hK_r97_3 w hF => ?_) wt_stop
      have hs := hs.f hF
      refine sc rfl en42 hk rfl rfl rfl (impl_CrashWith_t _ y34.1 A36 p37 _ o39.view (hs.hasG (k := 7) rfl) A40 p41 _ o43.view (hs.hasG (k := 8) rfl) A_r97_2_3 p_r97_2_4 y_r97_2_1 _ o_r97_2_6.view (hs.hasG (k := 122041) rfl) _ h_r97_3_2) ?_
      rintro _ w ⟨A_r97_3_3, p_r97_3_4, k_r97_3_5, A_r97_3_7, p_r97_3_8, k_r97_3_9, rfl, o_r97_3_6, o_r97_3_10, hG⟩ a hk
      have hs := hs.call0k hG [122061, 122062] rfl
      refine se (hs.pick [(21, 21), (20, 20), (19, 19), (18, 18), (6, 6), (4, 4), (5, 5), (9, 9), (7, 7), (8, 8), (12, 12), (10, 10), (11, 11), (17, 17), (15, 15), (16, 16)] rfl) hk (hK_r97_3 _ _ ?_)
      refine tsst hk rfl rfl (fun K_r97_4 hK_r97_4 w hF => ?_) wt_stop
      have hs := hs.f hF
      refine sm _ rfl hk rfl rfl rfl fun a hk => ?_
      refine se (hs.pick [(21, 21), (20, 20), (19, 19), (18, 18), (6, 6), (4, 4), (5, 5), (9, 9), (7, 7), (8, 8), (12, 12), (10, 10), (11, 11), (17, 17), (15, 15), (16, 16)] rfl) hk (hK_r97_4 _ _ ?_)
      refine tqst (.agg #[.slice A_r97_3_3 y_r97_3_1.1.Sure.length p_r97_3_4, .slice A_r97_3_7 y_r97_3_1.1.Unsure.length p_r97_3_8]) hk rfl rfl rfl rfl (fun w hs => sv (.agg #[.slice A_r97_3_3 y_r97_3_1.1.Sure.length p_r97_3_4, .slice A_r97_3_7 y_r97_3_1.1.Unsure.length p_r97_3_8]) hk rfl rfl rfl fun a hk => qe hk) fun a hk => ?_
      refine tqst (.int .i64 y_r97_3_1.2) hk rfl rfl rfl rfl (fun w hs => sv (.int .i64 y_r97_3_1.2) hk rfl rfl rfl fun a hk => qe hk) fun a hk => ?_
      refine tsst hk rfl rfl (fun K_r97_8 hK_r97_8 w hF => ?_) wt_stop
      have hs := hs.f hF
      refine ssw 122141 hs rfl rfl hk rfl rfl rfl rfl sz67 (by simp [Value.oneCell']) rfl fun w a hk hs => ?_
      refine se (hs.pick [(21, 21), (20, 20), (19, 19), (18, 18), (6, 6), (4, 4), (5, 5), (9, 9), (7, 7), (8, 8), (12, 12), (10, 10), (11, 11), (17, 17), (15, 15), (16, 16)] rfl) hk (hK_r97_8 _ _ ?_)
      refine tlst hk rfl rfl fun K_r97_9 hK_r97_9 w hF => ?_
      have hs := hs.f hF
      refine sa _ rfl hk rfl rfl rfl fun a hk => ?_
      refine se trivial hk (hK_r97_9 _ _ fun w hF => ?_)
      have hs := hs.f hF
      show R98 _ _
      rw [hR98]
      exact ⟨b_r97_7_1, A_r97_3_3, p_r97_3_4, A_r97_3_7, p_r97_3_8, k_r97_3_5, k_r97_3_9, (hk.c 0 rfl (hk.c 5 rfl (hk.c 7 rfl (hk.c 8 rfl (hk.c 9 rfl (hk.c 10 rfl (hk.c 11 rfl (hk.c 12 rfl (hk.c 13 rfl (hk.c 15 rfl (hk.c 16 rfl (hk.c 17 rfl (hk.c 18 rfl (hk.c 19 rfl (hk.c 20 rfl (hk.c 21 rfl (hk.c 22 rfl (hk.c 23 rfl hk.k)))))))))))))))))), (hs.pick [(6, 6), (4, 4), (5, 5), (9, 9), (7, 7), (8, 8), (12, 12), (10, 10), (11, 11), (17, 17), (15, 15), (16, 16), (21, 21), (19, 19), (20, 20), (122141, 122141), (122061, 122061), (122062, 122062)] rfl), o_r97_3_6, o_r97_3_10⟩
     ·intro a w hR0
      rw [hR98] at hR0
      obtain ⟨b_r97_7_1, A_r97_3_3, p_r97_3_4, A_r97_3_7, p_r97_3_8, k_r97_3_5, k_r97_3_9, hk, hs, o_r97_3_6, o_r97_3_10⟩ := hR0
      refine hK96 _ _ ?_
      apply wp_seq_k; intro K99 hK99
      obtain ⟨y_r100_2_1, h_r100_2_2, H⟩ := bind_some H
      obtain ⟨y_r100_3_1, h_r100_3_2, H⟩ := bind_some H
      obtain ⟨R101, hR101⟩ : ∃ R : Act → World → Prop, R = fun a w => ∃ (b_r100_7_1 : Nat) (A_r100_3_3 : Option Addr) (p_r100_3_4 : Nat) (A_r100_3_7 : Option Addr) (p_r100_3_8 : Nat) (k_r100_3_5 : Chunk) (k_r100_3_9 : Chunk), Kn [(5, (.pointer (some ⟨b24, 0, none⟩))), (7, (.string y31)), (9, (.int .i64 y34.2)), (10, (.string y46.1)), (11, (.int .i64 y46.2)), (12, (.pointer (some ⟨b59, 0, none⟩))), (13, (.int .i64 y49.2)), (15, (.int .i64 y_r61_3_1.2)), (16, (.string y64.1)), (17, (.int .i64 y64.2)), (18, (.pointer (some ⟨b80, 0, none⟩))), (19, (.int .i64 y70.2)), (20, (.pointer (some ⟨b95, 0, none⟩))), (21, (.int .i64 y85.2)), (22, (.pointer (some ⟨b_r97_7_1, 0, none⟩))), (23, (.int .i64 y_r97_3_1.2)), (24, (.pointer (some ⟨b_r100_7_1, 0, none⟩)))] 166 a ∧ Sat [] w0 w [(1, k0_), (2, k1_)] [(6, [(b24, .cells #[.slice A16 y14.Sure.length p17, .slice A20 y14.Unsure.length p21] 67 (0, 0))]), (4, k18), (5, k22), (12, [(b59, .cells #[.slice A51 y49.1.Sure.length p52, .slice A55 y49.1.Unsure.length p56] 67 (0, 0))]), (10, k53), (11, k57), (17, [(b80, .cells #[.slice A72 y70.1.Sure.length p73, .slice A76 y70.1.Unsure.length p77] 67 (0, 0))]), (15, k74), (16, k78), (21, [(b95, .cells #[.slice A87 y85.1.Sure.length p88, .slice A91 y85.1.Unsure.length p92] 67 (0, 0))]), (19, k89), (20, k93), (122141, [(b_r97_7_1, .cells #[.slice A_r97_3_3 y_r97_3_1.1.Sure.length p_r97_3_4, .slice A_r97_3_7 y_r97_3_1.1.Unsure.length p_r97_3_8] 67 (0, 0))]), (122061, k_r97_3_5), (122062, k_r97_3_9), (123141, [(b_r100_7_1, .cells #[.slice A_r100_3_3 y_r100_3_1.1.Sure.length p_r100_3_4, .slice A_r100_3_7 y_r100_3_1.1.Unsure.length p_r100_3_8] 67 (0, 0))]), (123061, k_r100_3_5), (123062, k_r100_3_9)] ∧ Own Lay.str 9 A_r100_3_3 p_r100_3_4 y_r100_3_1.1.Sure k_r100_3_5 ∧ Own L_Io 129 A_r100_3_7 p_r100_3_8 y_r100_3_1.1.Unsure k_r100_3_9 := ⟨_, rfl⟩
      refine wp_cutq R101 ?_ ?_
      ·skip
       refine wp_region_tree (.q 0 (.q 1 (.alt 2 (.alt 3 (.q 4 (.q 5 (.q 6 (.alt 7 (.alt 8 (.last 9) .stop) .stop)))) (.alt 7 (.alt 3 (.alt 4 (.q 5 (.q 6 (.alt 8 (.last 9) .stop))) .stop) .stop) .stop)) (.alt 7 (.alt 2 (.alt 3 (.alt 4 (.q 5 (.q 6 (.alt 8 (.last 9) .stop))) .stop) .stop) .stop) .stop)))) mo (by kernel_rfl) (hs.pick [(6, 6), (4, 4), (5, 5), (9, 9), (7, 7), (8, 8), (12, 12), (10, 10), (11, 11), (17, 17), (15, 15), (16, 16), (21, 21), (19, 19), (20, 20), (122141, 122141), (122061, 122061), (122062, 122062)] rfl) fun _ => ?_
       have hs := hs.drew
       refine tqst (.agg #[.slice A36 y34.1.Sure.length p37, .slice A40 y34.1.Unsure.length p41]) hk rfl rfl rfl rfl (fun w hs => sln [.slice A36 y34.1.Sure.length p37, .slice A40 y34.1.Unsure.length p41] rfl hk rfl rfl rfl ag67 sz67 (box_cells hs (k := 9) rfl) fun a hk => qe hk) fun a hk => ?_
       refine tqst (.slice A0_ l0.length p0_) hk rfl rfl rfl rfl (fun w hs => sm _ rfl hk rfl rfl rfl fun a hk => qe hk) fun a hk => ?_
       refine tsst hk rfl rfl (fun K_r100_2 hK_r100_2 w hF => ?_) ?_
       ·skip
        have hs := hs.f hF
        refine sc rfl en43 hk rfl rfl rfl (spec_FatesOf_t _ A0_ p0_ l0 _ v0_ (hs.hasD (k := 1) rfl) _ h_r100_2_2) ?_
        rintro _ w ⟨A_r100_2_3, p_r100_2_4, k_r100_2_5, rfl, o_r100_2_6, hG⟩ a hk
        have hs := hs.call0k hG [123041] rfl
        refine se (hs.pick [(6, 6), (4, 4), (5, 5), (9, 9), (7, 7), (8, 8), (12, 12), (10, 10), (11, 11), (17, 17), (15, 15), (16, 16), (21, 21), (19, 19), (20, 20), (122141, 122141), (122061, 122061), (122062, 122062)] rfl) hk (hK_r100_2 _ _ ?_)
        refine tsst hk rfl rfl (fun K_r100_3 hK_r100_3 w hF => ?_) ?_
        ·skip
         have hs := hs.f hF
         refine sc rfl en44 hk rfl rfl rfl (spec_CrashWith_t _ y34.1 A36 p37 _ o39.view (hs.hasG (k := 7) rfl) A40 p41 _ o43.view (hs.hasG (k := 8) rfl) A_r100_2_3 p_r100_2_4 y_r100_2_1 _ o_r100_2_6.view (hs.hasG (k := 123041) rfl) _ h_r100_3_2) ?_
         rintro _ w ⟨A_r100_3_3, p_r100_3_4, k_r100_3_5, A_r100_3_7, p_r100_3_8, k_r100_3_9, rfl, o_r100_3_6, o_r100_3_10, hG⟩ a hk
         have hs := hs.call0k hG [123061, 123062] rfl
         refine se (hs.pick [(6, 6), (4, 4), (5, 5), (9, 9), (7, 7), (8, 8), (12, 12), (10, 10), (11, 11), (17, 17), (15, 15), (16, 16), (21, 21), (19, 19), (20, 20), (122141, 122141), (122061, 122061), (122062, 122062)] rfl) hk (hK_r100_3 _ _ ?_)
         refine tqst (.tuple #[(.agg #[.slice A_r100_3_3 y_r100_3_1.1.Sure.length p_r100_3_4, .slice A_r100_3_7 y_r100_3_1.1.Unsure.length p_r100_3_8]), (.int .i64 y_r100_3_1.2)]) hk rfl rfl rfl rfl (fun w hs => sm _ rfl hk rfl rfl rfl fun a hk => qe hk) fun a hk => ?_
         refine tqst (.agg #[.slice A_r100_3_3 y_r100_3_1.1.Sure.length p_r100_3_4, .slice A_r100_3_7 y_r100_3_1.1.Unsure.length p_r100_3_8]) hk rfl rfl rfl rfl (fun w hs => sv (.agg #[.slice A_r100_3_3 y_r100_3_1.1.Sure.length p_r100_3_4, .slice A_r100_3_7 y_r100_3_1.1.Unsure.length p_r100_3_8]) hk rfl rfl rfl fun a hk => qe hk) fun a hk => ?_
         refine tqst (.int .i64 y_r100_3_1.2) hk rfl rfl rfl rfl (fun w hs => sv (.int .i64 y_r100_3_1.2) hk rfl rfl rfl fun a hk => qe hk) fun a hk => ?_
         refine tsst hk rfl rfl (fun K_r100_7 hK_r100_7 w hF => ?_) wt_stop
         have hs := hs.f hF
         refine salx 123141 hs rfl hk rfl rfl ze67 rfl fun b_r100_7_1 w a hk hs => ?_
         refine se (hs.pick [(6, 6), (4, 4), (5, 5), (9, 9), (7, 7), (8, 8), (12, 12), (10, 10), (11, 11), (17, 17), (15, 15), (16, 16), (21, 21), (19, 19), (20, 20), (122141, 122141), (122061, 122061), (122062, 122062)] rfl) hk (hK_r100_7 _ _ ?_)
         refine tsst hk rfl rfl (fun K_r100_8 hK_r100_8 w hF => ?_) wt_stop
         have hs := hs.f hF
         refine ssw 123141 hs rfl rfl hk rfl rfl rfl rfl sz67 (by simp [Value.oneCell']) rfl fun w a hk hs => ?_
         refine se (hs.pick [(6, 6), (4, 4), (5, 5), (9, 9), (7, 7), (8, 8), (12, 12), (10, 10), (11, 11), (17, 17), (15, 15), (16, 16), (21, 21), (19, 19), (20, 20), (122141, 122141), (122061, 122061), (122062, 122062)] rfl) hk (hK_r100_8 _ _ ?_)
         refine tlst hk rfl rfl fun K_r100_9 hK_r100_9 w hF => ?_
         have hs := hs.f hF
         refine sa _ rfl hk rfl rfl rfl fun a hk => ?_
         refine se trivial hk (hK_r100_9 _ _ fun w hF => ?_)
         have hs := hs.f hF
         show R101 _ _
         rw [hR101]
         exact ⟨b_r100_7_1, A_r100_3_3, p_r100_3_4, A_r100_3_7, p_r100_3_8, k_r100_3_5, k_r100_3_9, (hk.c 5 rfl (hk.c 7 rfl (hk.c 9 rfl (hk.c 10 rfl (hk.c 11 rfl (hk.c 12 rfl (hk.c 13 rfl (hk.c 15 rfl (hk.c 16 rfl (hk.c 17 rfl (hk.c 18 rfl (hk.c 19 rfl (hk.c 20 rfl (hk.c 21 rfl (hk.c 22 rfl (hk.c 23 rfl (hk.c 24 rfl hk.k))))))))))))))))), (hs.pick [(6, 6), (4, 4), (5, 5), (12, 12), (10, 10), (11, 11), (17, 17), (15, 15), (16, 16), (21, 21), (19, 19), (20, 20), (122141, 122141), (122061, 122061), (122062, 122062), (123141, 123141), (123061, 123061), (123062, 123062)] rfl), o_r100_3_6, o_r100_3_10⟩
        refine tsst hk rfl rfl (fun K_r100_7 hK_r100_7 w hF => ?_) wt_stop
        have hs := hs.f hF
        refine salx 123141 hs rfl hk rfl rfl ze67 rfl fun b_r100_7_1 w a hk hs => ?_
        refine se (hs.pick [(6, 6), (4, 4), (5, 5), (9, 9), (7, 7), (8, 8), (12, 12), (10, 10), (11, 11), (17, 17), (15, 15), (16, 16), (21, 21), (19, 19), (20, 20), (122141, 122141), (122061, 122061), (122062, 122062)] rfl) hk (hK_r100_7 _ _ ?_)
        refine tsst hk rfl rfl (fun K_r100_3 hK_r100_3 w hF => ?_) wt_stop
        have hs := hs.f hF
        refine sc rfl en44 hk rfl rfl rfl (spec_CrashWith_t _ y34.1 A36 p37 _ o39.view (hs.hasG (k := 7) rfl) A40 p41 _ o43.view (hs.hasG (k := 8) rfl) A_r100_2_3 p_r100_2_4 y_r100_2_1 _ o_r100_2_6.view (hs.hasG (k := 123041) rfl) _ h_r100_3_2) ?_
        rintro _ w ⟨A_r100_3_3, p_r100_3_4, k_r100_3_5, A_r100_3_7, p_r100_3_8, k_r100_3_9, rfl, o_r100_3_6, o_r100_3_10, hG⟩ a hk
        have hs := hs.call0k hG [123061, 123062] rfl
        refine se (hs.pick [(6, 6), (4, 4), (5, 5), (9, 9), (7, 7), (8, 8), (12, 12), (10, 10), (11, 11), (17, 17), (15, 15), (16, 16), (21, 21), (19, 19), (20, 20), (122141, 122141), (122061, 122061), (122062, 122062)] rfl) hk (hK_r100_3 _ _ ?_)
        refine tsst hk rfl rfl (fun K_r100_4 hK_r100_4 w hF => ?_) wt_stop
        have hs := hs.f hF
        refine sm _ rfl hk rfl rfl rfl fun a hk => ?_
        refine se (hs.pick [(6, 6), (4, 4), (5, 5), (9, 9), (7, 7), (8, 8), (12, 12), (10, 10), (11, 11), (17, 17), (15, 15), (16, 16), (21, 21), (19, 19), (20, 20), (122141, 122141), (122061, 122061), (122062, 122062)] rfl) hk (hK_r100_4 _ _ ?_)
        refine tqst (.agg #[.slice A_r100_3_3 y_r100_3_1.1.Sure.length p_r100_3_4, .slice A_r100_3_7 y_r100_3_1.1.Unsure.length p_r100_3_8]) hk rfl rfl rfl rfl (fun w hs => sv (.agg #[.slice A_r100_3_3 y_r100_3_1.1.Sure.length p_r100_3_4, .slice A_r100_3_7 y_r100_3_1.1.Unsure.length p_r100_3_8]) hk rfl rfl rfl fun a hk => qe hk) fun a hk => ?_
        refine tqst (.int .i64 y_r100_3_1.2) hk rfl rfl rfl rfl (fun w hs => sv (.int .i64 y_r100_3_1.2) hk rfl rfl rfl fun a hk => qe hk) fun a hk => ?_
        refine tsst hk rfl rfl (fun K_r100_8 hK_r100_8 w hF => ?_) wt_stop
        have hs := hs.f hF
        refine ssw 123141 hs rfl rfl hk rfl rfl rfl rfl sz67 (by simp [Value.oneCell']) rfl fun w a hk hs => ?_
        refine se (hs.pick [(6, 6), (4, 4), (5, 5), (9, 9), (7, 7), (8, 8), (12, 12), (10, 10), (11, 11), (17, 17), (15, 15), (16, 16), (21, 21), (19, 19), (20, 20), (122141, 122141), (122061, 122061), (122062, 122062)] rfl) hk (hK_r100_8 _ _ ?_)
        refine tlst hk rfl rfl fun K_r100_9 hK_r100_9 w hF => ?_
        have hs := hs.f hF
        refine sa _ rfl hk rfl rfl rfl fun a hk => ?_
        refine se trivial hk (hK_r100_9 _ _ fun w hF => ?_)
        have hs := hs.f hF
        show R101 _ _
        rw [hR101]
        exact ⟨b_r100_7_1, A_r100_3_3, p_r100_3_4, A_r100_3_7, p_r100_3_8, k_r100_3_5, k_r100_3_9, (hk.c 5 rfl (hk.c 7 rfl (hk.c 9 rfl (hk.c 10 rfl (hk.c 11 rfl (hk.c 12 rfl (hk.c 13 rfl (hk.c 15 rfl (hk.c 16 rfl (hk.c 17 rfl (hk.c 18 rfl (hk.c 19 rfl (hk.c 20 rfl (hk.c 21 rfl (hk.c 22 rfl (hk.c 23 rfl (hk.c 24 rfl hk.k))))))))))))))))), (hs.pick [(6, 6), (4, 4), (5, 5), (12, 12), (10, 10), (11, 11), (17, 17), (15, 15), (16, 16), (21, 21), (19, 19), (20, 20), (122141, 122141), (122061, 122061), (122062, 122062), (123141, 123141), (123061, 123061), (123062, 123062)] rfl), o_r100_3_6, o_r100_3_10⟩
       refine tsst hk rfl rfl (fun K_r100_7 hK_r100_7 w hF => ?_) wt_stop
       have hs := hs.f hF
       refine salx 123141 hs rfl hk rfl rfl ze67 rfl fun b_r100_7_1 w a hk hs => ?_
       refine se (hs.pick [(6, 6), (4, 4), (5, 5), (9, 9), (7, 7), (8, 8), (12, 12), (10, 10), (11, 11), (17, 17), (15, 15), (16, 16), (21, 21), (19, 19), (20, 20), (122141, 122141), (122061, 122061), (122062, 122062)] rfl) hk (hK_r100_7 _ _ ?_)
       refine tsst hk rfl rfl (fun K_r100_2 hK_r100_2 w hF => ?_) wt_stop
       have hs := hs.f hF
       refine sc rfl en43 hk rfl rfl rfl (spec_FatesOf_t _ A0_ p0_ l0 _ v0_ (hs.hasD (k := 1) rfl) _ h_r100_2_2) ?_
       rintro _ w ⟨A_r100_2_3, p_r100_2_4, k_r100_2_5, rfl, o_r100_2_6, hG⟩ a hk
       have hs := hs.call0k hG [123041] rfl
       refine se (hs.pick [(6, 6), (4, 4), (5, 5), (9, 9), (7, 7), (8, 8), (12, 12), (10, 10), (11, 11), (17, 17), (15, 15), (16, 16), (21, 21), (19, 19), (20, 20), (122141, 122141), (122061, 122061), (122062, 122062)] rfl) hk (hK_r100_2 _ _ ?_)
       refine tsst hk rfl rfl (fun K_r100_3 hK_r100_3 w hF => ?_) wt_stop
       have hs := hs.f hF
       refine sc rfl en44 hk rfl rfl rfl (spec_CrashWith_t _ y34.1 A36 p37 _ o39.view (hs.hasG (k := 7) rfl) A40 p41 _ o43.view (hs.hasG (k := 8) rfl) A_r100_2_3 p_r100_2_4 y_r100_2_1 _ o_r100_2_6.view (hs.hasG (k := 123041) rfl) _ h_r100_3_2) ?_
       rintro _ w ⟨A_r100_3_3, p_r100_3_4, k_r100_3_5, A_r100_3_7, p_r100_3_8, k_r100_3_9, rfl, o_r100_3_6, o_r100_3_10, hG⟩ a hk
       have hs := hs.call0k hG [123061, 123062] rfl
       refine se (hs.pick [(6, 6), (4, 4), (5, 5), (9, 9), (7, 7), (8, 8), (12, 12), (10, 10), (11, 11), (17, 17), (15, 15), (16, 16), (21, 21), (19, 19), (20, 20), (122141, 122141), (122061, 122061), (122062, 122062)] rfl) hk (hK_r100_3 _ _ ?_)
       refine tsst hk rfl rfl (fun K_r100_4 hK_r100_4 w hF => ?_) wt_stop
       have hs := hs.f hF
       refine sm _ rfl hk rfl rfl rfl fun a hk => ?_
       refine se (hs.pick [(6, 6), (4, 4), (5, 5), (9, 9), (7, 7), (8, 8), (12, 12), (10, 10), (11, 11), (17, 17), (15, 15), (16, 16), (21, 21), (19, 19), (20, 20), (122141, 122141), (122061, 122061), (122062, 122062)] rfl) hk (hK_r100_4 _ _ ?_)
       refine tqst (.agg #[.slice A_r100_3_3 y_r100_3_1.1.Sure.length p_r100_3_4, .slice A_r100_3_7 y_r100_3_1.1.Unsure.length p_r100_3_8]) hk rfl rfl rfl rfl (fun w hs => sv (.agg #[.slice A_r100_3_3 y_r100_3_1.1.Sure.length p_r100_3_4, .slice A_r100_3_7 y_r100_3_1.1.Unsure.length p_r100_3_8]) hk rfl rfl rfl fun a hk => qe hk) fun a hk => ?_
       refine tqst (.int .i64 y_r100_3_1.2) hk rfl rfl rfl rfl (fun w hs => sv (.int .i64 y_r100_3_1.2) hk rfl rfl rfl fun a hk => qe hk) fun a hk => ?_
       refine tsst hk rfl rfl (fun K_r100_8 hK_r100_8 w hF => ?_) wt_stop
       have hs := hs.f hF
       refine ssw 123141 hs rfl rfl hk rfl rfl rfl rfl sz67 (by simp [Value.oneCell']) rfl fun w a hk hs => ?_
       refine se (hs.pick [(6, 6), (4, 4), (5, 5), (9, 9), (7, 7), (8, 8), (12, 12), (10, 10), (11, 11), (17, 17), (15, 15), (16, 16), (21, 21), (19, 19), (20, 20), (122141, 122141), (122061, 122061), (122062, 122062)] rfl) hk (hK_r100_8 _ _ ?_)
       refine tlst hk rfl rfl fun K_r100_9 hK_r100_9 w hF => ?_
       have hs := hs.f hF
       refine sa _ rfl hk rfl rfl rfl fun a hk => ?_
       refine se trivial hk (hK_r100_9 _ _ fun w hF => ?_)
       have hs := hs.f hF
       show R101 _ _
       rw [hR101]
       exact ⟨b_r100_7_1, A_r100_3_3, p_r100_3_4, A_r100_3_7, p_r100_3_8, k_r100_3_5, k_r100_3_9, (hk.c 5 rfl (hk.c 7 rfl (hk.c 9 rfl (hk.c 10 rfl (hk.c 11 rfl (hk.c 12 rfl (hk.c 13 rfl (hk.c 15 rfl (hk.c 16 rfl (hk.c 17 rfl (hk.c 18 rfl (hk.c 19 rfl (hk.c 20 rfl (hk.c 21 rfl (hk.c 22 rfl (hk.c 23 rfl (hk.c 24 rfl hk.k))))))))))))))))), (hs.pick [(6, 6), (4, 4), (5, 5), (12, 12), (10, 10), (11, 11), (17, 17), (15, 15), (16, 16), (21, 21), (19, 19), (20, 20), (122141, 122141), (122061, 122061), (122062, 122062), (123141, 123141), (123061, 123061), (123062, 123062)] rfl), o_r100_3_6, o_r100_3_10⟩
      ·intro a w hR0
       rw [hR101] at hR0
       obtain ⟨b_r100_7_1, A_r100_3_3, p_r100_3_4, A_r100_3_7, p_r100_3_8, k_r100_3_5, k_r100_3_9, hk, hs, o_r100_3_6, o_r100_3_10⟩ := hR0
       refine hK99 _ _ ?_
       apply wp_seq_k; intro K102 hK102
       obtain ⟨o105, h106, HL107⟩ := bind_some H
       clear H
       obtain ⟨R108, hR108⟩ : ∃ R : Act → World → Prop, R = fun a w => ∃ (u104 : Bool), u104 = o105 ∧ Kn [(4, (.bool u104))] 166 a ∧ Sat [] w0 w [(1, k0_), (2, k1_)] [] := ⟨_, rfl⟩
       refine wp_cutq R108 ?_ ?_
       ·have H := h106
        apply wp_region_lit
        refine sm _ rfl hk rfl rfl rfl fun a hk => ?_
        refine sv (.bool (y34.2 == 0)) hk rfl rfl rfl fun a hk => ?_
        refine sm _ rfl hk rfl rfl rfl fun a hk => ?_
        rcases cond_some H with ⟨c109, H⟩ | ⟨c109, H⟩
        ·have hk := hk.lit 101 c109 rfl
         refine sm _ rfl hk rfl rfl rfl fun a hk => ?_
         refine sv (.bool (y46.2 == 0)) hk rfl rfl rfl fun a hk => ?_
         refine sv (.bool (y46.2 == 0)) hk rfl rfl rfl fun a hk => ?_
         refine sm _ rfl hk rfl rfl rfl fun a hk => ?_
         rcases cond_some H with ⟨c110, H⟩ | ⟨c110, H⟩
         ·have hk := hk.lit 105 c110 rfl
          refine sm _ rfl hk rfl rfl rfl fun a hk => ?_
          refine sm _ rfl hk rfl rfl rfl fun a hk => ?_
          refine sv (.bool (y46.1.toList == y31.toList)) hk rfl rfl rfl fun a hk => ?_
          refine sv (.bool (y46.1.toList == y31.toList)) hk rfl rfl rfl fun a hk => ?_
          refine sm _ rfl hk rfl rfl rfl fun a hk => ?_
          rcases cond_some H with ⟨c111, H⟩ | ⟨c111, H⟩
          ·have hk := hk.lit 110 c111 rfl
           refine sm _ rfl hk rfl rfl rfl fun a hk => ?_
           refine sv (.bool (y49.2 == 0)) hk rfl rfl rfl fun a hk => ?_
           refine sv (.bool (y49.2 == 0)) hk rfl rfl rfl fun a hk => ?_
           refine sm _ rfl hk rfl rfl rfl fun a hk => ?_
           rcases cond_some H with ⟨c112, H⟩ | ⟨c112, H⟩
           ·have hk := hk.lit 114 c112 rfl
            refine sf ⟨b59, 1, none⟩ rfl hk rfl rfl rfl fd67_1 rfl fun a hk => ?_
            refine sl rfl hk rfl rfl rfl ag65 (box_cell hs (k := 12) rfl rfl) fun a hk => ?_
            refine sle rfl hk rfl rfl rfl un65 fun a hk => ?_
            refine sv (.bool ((y49.1.Unsure.length : Int) == 0)) hk rfl rfl rfl fun a hk => ?_
            refine sv (.bool ((y49.1.Unsure.length : Int) == 0)) hk rfl rfl rfl fun a hk => ?_
            refine sm _ rfl hk rfl rfl rfl fun a hk => ?_
            rcases cond_some H with ⟨c113, H⟩ | ⟨c113, H⟩
            ·have hk := hk.lit 120 c113 rfl
             refine sm _ rfl hk rfl rfl rfl fun a hk => ?_
             refine sv (.bool (y_r61_3_1.2 == 0)) hk rfl rfl rfl fun a hk => ?_
             refine sv (.bool (y_r61_3_1.2 == 0)) hk rfl rfl rfl fun a hk => ?_
             refine sm _ rfl hk rfl rfl rfl fun a hk => ?_
             rcases cond_some H with ⟨c114, H⟩ | ⟨c114, H⟩
             ·have hk := hk.lit 124 c114 rfl
              refine sm _ rfl hk rfl rfl rfl fun a hk => ?_
              refine sv (.bool (y64.2 == 0)) hk rfl rfl rfl fun a hk => ?_
              refine sv (.bool (y64.2 == 0)) hk rfl rfl rfl fun a hk => ?_
              refine sm _ rfl hk rfl rfl rfl fun a hk => ?_
              rcases cond_some H with ⟨c115, H⟩ | ⟨c115, H⟩
              ·have hk := hk.lit 128 c115 rfl
               refine sm _ rfl hk rfl rfl rfl fun a hk => ?_
               refine sm _ rfl hk rfl rfl rfl fun a hk => ?_
               refine sv (.bool (y64.1.toList == y31.toList)) hk rfl rfl rfl fun a hk => ?_
               refine sv (.bool (y64.1.toList == y31.toList)) hk rfl rfl rfl fun a hk => ?_
               refine sm _ rfl hk rfl rfl rfl fun a hk => ?_
               rcases cond_some H with ⟨c116, H⟩ | ⟨c116, H⟩
               ·have hk := hk.lit 133 c116 rfl
                refine sm _ rfl hk rfl rfl rfl fun a hk => ?_
                refine sv (.bool (y70.2 == 0)) hk rfl rfl rfl fun a hk => ?_
                refine sv (.bool (y70.2 == 0)) hk rfl rfl rfl fun a hk => ?_
                refine sm _ rfl hk rfl rfl rfl fun a hk => ?_
                rcases cond_some H with ⟨c117, H⟩ | ⟨c117, H⟩
                ·have hk := hk.lit 137 c117 rfl
                 refine sf ⟨b80, 0, none⟩ rfl hk rfl rfl rfl fd67_0 rfl fun a hk => ?_
                 refine sl rfl hk rfl rfl rfl ag64 (box_cell hs (k := 17) rfl rfl) fun a hk => ?_
                 refine sf ⟨b24, 0, none⟩ rfl hk rfl rfl rfl fd67_0 rfl fun a hk => ?_
                 refine sl rfl hk rfl rfl rfl ag64 (box_cell hs (k := 6) rfl rfl) fun a hk => ?_
                 obtain ⟨y118, h119, H⟩ := bind_some H
                 refine sc rfl en45 hk rfl rfl rfl (laws_sameTexts_t _ A72 p73 y70.1.Sure _ o75.view (hs.hasG (k := 15) rfl) A16 p17 y14.Sure _ o19.view (hs.hasG (k := 4) rfl) _ h119) ?_
                 rintro _ w ⟨rfl, hG⟩ a hk
                 have hs := hs.call0 hG
                 refine sv (.bool y118) hk rfl rfl rfl fun a hk => ?_
                 refine sm _ rfl hk rfl rfl rfl fun a hk => ?_
                 rcases cond_some H with ⟨c120, H⟩ | ⟨c120, H⟩
                 ·have hk := hk.lit 144 c120 rfl
                  refine sm _ rfl hk rfl rfl rfl fun a hk => ?_
                  refine sv (.bool (y85.2 == 0)) hk rfl rfl rfl fun a hk => ?_
                  refine sv (.bool (y85.2 == 0)) hk rfl rfl rfl fun a hk => ?_
                  refine sm _ rfl hk rfl rfl rfl fun a hk => ?_
                  rcases cond_some H with ⟨c121, H⟩ | ⟨c121, H⟩
                  ·have hk := hk.lit 148 c121 rfl
                   refine sln [.slice A87 y85.1.Sure.length p88, .slice A91 y85.1.Unsure.length p92] rfl hk rfl rfl rfl ag67 sz67 (box_cells hs (k := 21) rfl) fun a hk => ?_
                   refine sln [.slice A51 y49.1.Sure.length p52, .slice A55 y49.1.Unsure.length p56] rfl hk rfl rfl rfl ag67 sz67 (box_cells hs (k := 12) rfl) fun a hk => ?_
                   obtain ⟨y122, h123, H⟩ := bind_some H
                   refine sc rfl en46 hk rfl rfl rfl (laws_sameDevice_t _ y85.1 A87 p88 _ o90.view (hs.hasG (k := 19) rfl) A91 p92 _ o94.view (hs.hasG (k := 20) rfl) y49.1 A51 p52 _ o54.view (hs.hasG (k := 10) rfl) A55 p56 _ o58.view (hs.hasG (k := 11) rfl) _ h123) ?_
                   rintro _ w ⟨rfl, hG⟩ a hk
                   have hs := hs.call0 hG
                   refine sv (.bool y122) hk rfl rfl rfl fun a hk => ?_
                   refine sm _ rfl hk rfl rfl rfl fun a hk => ?_
                   rcases cond_some H with ⟨c124, H⟩ | ⟨c124, H⟩
                   ·have hk := hk.lit 153 c124 rfl
                    refine sm _ rfl hk rfl rfl rfl fun a hk => ?_
                    refine sv (.bool (y_r97_3_1.2 == 0)) hk rfl rfl rfl fun a hk => ?_
                    refine sv (.bool (y_r97_3_1.2 == 0)) hk rfl rfl rfl fun a hk => ?_
                    refine sm _ rfl hk rfl rfl rfl fun a hk => ?_
                    rcases cond_some H with ⟨c125, H⟩ | ⟨c125, H⟩
                    ·have hk := hk.lit 157 c125 rfl
                     refine sln [.slice A_r97_3_3 y_r97_3_1.1.Sure.length p_r97_3_4, .slice A_r97_3_7 y_r97_3_1.1.Unsure.length p_r97_3_8] rfl hk rfl rfl rfl ag67 sz67 (box_cells hs (k := 122141) rfl) fun a hk => ?_
                     refine sln [.slice A_r100_3_3 y_r100_3_1.1.Sure.length p_r100_3_4, .slice A_r100_3_7 y_r100_3_1.1.Unsure.length p_r100_3_8] rfl hk rfl rfl rfl ag67 sz67 (box_cells hs (k := 123141) rfl) fun a hk => ?_
                     obtain ⟨y126, h127, H⟩ := bind_some H
                     refine sc rfl en46 hk rfl rfl rfl (laws_sameDevice_t _ (⟨y_r97_3_1.1.Sure, y_r97_3_1.1.Unsure⟩ : S_Device) A_r97_3_3 p_r97_3_4 _ o_r97_3_6.view (hs.hasG (k := 122061) rfl) A_r97_3_7 p_r97_3_8 _ o_r97_3_10.view (hs.hasG (k := 122062) rfl) (⟨y_r100_3_1.1.Sure, y_r100_3_1.1.Unsure⟩ : S_Device) A_r100_3_3 p_r100_3_4 _ o_r100_3_6.view (hs.hasG (k := 123061) rfl) A_r100_3_7 p_r100_3_8 _ o_r100_3_10.view (hs.hasG (k := 123062) rfl) _ h127) ?_
                     rintro _ w ⟨rfl, hG⟩ a hk
                     have hs := hs.call0 hG
                     refine sv (.bool y126) hk rfl rfl rfl fun a hk => ?_
                     refine sm _ rfl hk rfl rfl rfl fun a hk => ?_
                     rcases cond_some H with ⟨c128, H⟩ | ⟨c128, H⟩
                     ·have hk := hk.lit 162 c128 rfl
                      refine sln [.slice A_r97_3_3 y_r97_3_1.1.Sure.length p_r97_3_4, .slice A_r97_3_7 y_r97_3_1.1.Unsure.length p_r97_3_8] rfl hk rfl rfl rfl ag67 sz67 (box_cells hs (k := 122141) rfl) fun a hk => ?_
                      obtain ⟨y129, h130, H⟩ := bind_some H
                      refine sc rfl en47 hk rfl rfl rfl (impl_DeviceOK_t _ (⟨y_r97_3_1.1.Sure, y_r97_3_1.1.Unsure⟩ : S_Device) A_r97_3_3 p_r97_3_4 _ o_r97_3_6.view (hs.hasG (k := 122061) rfl) A_r97_3_7 p_r97_3_8 _ o_r97_3_10.view (hs.hasG (k := 122062) rfl) _ h130) ?_
                      rintro _ w ⟨rfl, hG⟩ a hk
                      have hs := hs.call0 hG
                      refine sv (.bool y129) hk rfl rfl rfl fun a hk => ?_
                      refine sa _ rfl hk rfl rfl rfl fun a hk => ?_
                      show wpList _ _ _ [] _ _
                      refine wpList_nil ?_
                      obtain rfl := Option.some.inj H
                      show R108 _ _
                      rw [hR108]
                      exact ⟨y129, rfl, (hk.c 4 rfl hk.k), (hs.pick [] rfl)⟩
                     ·have hk := hk.lit 162 c128 rfl
                      refine sk hk rfl rfl rfl fun a hk => ?_
                      refine sk hk rfl rfl rfl fun a hk => ?_
                      refine sv (.bool false) hk rfl rfl rfl fun a hk => ?_
                      refine sa _ rfl hk rfl rfl rfl fun a hk => ?_
                      show wpList _ _ _ [] _ _
                      refine wpList_nil ?_
                      obtain rfl := Option.some.inj H
                      show R108 _ _
                      rw [hR108]
                      exact ⟨false, rfl, (hk.c 4 rfl hk.k), (hs.pick [] rfl)⟩
                    ·have hk := hk.lit 157 c125 rfl
                     refine sk hk rfl rfl rfl fun a hk => ?_
                     refine sk hk rfl rfl rfl fun a hk => ?_
                     refine sk hk rfl rfl rfl fun a hk => ?_
                     refine sv (.bool false) hk rfl rfl rfl fun a hk => ?_
                     refine sm _ rfl hk rfl rfl rfl fun a hk => ?_
                     refine sk hk rfl rfl rfl fun a hk => ?_
                     refine sk hk rfl rfl rfl fun a hk => ?_
                     refine sv (.bool false) hk rfl rfl rfl fun a hk => ?_
                     refine sa _ rfl hk rfl rfl rfl fun a hk => ?_
                     show wpList _ _ _ [] _ _
                     refine wpList_nil ?_
                     obtain rfl := Option.some.inj H
                     show R108 _ _
                     rw [hR108]
                     exact ⟨false, rfl, (hk.c 4 rfl hk.k), (hs.pick [] rfl)⟩
                   ·have hk := hk.lit 153 c124 rfl
                    refine sk hk rfl rfl rfl fun a hk => ?_
                    refine sk hk rfl rfl rfl fun a hk => ?_
                    refine sv (.bool false) hk rfl rfl rfl fun a hk => ?_
                    refine sm _ rfl hk rfl rfl rfl fun a hk => ?_
                    refine sk hk rfl rfl rfl fun a hk => ?_
                    refine sk hk rfl rfl rfl fun a hk => ?_
                    refine sk hk rfl rfl rfl fun a hk => ?_
                    refine sv (.bool false) hk rfl rfl rfl fun a hk => ?_
                    refine sm _ rfl hk rfl rfl rfl fun a hk => ?_
                    refine sk hk rfl rfl rfl fun a hk => ?_
                    refine sk hk rfl rfl rfl fun a hk => ?_
                    refine sv (.bool false) hk rfl rfl rfl fun a hk => ?_
                    refine sa _ rfl hk rfl rfl rfl fun a hk => ?_
                    show wpList _ _ _ [] _ _
                    refine wpList_nil ?_
                    obtain rfl := Option.some.inj H
                    show R108 _ _
                    rw [hR108]
                    exact ⟨false, rfl, (hk.c 4 rfl hk.k), (hs.pick [] rfl)⟩
                  ·have hk := hk.lit 148 c121 rfl
                   refine sk hk rfl rfl rfl fun a hk => ?_
                   refine sk hk rfl rfl rfl fun a hk => ?_
                   refine sk hk rfl rfl rfl fun a hk => ?_
                   refine sv (.bool false) hk rfl rfl rfl fun a hk => ?_
                   refine sm _ rfl hk rfl rfl rfl fun a hk => ?_
                   refine sk hk rfl rfl rfl fun a hk => ?_
                   refine sk hk rfl rfl rfl fun a hk => ?_
                   refine sv (.bool false) hk rfl rfl rfl fun a hk => ?_
                   refine sm _ rfl hk rfl rfl rfl fun a hk => ?_
                   refine sk hk rfl rfl rfl fun a hk => ?_
                   refine sk hk rfl rfl rfl fun a hk => ?_
                   refine sk hk rfl rfl rfl fun a hk => ?_
                   refine sv (.bool false) hk rfl rfl rfl fun a hk => ?_
                   refine sm _ rfl hk rfl rfl rfl fun a hk => ?_
                   refine sk hk rfl rfl rfl fun a hk => ?_
                   refine sk hk rfl rfl rfl fun a hk => ?_
                   refine sv (.bool false) hk rfl rfl rfl fun a hk => ?_
                   refine sa _ rfl hk rfl rfl rfl fun a hk => ?_
                   show wpList _ _ _ [] _ _
                   refine wpList_nil ?_
                   obtain rfl := Option.some.inj H
                   show R108 _ _
                   rw [hR108]
                   exact ⟨false, rfl, (hk.c 4 rfl hk.k), (hs.pick [] rfl)⟩
                 ·have hk := hk.lit 144 c120 rfl
                  refine sk hk rfl rfl rfl fun a hk => ?_
                  refine sk hk rfl rfl rfl fun a hk => ?_
                  refine sv (.bool false) hk rfl rfl rfl fun a hk => ?_
                  refine sm _ rfl hk rfl rfl rfl fun a hk => ?_
                  refine sk hk rfl rfl rfl fun a hk => ?_
                  refine sk hk rfl rfl rfl fun a hk => ?_
                  refine sk hk rfl rfl rfl fun a hk => ?_
                  refine sv (.bool false) hk rfl rfl rfl fun a hk => ?_
                  refine sm _ rfl hk rfl rfl rfl fun a hk => ?_
                  refine sk hk rfl rfl rfl fun a hk => ?_
                  refine sk hk rfl rfl rfl fun a hk => ?_
                  refine sv (.bool false) hk rfl rfl rfl fun a hk => ?_
                  refine sm _ rfl hk rfl rfl rfl fun a hk => ?_
                  refine sk hk rfl rfl rfl fun a hk => ?_
                  refine sk hk rfl rfl rfl fun a hk => ?_
                  refine sk hk rfl rfl rfl fun a hk => ?_
                  refine sv (.bool false) hk rfl rfl rfl fun a hk => ?_
                  refine sm _ rfl hk rfl rfl rfl fun a hk => ?_
                  refine sk hk rfl rfl rfl fun a hk => ?_
                  refine sk hk rfl rfl rfl fun a hk => ?_
                  refine sv (.bool false) hk rfl rfl rfl fun a hk => ?_
                  refine sa _ rfl hk rfl rfl rfl fun a hk => ?_
                  show wpList _ _ _ [] _ _
                  refine wpList_nil ?_
                  obtain rfl := Option.some.inj H
                  show R108 _ _
                  rw [hR108]
                  exact ⟨false, rfl, (hk.c 4 rfl hk.k), (hs.pick [] rfl)⟩
                ·have hk := hk.lit 137 c117 rfl
                 refine sk hk rfl rfl rfl fun a hk => ?_
                 refine sk hk rfl rfl rfl fun a hk => ?_
                 refine sk hk rfl rfl rfl fun a hk => ?_
                 refine sk hk rfl rfl rfl fun a hk => ?_
                 refine sk hk rfl rfl rfl fun a hk => ?_
                 refine sv (.bool false) hk rfl rfl rfl fun a hk => ?_
                 refine sm _ rfl hk rfl rfl rfl fun a hk => ?_
                 refine sk hk rfl rfl rfl fun a hk => ?_
                 refine sk hk rfl rfl rfl fun a hk => ?_
                 refine sv (.bool false) hk rfl rfl rfl fun a hk => ?_
                 refine sm _ rfl hk rfl rfl rfl fun a hk => ?_
                 refine sk hk rfl rfl rfl fun a hk => ?_
                 refine sk hk rfl rfl rfl fun a hk => ?_
                 refine sk hk rfl rfl rfl fun a hk => ?_
                 refine sv (.bool false) hk rfl rfl rfl fun a hk => ?_
                 refine sm _ rfl hk rfl rfl rfl fun a hk => ?_
                 refine sk hk rfl rfl rfl fun a hk => ?_
                 refine sk hk rfl rfl rfl fun a hk => ?_
                 refine sv (.bool false) hk rfl rfl rfl fun a hk => ?_
                 refine sm _ rfl hk rfl rfl rfl fun a hk => ?_
                 refine sk hk rfl rfl rfl fun a hk => ?_
                 refine sk hk rfl rfl rfl fun a hk => ?_
                 refine sk hk rfl rfl rfl fun a hk => ?_
                 refine sv (.bool false) hk rfl rfl rfl fun a hk => ?_
                 refine sm _ rfl hk rfl rfl rfl fun a hk => ?_
                 refine sk hk rfl rfl rfl fun a hk => ?_
                 refine sk hk rfl rfl rfl fun a hk => ?_
                 refine sv (.bool false) hk rfl rfl rfl fun a hk => ?_
                 refine sa _ rfl hk rfl rfl rfl fun a hk => ?_
                 show wpList _ _ _ [] _ _
                 refine wpList_nil ?_
                 obtain rfl := Option.some.inj H
                 show R108 _ _
                 rw [hR108]
                 exact ⟨false, rfl, (hk.c 4 rfl hk.k), (hs.pick [] rfl)⟩
               ·have hk := hk.lit 133 c116 rfl
                refine sk hk rfl rfl rfl fun a hk => ?_
                refine sk hk rfl rfl rfl fun a hk => ?_
                refine sv (.bool false) hk rfl rfl rfl fun a hk => ?_
                refine sm _ rfl hk rfl rfl rfl fun a hk => ?_
                refine sk hk rfl rfl rfl fun a hk => ?_
                refine sk hk rfl rfl rfl fun a hk => ?_
                refine sk hk rfl rfl rfl fun a hk => ?_
                refine sk hk rfl rfl rfl fun a hk => ?_
                refine sk hk rfl rfl rfl fun a hk => ?_
                refine sv (.bool false) hk rfl rfl rfl fun a hk => ?_
                refine sm _ rfl hk rfl rfl rfl fun a hk => ?_
                refine sk hk rfl rfl rfl fun a hk => ?_
                refine sk hk rfl rfl rfl fun a hk => ?_
                refine sv (.bool false) hk rfl rfl rfl fun a hk => ?_
                refine sm _ rfl hk rfl rfl rfl fun a hk => ?_
                refine sk hk rfl rfl rfl fun a hk => ?_
                refine sk hk rfl rfl rfl fun a hk => ?_
                refine sk hk rfl rfl rfl fun a hk => ?_
                refine sv (.bool false) hk rfl rfl rfl fun a hk => ?_
                refine sm _ rfl hk rfl rfl rfl fun a hk => ?_
                refine sk hk rfl rfl rfl fun a hk => ?_
                refine sk hk rfl rfl rfl fun a hk => ?_
                refine sv (.bool false) hk rfl rfl rfl fun a hk => ?_
                refine sm _ rfl hk rfl rfl rfl fun a hk => ?_
                refine sk hk rfl rfl rfl fun a hk => ?_
                refine sk hk rfl rfl rfl fun a hk => ?_
                refine sk hk rfl rfl rfl fun a hk => ?_
                refine sv (.bool false) hk rfl rfl rfl fun a hk => ?_
                refine sm _ rfl hk rfl rfl rfl fun a hk => ?_
                refine sk hk rfl rfl rfl fun a hk => ?_
                refine sk hk rfl rfl rfl fun a hk => ?_
                refine sv (.bool false) hk rfl rfl rfl fun a hk => ?_
                refine sa _ rfl hk rfl rfl rfl fun a hk => ?_
                show wpList _ _ _ [] _ _
                refine wpList_nil ?_
                obtain rfl := Option.some.inj H
                show R108 _ _
                rw [hR108]
                exact ⟨false, rfl, (hk.c 4 rfl hk.k), (hs.pick [] rfl)⟩
              ·have hk := hk.lit 128 c115 rfl
               refine sk hk rfl rfl rfl fun a hk => ?_
               refine sk hk rfl rfl rfl fun a hk => ?_
               refine sk hk rfl rfl rfl fun a hk => ?_
               refine sv (.bool false) hk rfl rfl rfl fun a hk => ?_
               refine sm _ rfl hk rfl rfl rfl fun a hk => ?_
               refine sk hk rfl rfl rfl fun a hk => ?_
               refine sk hk rfl rfl rfl fun a hk => ?_
               refine sv (.bool false) hk rfl rfl rfl fun a hk => ?_
               refine sm _ rfl hk rfl rfl rfl fun a hk => ?_
               refine sk hk rfl rfl rfl fun a hk => ?_
               refine sk hk rfl rfl rfl fun a hk => ?_
               refine sk hk rfl rfl rfl fun a hk => ?_
               refine sk hk rfl rfl rfl fun a hk => ?_
               refine sk hk rfl rfl rfl fun a hk => ?_
               refine sv (.bool false) hk rfl rfl rfl fun a hk => ?_
               refine sm _ rfl hk rfl rfl rfl fun a hk => ?_
               refine sk hk rfl rfl rfl fun a hk => ?_
               refine sk hk rfl rfl rfl fun a hk => ?_
               refine sv (.bool false) hk rfl rfl rfl fun a hk => ?_
               refine sm _ rfl hk rfl rfl rfl fun a hk => ?_
               refine sk hk rfl rfl rfl fun a hk => ?_
               refine sk hk rfl rfl rfl fun a hk => ?_
               refine sk hk rfl rfl rfl fun a hk => ?_
               refine sv (.bool false) hk rfl rfl rfl fun a hk => ?_
               refine sm _ rfl hk rfl rfl rfl fun a hk => ?_
               refine sk hk rfl rfl rfl fun a hk => ?_
               refine sk hk rfl rfl rfl fun a hk => ?_
               refine sv (.bool false) hk rfl rfl rfl fun a hk => ?_
               refine sm _ rfl hk rfl rfl rfl fun a hk => ?_
               refine sk hk rfl rfl rfl fun a hk => ?_
               refine sk hk rfl rfl rfl fun a hk => ?_
               refine sk hk rfl rfl rfl fun a hk => ?_
               refine sv (.bool false) hk rfl rfl rfl fun a hk => ?_
               refine sm _ rfl hk rfl rfl rfl fun a hk => ?_
               refine sk hk rfl rfl rfl fun a hk => ?_
               refine sk hk rfl rfl rfl fun a hk => ?_
               refine sv (.bool false) hk rfl rfl rfl fun a hk => ?_
               refine sa _ rfl hk rfl rfl rfl fun a hk => ?_
               show wpList _ _ _ [] _ _
               refine wpList_nil ?_
               obtain rfl := Option.some.inj H
               show R108 _ _
               rw [hR108]
               exact ⟨false, rfl, (hk.c 4 rfl hk.k), (hs.pick [] rfl)⟩
             ·have hk := hk.lit 124 c114 rfl
              refine sk hk rfl rfl rfl fun a hk => ?_
              refine sk hk rfl rfl rfl fun a hk => ?_
              refine sv (.bool false) hk rfl rfl rfl fun a hk => ?_
              refine sm _ rfl hk rfl rfl rfl fun a hk => ?_
              refine sk hk rfl rfl rfl fun a hk => ?_
              refine sk hk rfl rfl rfl fun a hk => ?_
              refine sk hk rfl rfl rfl fun a hk => ?_
              refine sv (.bool false) hk rfl rfl rfl fun a hk => ?_
              refine sm _ rfl hk rfl rfl rfl fun a hk => ?_
              refine sk hk rfl rfl rfl fun a hk => ?_
              refine sk hk rfl rfl rfl fun a hk => ?_
              refine sv (.bool false) hk rfl rfl rfl fun a hk => ?_
              refine sm _ rfl hk rfl rfl rfl fun a hk => ?_
              refine sk hk rfl rfl rfl fun a hk => ?_
              refine sk hk rfl rfl rfl fun a hk => ?_
              refine sk hk rfl rfl rfl fun a hk => ?_
              refine sk hk rfl rfl rfl fun a hk => ?_
              refine sk hk rfl rfl rfl fun a hk => ?_
              refine sv (.bool false) hk rfl rfl rfl fun a hk => ?_
              refine sm _ rfl hk rfl rfl rfl fun a hk => ?_
              refine sk hk rfl rfl rfl fun a hk => ?_
              refine sk hk rfl rfl rfl fun a hk => ?_
              refine sv (.bool false) hk rfl rfl rfl fun a hk => ?_
              refine sm _ rfl hk rfl rfl rfl fun a hk => ?_
              refine sk hk rfl rfl rfl fun a hk => ?_
              refine sk hk rfl rfl rfl fun a hk => ?_
              refine sk hk rfl rfl rfl fun a hk => ?_
              refine sv (.bool false) hk rfl rfl rfl fun a hk => ?_
              refine sm _ rfl hk rfl rfl rfl fun a hk => ?_
              refine sk hk rfl rfl rfl fun a hk => ?_
              refine sk hk rfl rfl rfl fun a hk => ?_
              refine sv (.bool false) hk rfl rfl rfl fun a hk => ?_
              refine sm _ rfl hk rfl rfl rfl fun a hk => ?_
              refine sk hk rfl rfl rfl fun a hk => ?_
              refine sk hk rfl rfl rfl fun a hk => ?_
              refine sk hk rfl rfl rfl fun a hk => ?_
              refine sv (.bool false) hk rfl rfl rfl fun a hk => ?_
              refine sm _ rfl hk rfl rfl rfl fun a hk => ?_
              refine sk hk rfl rfl rfl fun a hk => ?_
              refine sk hk rfl rfl rfl fun a hk => ?_
              refine sv (.bool false) hk rfl rfl rfl fun a hk => ?_
              refine sa _ rfl hk rfl rfl rfl fun a hk => ?_
              show wpList _ _ _ [] _ _
              refine wpList_nil ?_
              obtain rfl := Option.some.inj H
              show R108 _ _
              rw [hR108]
              exact ⟨false, rfl, (hk.c 4 rfl hk.k), (hs.pick [] rfl)⟩
            ·have hk := hk.lit 120 c113 rfl
             refine sk hk rfl rfl rfl fun a hk => ?_
             refine sk hk rfl rfl rfl fun a hk => ?_
             refine sv (.bool false) hk rfl rfl rfl fun a hk => ?_
             refine sm _ rfl hk rfl rfl rfl fun a hk => ?_
             refine sk hk rfl rfl rfl fun a hk => ?_
             refine sk hk rfl rfl rfl fun a hk => ?_
             refine sv (.bool false) hk rfl rfl rfl fun a hk => ?_
             refine sm _ rfl hk rfl rfl rfl fun a hk => ?_
             refine sk hk rfl rfl rfl fun a hk => ?_
             refine sk hk rfl rfl rfl fun a hk => ?_
             refine sk hk rfl rfl rfl fun a hk => ?_
             refine sv (.bool false) hk rfl rfl rfl fun a hk => ?_
             refine sm _ rfl hk rfl rfl rfl fun a hk => ?_
             refine sk hk rfl rfl rfl fun a hk => ?_
             refine sk hk rfl rfl rfl fun a hk => ?_
             refine sv (.bool false) hk rfl rfl rfl fun a hk => ?_
             refine sm _ rfl hk rfl rfl rfl fun a hk => ?_
             refine sk hk rfl rfl rfl fun a hk => ?_
             refine sk hk rfl rfl rfl fun a hk => ?_
             refine sk hk rfl rfl rfl fun a hk => ?_
             refine sk hk rfl rfl rfl fun a hk => ?_
             refine sk hk rfl rfl rfl fun a hk => ?_
             refine sv (.bool false) hk rfl rfl rfl fun a hk => ?_
             refine sm _ rfl hk rfl rfl rfl fun a hk => ?_
             refine sk hk rfl rfl rfl fun a hk => ?_
             refine sk hk rfl rfl rfl fun a hk => ?_
             refine sv (.bool false) hk rfl rfl rfl fun a hk => ?_
             refine sm _ rfl hk rfl rfl rfl fun a hk => ?_
             refine sk hk rfl rfl rfl fun a hk => ?_
             refine sk hk rfl rfl rfl fun a hk => ?_
             refine sk hk rfl rfl rfl fun a hk => ?_
             refine sv (.bool false) hk rfl rfl rfl fun a hk => ?_
             refine sm _ rfl hk rfl rfl rfl fun a hk => ?_
             refine sk hk rfl rfl rfl fun a hk => ?_
             refine sk hk rfl rfl rfl fun a hk => ?_
             refine sv (.bool false) hk rfl rfl rfl fun a hk => ?_
             refine sm _ rfl hk rfl rfl rfl fun a hk => ?_
             refine sk hk rfl rfl rfl fun a hk => ?_
             refine sk hk rfl rfl rfl fun a hk => ?_
             refine sk hk rfl rfl rfl fun a hk => ?_
             refine sv (.bool false) hk rfl rfl rfl fun a hk => ?_
             refine sm _ rfl hk rfl rfl rfl fun a hk => ?_
             refine sk hk rfl rfl rfl fun a hk => ?_
             refine sk hk rfl rfl rfl fun a hk => ?_
             refine sv (.bool false) hk rfl rfl rfl fun a hk => ?_
             refine sa _ rfl hk rfl rfl rfl fun a hk => ?_
             show wpList _ _ _ [] _ _
             refine wpList_nil ?_
             obtain rfl := Option.some.inj H
             show R108 _ _
             rw [hR108]
             exact ⟨false, rfl, (hk.c 4 rfl hk.k), (hs.pick [] rfl)⟩
           ·have hk := hk.lit 114 c112 rfl
            refine sk hk rfl rfl rfl fun a hk => ?_
            refine sk hk rfl rfl rfl fun a hk => ?_
            refine sk hk rfl rfl rfl fun a hk => ?_
            refine sk hk rfl rfl rfl fun a hk => ?_
            refine sv (.bool false) hk rfl rfl rfl fun a hk => ?_
            refine sm _ rfl hk rfl rfl rfl fun a hk => ?_
            refine sk hk rfl rfl rfl fun a hk => ?_
            refine sk hk rfl rfl rfl fun a hk => ?_
            refine sv (.bool false) hk rfl rfl rfl fun a hk => ?_
            refine sm _ rfl hk rfl rfl rfl fun a hk => ?_
            refine sk hk rfl rfl rfl fun a hk => ?_
            refine sk hk rfl rfl rfl fun a hk => ?_
            refine sv (.bool false) hk rfl rfl rfl fun a hk => ?_
            refine sm _ rfl hk rfl rfl rfl fun a hk => ?_
            refine sk hk rfl rfl rfl fun a hk => ?_
            refine sk hk rfl rfl rfl fun a hk => ?_
            refine sk hk rfl rfl rfl fun a hk => ?_
            refine sv (.bool false) hk rfl rfl rfl fun a hk => ?_
            refine sm _ rfl hk rfl rfl rfl fun a hk => ?_
            refine sk hk rfl rfl rfl fun a hk => ?_
            refine sk hk rfl rfl rfl fun a hk => ?_
            refine sv (.bool false) hk rfl rfl rfl fun a hk => ?_
            refine sm _ rfl hk rfl rfl rfl fun a hk => ?_
            refine sk hk rfl rfl rfl fun a hk => ?_
            refine sk hk rfl rfl rfl fun a hk => ?_
            refine sk hk rfl rfl rfl fun a hk => ?_
            refine sk hk rfl rfl rfl fun a hk => ?_
            refine sk hk rfl rfl rfl fun a hk => ?_
            refine sv (.bool false) hk rfl rfl rfl fun a hk => ?_
            refine sm _ rfl hk rfl rfl rfl fun a hk => ?_
            refine sk hk rfl rfl rfl fun a hk => ?_
            refine sk hk rfl rfl rfl fun a hk => ?_
            refine sv (.bool false) hk rfl rfl rfl fun a hk => ?_
            refine sm _ rfl hk rfl rfl rfl fun a hk => ?_
            refine sk hk rfl rfl rfl fun a hk => ?_
            refine sk hk rfl rfl rfl fun a hk => ?_
            refine sk hk rfl rfl rfl fun a hk => ?_
            refine sv (.bool false) hk rfl rfl rfl fun a hk => ?_
            refine sm _ rfl hk rfl rfl rfl fun a hk => ?_
            refine sk hk rfl rfl rfl fun a hk => ?_
            refine sk hk rfl rfl rfl fun a hk => ?_
            refine sv (.bool false) hk rfl rfl rfl fun a hk => ?_
            refine sm _ rfl hk rfl rfl rfl fun a hk => ?_
            refine sk hk rfl rfl rfl fun a hk => ?_
            refine sk hk rfl rfl rfl fun a hk => ?_
            refine sk hk rfl rfl rfl fun a hk => ?_
            refine sv (.bool false) hk rfl rfl rfl fun a hk => ?_
            refine sm _ rfl hk rfl rfl rfl fun a hk => ?_
            refine sk hk rfl rfl rfl fun a hk => ?_
            refine sk hk rfl rfl rfl fun a hk => ?_
            refine sv (.bool false) hk rfl rfl rfl fun a hk => ?_
            refine sa _ rfl hk rfl rfl rfl fun a hk => ?_
            show wpList _ _ _ [] _ _
            refine wpList_nil ?_
            obtain rfl := Option.some.inj H
            show R108 _ _
            rw [hR108]
            exact ⟨false, rfl, (hk.c 4 rfl hk.k), (hs.pick [] rfl)⟩
          ·have hk := hk.lit 110 c111 rfl
           refine sk hk rfl rfl rfl fun a hk => ?_
           refine sk hk rfl rfl rfl fun a hk => ?_
           refine sv (.bool false) hk rfl rfl rfl fun a hk => ?_
           refine sm _ rfl hk rfl rfl rfl fun a hk => ?_
           refine sk hk rfl rfl rfl fun a hk => ?_
           refine sk hk rfl rfl rfl fun a hk => ?_
           refine sk hk rfl rfl rfl fun a hk => ?_
           refine sk hk rfl rfl rfl fun a hk => ?_
           refine sv (.bool false) hk rfl rfl rfl fun a hk => ?_
           refine sm _ rfl hk rfl rfl rfl fun a hk => ?_
           refine sk hk rfl rfl rfl fun a hk => ?_
           refine sk hk rfl rfl rfl fun a hk => ?_
           refine sv (.bool false) hk rfl rfl rfl fun a hk => ?_
           refine sm _ rfl hk rfl rfl rfl fun a hk => ?_
           refine sk hk rfl rfl rfl fun a hk => ?_
           refine sk hk rfl rfl rfl fun a hk => ?_
           refine sv (.bool false) hk rfl rfl rfl fun a hk => ?_
           refine sm _ rfl hk rfl rfl rfl fun a hk => ?_
           refine sk hk rfl rfl rfl fun a hk => ?_
           refine sk hk rfl rfl rfl fun a hk => ?_
           refine sk hk rfl rfl rfl fun a hk => ?_
           refine sv (.bool false) hk rfl rfl rfl fun a hk => ?_
           refine sm _ rfl hk rfl rfl rfl fun a hk => ?_
           refine sk hk rfl rfl rfl fun a hk => ?_
           refine sk hk rfl rfl rfl fun a hk => ?_
           refine sv (.bool false) hk rfl rfl rfl fun a hk => ?_
           refine sm _ rfl hk rfl rfl rfl fun a hk => ?_
           refine sk hk rfl rfl rfl fun a hk => ?_
           refine sk hk rfl rfl rfl fun a hk => ?_
           refine sk hk rfl rfl rfl fun a hk => ?_
           refine sk hk rfl rfl rfl fun a hk => ?_
           refine sk hk rfl rfl rfl fun a hk => ?_
           refine sv (.bool false) hk rfl rfl rfl fun a hk => ?_
           refine sm _ rfl hk rfl rfl rfl fun a hk => ?_
           refine sk hk rfl rfl rfl fun a hk => ?_
           refine sk hk rfl rfl rfl fun a hk => ?_
           refine sv (.bool false) hk rfl rfl rfl fun a hk => ?_
           refine sm _ rfl hk rfl rfl rfl fun a hk => ?_
           refine sk hk rfl rfl rfl fun a hk => ?_
           refine sk hk rfl rfl rfl fun a hk => ?_
           refine sk hk rfl rfl rfl fun a hk => ?_
           refine sv (.bool false) hk rfl rfl rfl fun a hk => ?_
           refine sm _ rfl hk rfl rfl rfl fun a hk => ?_
           refine sk hk rfl rfl rfl fun a hk => ?_
           refine sk hk rfl rfl rfl fun a hk => ?_
           refine sv (.bool false) hk rfl rfl rfl fun a hk => ?_
           refine sm _ rfl hk rfl rfl rfl fun a hk => ?_
           refine sk hk rfl rfl rfl fun a hk => ?_
           refine sk hk rfl rfl rfl fun a hk => ?_
           refine sk hk rfl rfl rfl fun a hk => ?_
           refine sv (.bool false) hk rfl rfl rfl fun a hk => ?_
           refine sm _ rfl hk rfl rfl rfl fun a hk => ?_
           refine sk hk rfl rfl rfl fun a hk => ?_
           refine sk hk rfl rfl rfl fun a hk => ?_
           refine sv (.bool false) hk rfl rfl rfl fun a hk => ?_
           refine sa _ rfl hk rfl rfl rfl fun a hk => ?_
           show wpList _ _ _ [] _ _
           refine wpList_nil ?_
           obtain rfl := Option.some.inj H
           show R108 _ _
           rw [hR108]
           exact ⟨false, rfl, (hk.c 4 rfl hk.k), (hs.pick [] rfl)⟩
         ·have hk := hk.lit 105 c110 rfl
          refine sk hk rfl rfl rfl fun a hk => ?_
          refine sk hk rfl rfl rfl fun a hk => ?_
          refine sk hk rfl rfl rfl fun a hk => ?_
          refine sv (.bool false) hk rfl rfl rfl fun a hk => ?_
          refine sm _ rfl hk rfl rfl rfl fun a hk => ?_
          refine sk hk rfl rfl rfl fun a hk => ?_
          refine sk hk rfl rfl rfl fun a hk => ?_
          refine sv (.bool false) hk rfl rfl rfl fun a hk => ?_
          refine sm _ rfl hk rfl rfl rfl fun a hk => ?_
          refine sk hk rfl rfl rfl fun a hk => ?_
          refine sk hk rfl rfl rfl fun a hk => ?_
          refine sk hk rfl rfl rfl fun a hk => ?_
          refine sk hk rfl rfl rfl fun a hk => ?_
          refine sv (.bool false) hk rfl rfl rfl fun a hk => ?_
          refine sm _ rfl hk rfl rfl rfl fun a hk => ?_
          refine sk hk rfl rfl rfl fun a hk => ?_
          refine sk hk rfl rfl rfl fun a hk => ?_
          refine sv (.bool false) hk rfl rfl rfl fun a hk => ?_
          refine sm _ rfl hk rfl rfl rfl fun a hk => ?_
          refine sk hk rfl rfl rfl fun a hk => ?_
          refine sk hk rfl rfl rfl fun a hk => ?_
          refine sv (.bool false) hk rfl rfl rfl fun a hk => ?_
          refine sm _ rfl hk rfl rfl rfl fun a hk => ?_
          refine sk hk rfl rfl rfl fun a hk => ?_
          refine sk hk rfl rfl rfl fun a hk => ?_
          refine sk hk rfl rfl rfl fun a hk => ?_
          refine sv (.bool false) hk rfl rfl rfl fun a hk => ?_
          refine sm _ rfl hk rfl rfl rfl fun a hk => ?_
          refine sk hk rfl rfl rfl fun a hk => ?_
          refine sk hk rfl rfl rfl fun a hk => ?_
          refine sv (.bool false) hk rfl rfl rfl fun a hk => ?_
          refine sm _ rfl hk rfl rfl rfl fun a hk => ?_
          refine sk hk rfl rfl rfl fun a hk => ?_
          refine sk hk rfl rfl rfl fun a hk => ?_
          refine sk hk rfl rfl rfl fun a hk => ?_
          refine sk hk rfl rfl rfl fun a hk => ?_
          refine sk hk rfl rfl rfl fun a hk => ?_
          refine sv (.bool false) hk rfl rfl rfl fun a hk => ?_
          refine sm _ rfl hk rfl rfl rfl fun a hk => ?_
          refine sk hk rfl rfl rfl fun a hk => ?_
          refine sk hk rfl rfl rfl fun a hk => ?_
          refine sv (.bool false) hk rfl rfl rfl fun a hk => ?_
          refine sm _ rfl hk rfl rfl rfl fun a hk => ?_
          refine sk hk rfl rfl rfl fun a hk => ?_
          refine sk hk rfl rfl rfl fun a hk => ?_
          refine sk hk rfl rfl rfl fun a hk => ?_
          refine sv (.bool false) hk rfl rfl rfl fun a hk => ?_
          refine sm _ rfl hk rfl rfl rfl fun a hk => ?_
          refine sk hk rfl rfl rfl fun a hk => ?_
          refine sk hk rfl rfl rfl fun a hk => ?_
          refine sv (.bool false) hk rfl rfl rfl fun a hk => ?_
          refine sm _ rfl hk rfl rfl rfl fun a hk => ?_
          refine sk hk rfl rfl rfl fun a hk => ?_
          refine sk hk rfl rfl rfl fun a hk => ?_
          refine sk hk rfl rfl rfl fun a hk => ?_
          refine sv (.bool false) hk rfl rfl rfl fun a hk => ?_
          refine sm _ rfl hk rfl rfl rfl fun a hk => ?_
          refine sk hk rfl rfl rfl fun a hk => ?_
          refine sk hk rfl rfl rfl fun a hk => ?_
          refine sv (.bool false) hk rfl rfl rfl fun a hk => ?_
          refine sa _ rfl hk rfl rfl rfl fun a hk => ?_
          show wpList _ _ _ [] _ _
          refine wpList_nil ?_
          obtain rfl := Option.some.inj H
          show R108 _ _
          rw [hR108]
          exact ⟨false, rfl, (hk.c 4 rfl hk.k), (hs.pick [] rfl)⟩
        ·have hk := hk.lit 101 c109 rfl
         refine sk hk rfl rfl rfl fun a hk => ?_
         refine sk hk rfl rfl rfl fun a hk => ?_
         refine sv (.bool false) hk rfl rfl rfl fun a hk => ?_
         refine sm _ rfl hk rfl rfl rfl fun a hk => ?_
         refine sk hk rfl rfl rfl fun a hk => ?_
         refine sk hk rfl rfl rfl fun a hk => ?_
         refine sk hk rfl rfl rfl fun a hk => ?_
         refine sv (.bool false) hk rfl rfl rfl fun a hk => ?_
         refine sm _ rfl hk rfl rfl rfl fun a hk => ?_
         refine sk hk rfl rfl rfl fun a hk => ?_
         refine sk hk rfl rfl rfl fun a hk => ?_
         refine sv (.bool false) hk rfl rfl rfl fun a hk => ?_
         refine sm _ rfl hk rfl rfl rfl fun a hk => ?_
         refine sk hk rfl rfl rfl fun a hk => ?_
         refine sk hk rfl rfl rfl fun a hk => ?_
         refine sk hk rfl rfl rfl fun a hk => ?_
         refine sk hk rfl rfl rfl fun a hk => ?_
         refine sv (.bool false) hk rfl rfl rfl fun a hk => ?_
         refine sm _ rfl hk rfl rfl rfl fun a hk => ?_
         refine sk hk rfl rfl rfl fun a hk => ?_
         refine sk hk rfl rfl rfl fun a hk => ?_
         refine sv (.bool false) hk rfl rfl rfl fun a hk => ?_
         refine sm _ rfl hk rfl rfl rfl fun a hk => ?_
         refine sk hk rfl rfl rfl fun a hk => ?_
         refine sk hk rfl rfl rfl fun a hk => ?_
         refine sv (.bool false) hk rfl rfl rfl fun a hk => ?_
         refine sm _ rfl hk rfl rfl rfl fun a hk => ?_
         refine sk hk rfl rfl rfl fun a hk => ?_
         refine sk hk rfl rfl rfl fun a hk => ?_
         refine sk hk rfl rfl rfl fun a hk => ?_
         refine sv (.bool false) hk rfl rfl rfl fun a hk => ?_
         refine sm _ rfl hk rfl rfl rfl fun a hk => ?_
         refine sk hk rfl rfl rfl fun a hk => ?_
         refine sk hk rfl rfl rfl fun a hk => ?_
         refine sv (.bool false) hk rfl rfl rfl fun a hk => ?_
         refine sm _ rfl hk rfl rfl rfl fun a hk => ?_
         refine sk hk rfl rfl rfl fun a hk => ?_
         refine sk hk rfl rfl rfl fun a hk => ?_
         refine sk hk rfl rfl rfl fun a hk => ?_
         refine sk hk rfl rfl rfl fun a hk => ?_
         refine sk hk rfl rfl rfl fun a hk => ?_
         refine sv (.bool false) hk rfl rfl rfl fun a hk => ?_
         refine sm _ rfl hk rfl rfl rfl fun a hk => ?_
         refine sk hk rfl rfl rfl fun a hk => ?_
         refine sk hk rfl rfl rfl fun a hk => ?_
         refine sv (.bool false) hk rfl rfl rfl fun a hk => ?_
         refine sm _ rfl hk rfl rfl rfl fun a hk => ?_
         refine sk hk rfl rfl rfl fun a hk => ?_
         refine sk hk rfl rfl rfl fun a hk => ?_
         refine sk hk rfl rfl rfl fun a hk => ?_
         refine sv (.bool false) hk rfl rfl rfl fun a hk => ?_
         refine sm _ rfl hk rfl rfl rfl fun a hk => ?_
         refine sk hk rfl rfl rfl fun a hk => ?_
         refine sk hk rfl rfl rfl fun a hk => ?_
         refine sv (.bool false) hk rfl rfl rfl fun a hk => ?_
         refine sm _ rfl hk rfl rfl rfl fun a hk => ?_
         refine sk hk rfl rfl rfl fun a hk => ?_
         refine sk hk rfl rfl rfl fun a hk => ?_
         refine sk hk rfl rfl rfl fun a hk => ?_
         refine sv (.bool false) hk rfl rfl rfl fun a hk => ?_
         refine sm _ rfl hk rfl rfl rfl fun a hk => ?_
         refine sk hk rfl rfl rfl fun a hk => ?_
         refine sk hk rfl rfl rfl fun a hk => ?_
         refine sv (.bool false) hk rfl rfl rfl fun a hk => ?_
         refine sa _ rfl hk rfl rfl rfl fun a hk => ?_
         show wpList _ _ _ [] _ _
         refine wpList_nil ?_
         obtain rfl := Option.some.inj H
         show R108 _ _
         rw [hR108]
         exact ⟨false, rfl, (hk.c 4 rfl hk.k), (hs.pick [] rfl)⟩
       ·intro a w hR0
        rw [hR108] at hR0
        obtain ⟨u104, rfl, hk, hs⟩ := hR0
        have H := HL107
        try dsimp only at H
        refine hK102 _ _ ?_
        have hs := hs.pick [] rfl
        refine wp_ret ?_
        obtain rfl := Option.some.inj H
        exact fin hk _ [(.bool u104)] rfl ⟨rfl, trivial⟩ ⟨rfl, (hs.pick [] rfl).dnil⟩

end Go.Proofs.Ytlbbkehdfgjneaa
