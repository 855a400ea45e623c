/- The functions that FnSeals reaches: for each a model and the walk that shows that the Go code comes to it. -/
import Derived.Test.YteklgnhfgdhdiaaT
namespace Go.Proofs.Yteklgnhfgdhdiaa
open Go Go.Z Go.Proofs Go.MuLone Go.ChangeShapes Go.WideShapes Go.ChangeAt Go.RowKit
set_option linter.unusedVariables false
set_option linter.unusedSimpArgs false
noncomputable def spec_l00Source.f (l0 : List Int) : Option (S_l00Src) :=
  (some (⟨l0, 0, (Int.tmod (l0.length : Int) 1000)⟩ : S_l00Src))
set_option maxRecDepth 100000 in
set_option maxHeartbeats 0 in
theorem spec_l00Source_t (w0 : World) (A0_ : Option Addr) (p0_ : Nat) (l0 : List Int) (k0_ : Chunk) (v0_ : View (Lay.int .u8) A0_ p0_ l0 k0_) (w0_ : Has w0 k0_) (r : S_l00Src) (H : spec_l00Source.f l0 = some r) :
    Calls Try.prog 43 #[.slice A0_ l0.length p0_] w0 (Ret (fun v w => ∃ (bb0 : Nat), ∃ (A0 : Option Addr) (p0 : Nat), ∃ (kS : Chunk), v = .pointer (some ⟨bb0, 0, none⟩) ∧ View (Lay.int .u8) A0 p0 r.code (k0_ ++ kS) ∧ Sat [] w0 w [] [(0, [(bb0, .cells #[.slice A0 r.code.length p0, .int .i64 r.at_, .int .i64 r.seed] 84 (0, 0))]), (1, kS)])) := by
  have hs : Sat [] w0 w0 [(1, k0_)] [] := Sat.init w0 [(1, k0_)] [] (by simp only [List.mem_cons, List.not_mem_nil, or_false]; rintro x (rfl) <;> assumption) (by simp) List.nodup_nil (by simp [blks])
  unfold spec_l00Source.f at H
  refine enter Try.func43 rfl Try.ntmps43 rfl fun a hk => ?_
  apply wp_seq_k; intro K1 hK1
  apply wp_region_lit
  refine sa _ rfl hk rfl rfl rfl fun a hk => ?_
  show wpList _ _ _ [] _ _
  refine wpList_nil ?_
  refine hK1 _ _ ?_
  apply wp_seq_k; intro K2 hK2
  apply wp_region_lit
  refine sm _ rfl hk rfl rfl rfl fun a hk => ?_
  refine sm _ rfl hk rfl rfl rfl fun a hk => ?_
  refine sle rfl hk rfl rfl rfl un22 fun a hk => ?_
  refine sv (.int .i64 (Int.tmod (l0.length : Int) 1000)) hk rfl rfl rfl fun a hk => ?_
  refine sbd (pv := [(0, (.slice A0_ l0.length p0_)), (2, (.int .i64 (Int.tmod (l0.length : Int) 1000)))]) rfl hk rfl rfl rfl (bd84_0 A0_ l0.length p0_ (Int.tmod (l0.length : Int) 1000)) fun a hk => ?_
  refine sbx 2 hs rfl hk rfl rfl rfl rfl fun b3 w a hk hs => ?_
  refine sa _ rfl hk rfl rfl rfl fun a hk => ?_
  show wpList _ _ _ [] _ _
  refine wpList_nil ?_
  refine hK2 _ _ ?_
  refine wp_ret ?_
  obtain rfl := Option.some.inj H
  exact fin hk _ [(.pointer (some ⟨b3, 0, none⟩))] rfl ⟨rfl, trivial⟩ ⟨b3, A0_, p0_, _, rfl, (v0_).sub (Sub.l _ (Sub.refl _)), ((hs.addNil 3000).pick [(0, 2), (1, 3000)] rfl).dnil⟩

noncomputable def spec_l00Src_byte.f (x0 : S_l00Src) : Option (Int × Int × Int) :=
  (bif (decide ((w64 (x0.at_ + 1)) ≤ (x0.code.length : Int))) then (if 0 ≤ (w64 ((w64 (x0.at_ + 1)) - 1)) ∧ (w64 ((w64 (x0.at_ + 1)) - 1)) < (x0.code.length : Int) then (if 0 ≤ (w64 ((w64 (x0.at_ + 1)) - 1)) ∧ (w64 ((w64 (x0.at_ + 1)) - 1)) < (x0.code.length : Int) then (some ((IntKind.wrap .i64 (x0.code.getD (w64 ((w64 (x0.at_ + 1)) - 1)).toNat 0)), (w64 (x0.at_ + 1)), (Int.tmod (w64 ((w64 ((w64 (x0.seed * 31)) + (IntKind.wrap .i64 (x0.code.getD (w64 ((w64 (x0.at_ + 1)) - 1)).toNat 0)))) + 7)) 2147483648))) else none) else none) else (bif (decide ((w64 (x0.at_ + 1)) > 3000)) then (some (0, (w64 (x0.at_ + 1)), x0.seed)) else (some ((Int.tmod (IntKind.wrap .i64 (Int.tdiv (Int.tmod (w64 ((w64 (x0.seed * 1103515245)) + 12345)) 2147483648) 65536)) 256), (w64 (x0.at_ + 1)), (Int.tmod (w64 ((w64 (x0.seed * 1103515245)) + 12345)) 2147483648)))))
set_option maxRecDepth 100000 in
set_option maxHeartbeats 0 in
theorem spec_l00Src_byte_t (w0 : World) (b0_ : Nat) (x0 : S_l00Src) (A0_0 : Option Addr) (p0_0 : Nat) (k0_0 : Chunk) (v0_0 : View (Lay.int .u8) A0_0 p0_0 x0.code k0_0) (w0_0 : Has w0 k0_0) (hs0 : Sat (blks [(1, [(b0_, .cells #[.slice A0_0 x0.code.length p0_0, .int .i64 x0.at_, .int .i64 x0.seed] 84 (0, 0))])]) w0 w0 [(2, k0_0)] [(1, [(b0_, .cells #[.slice A0_0 x0.code.length p0_0, .int .i64 x0.at_, .int .i64 x0.seed] 84 (0, 0))])]) (r : Int × Int × Int) (H : spec_l00Src_byte.f x0 = some r) :
    Calls Try.prog 119 #[.pointer (some ⟨b0_, 0, none⟩)] w0 (Ret (fun v w => v = .int .i64 r.1 ∧ Sat (blks [(1, [(b0_, .cells #[.slice A0_0 x0.code.length p0_0, .int .i64 x0.at_, .int .i64 x0.seed] 84 (0, 0))])]) w0 w [] [(0, [(b0_, .cells #[.slice A0_0 x0.code.length p0_0, .int .i64 r.2.1, .int .i64 r.2.2] 84 (0, 0))])])) := by
  have hs := hs0
  unfold spec_l00Src_byte.f at H
  refine enter Try.func119 rfl Try.ntmps119 rfl fun a hk => ?_
  apply wp_seq_k; intro K1 hK1
  apply wp_region_lit
  refine sa _ rfl hk rfl rfl rfl fun a hk => ?_
  show wpList _ _ _ [] _ _
  refine wpList_nil ?_
  refine hK1 _ _ ?_
  apply wp_seq_k; intro K2 hK2
  apply wp_region_lit
  refine sm _ rfl hk rfl rfl rfl fun a hk => ?_
  refine snk rfl hk rfl rfl rfl fun a hk => ?_
  refine sf ⟨b0_, 1, none⟩ rfl hk rfl rfl rfl fd84_1 rfl fun a hk => ?_
  refine sl rfl hk rfl rfl rfl ag3 (box_cell hs (k := 1) rfl rfl) fun a hk => ?_
  refine sv (.int .i64 (w64 (x0.at_ + 1))) hk rfl rfl rfl fun a hk => ?_
  refine snk rfl hk rfl rfl rfl fun a hk => ?_
  refine sf ⟨b0_, 1, none⟩ rfl hk rfl rfl rfl fd84_1 rfl fun a hk => ?_
  refine ssx (cs' := #[.slice A0_0 x0.code.length p0_0, .int .i64 (w64 (x0.at_ + 1)), .int .i64 x0.seed]) 1 hs rfl rfl hk rfl rfl rfl rfl sz3 rfl rfl rfl rfl fun w a hk hs => ?_
  show wpList _ _ _ [] _ _
  refine wpList_nil ?_
  refine hK2 _ _ ?_
  apply wp_seq_k; intro K3 hK3
  apply wp_seq_k; intro K4 hK4
  refine wp_region_tree (.q 0 (.q 1 (.q 2 (.q 3 (.alt 4 (.alt 5 (.alt 6 (.alt 7 (.alt 8 (.alt 9 .done .stop) .stop) .stop) .stop) .stop) .stop))))) mo (by kernel_rfl) (hs.pick [(1, 1)] rfl) fun _ => ?_
  have hs := hs.drew
  refine tqst (.pointer (some ⟨b0_, 0, none⟩)) hk rfl rfl rfl rfl (fun w hs => sm _ rfl hk rfl rfl rfl fun a hk => qe hk) fun a hk => ?_
  refine tqst (.pointer (some ⟨b0_, 0, none⟩)) hk rfl rfl rfl rfl (fun w hs => snk rfl hk rfl rfl rfl fun a hk => qe hk) fun a hk => ?_
  refine tqst (.pointer (some ⟨b0_, 1, none⟩)) hk rfl rfl rfl rfl (fun w hs => sf ⟨b0_, 1, none⟩ rfl hk rfl rfl rfl fd84_1 rfl fun a hk => qe hk) fun a hk => ?_
  refine tqst (.int .i64 (w64 (x0.at_ + 1))) hk rfl rfl rfl rfl (fun w hs => sl rfl hk rfl rfl rfl ag3 (box_cell hs (k := 1) rfl rfl) fun a hk => qe hk) fun a hk => ?_
  refine tsst hk rfl rfl (fun K_r5_4 hK_r5_4 w hF => ?_) wt_stop
  have hs := hs.f hF
  refine sm _ rfl hk rfl rfl rfl fun a hk => ?_
  refine se (hs.pick [(1, 1)] rfl) hk (hK_r5_4 _ _ ?_)
  refine tsst hk rfl rfl (fun K_r5_5 hK_r5_5 w hF => ?_) wt_stop
  have hs := hs.f hF
  refine snk rfl hk rfl rfl rfl fun a hk => ?_
  refine se (hs.pick [(1, 1)] rfl) hk (hK_r5_5 _ _ ?_)
  refine tsst hk rfl rfl (fun K_r5_6 hK_r5_6 w hF => ?_) wt_stop
  have hs := hs.f hF
  refine sf ⟨b0_, 0, none⟩ rfl hk rfl rfl rfl fd84_0 rfl fun a hk => ?_
  refine se (hs.pick [(1, 1)] rfl) hk (hK_r5_6 _ _ ?_)
  refine tsst hk rfl rfl (fun K_r5_7 hK_r5_7 w hF => ?_) wt_stop
  have hs := hs.f hF
  refine sl rfl hk rfl rfl rfl ag22 (box_cell hs (k := 1) rfl rfl) fun a hk => ?_
  refine se (hs.pick [(1, 1)] rfl) hk (hK_r5_7 _ _ ?_)
  refine tsst hk rfl rfl (fun K_r5_8 hK_r5_8 w hF => ?_) wt_stop
  have hs := hs.f hF
  refine sle rfl hk rfl rfl rfl un22 fun a hk => ?_
  refine se (hs.pick [(1, 1)] rfl) hk (hK_r5_8 _ _ ?_)
  refine tsst hk rfl rfl (fun K_r5_9 hK_r5_9 w hF => ?_) wt_stop
  have hs := hs.f hF
  refine sv (.bool (decide ((w64 (x0.at_ + 1)) ≤ (x0.code.length : Int)))) hk rfl rfl rfl fun a hk => ?_
  refine se (hs.pick [(1, 1)] rfl) hk (hK_r5_9 _ _ ?_)
  refine wtl_nil fun w hF _ => ?_
  have hs := hs.f hF
  refine hK4 _ _ ?_
  rcases cond_some H with ⟨c6, H⟩ | ⟨c6, H⟩
  ·have hk := hk.lit 19 c6 rfl
   refine cnd_true hk rfl rfl ?_
   apply wp_seq_k; intro K7 hK7
   refine wp_region_tree2 21 (.q 0 (.q 1 (.q 2 (.q 3 (.q 4 (.q 5 (.q 6 (.q 7 (.q 8 (.q 9 (.alt 10 (.alt 11 (.alt 12 (.alt 13 (.alt 14 (.alt 15 (.alt 16 (.alt 17 (.alt 18 (.alt 19 (.alt 20 (.alt 21 (.alt 22 (.alt 23 .done .stop) .stop) .stop) .stop) .stop) .stop) .stop) .stop) .stop) .stop) .stop) .stop) .stop) .stop))))))))))) mo (by kernel_rfl) (hs.pick [(1, 1)] rfl) (fun w hs => hs.pick [] rfl) fun _ => ?_
   have hs := hs.drew
   refine tq2 (.pointer (some ⟨b0_, 0, none⟩)) hk rfl rfl rfl rfl (fun w hs => sm _ rfl hk rfl rfl rfl fun a hk => qe hk) fun a hk => ?_
   refine tq2 (.pointer (some ⟨b0_, 0, none⟩)) hk rfl rfl rfl rfl (fun w hs => sm _ rfl hk rfl rfl rfl fun a hk => qe hk) fun a hk => ?_
   refine tq2 (.pointer (some ⟨b0_, 0, none⟩)) hk rfl rfl rfl rfl (fun w hs => snk rfl hk rfl rfl rfl fun a hk => qe hk) fun a hk => ?_
   refine tq2 (.pointer (some ⟨b0_, 2, none⟩)) hk rfl rfl rfl rfl (fun w hs => sf ⟨b0_, 2, none⟩ rfl hk rfl rfl rfl fd84_2 rfl fun a hk => qe hk) fun a hk => ?_
   refine tq1 (hdep := by kernel_rfl) (.int .i64 x0.seed) hk rfl rfl rfl rfl (fun w hs => sl rfl hk rfl rfl rfl ag3 (box_cell hs (k := 1) rfl rfl) fun a hk => qe hk) fun a hk => ?_
   refine tq2 (.int .i64 (w64 (x0.seed * 31))) hk rfl rfl rfl rfl (fun w hs => sv (.int .i64 (w64 (x0.seed * 31))) hk rfl rfl rfl fun a hk => qe hk) fun a hk => ?_
   refine tq2 (.pointer (some ⟨b0_, 0, none⟩)) hk rfl rfl rfl rfl (fun w hs => sm _ rfl hk rfl rfl rfl fun a hk => qe hk) fun a hk => ?_
   refine tq2 (.pointer (some ⟨b0_, 0, none⟩)) hk rfl rfl rfl rfl (fun w hs => snk rfl hk rfl rfl rfl fun a hk => qe hk) fun a hk => ?_
   refine tq2 (.pointer (some ⟨b0_, 0, none⟩)) hk rfl rfl rfl rfl (fun w hs => sf ⟨b0_, 0, none⟩ rfl hk rfl rfl rfl fd84_0 rfl fun a hk => qe hk) fun a hk => ?_
   refine tq1 (hdep := by kernel_rfl) (.slice A0_0 x0.code.length p0_0) hk rfl rfl rfl rfl (fun w hs => sl rfl hk rfl rfl rfl ag22 (box_cell hs (k := 1) rfl rfl) fun a hk => qe hk) fun a hk => ?_
   refine ta1 hk rfl rfl rfl (fun K_r8_10 hK_r8_10 w hF => ?_) wt2_stop
   have hs := hs.f hF
   refine sm _ rfl hk rfl rfl rfl fun a hk => ?_
   refine se (hs.pick [(1, 1)] rfl) hk (hK_r8_10 _ _ ?_)
   refine ta1 hk rfl rfl rfl (fun K_r8_11 hK_r8_11 w hF => ?_) wt2_stop
   have hs := hs.f hF
   refine snk rfl hk rfl rfl rfl fun a hk => ?_
   refine se (hs.pick [(1, 1)] rfl) hk (hK_r8_11 _ _ ?_)
   refine ta1 hk rfl rfl rfl (fun K_r8_12 hK_r8_12 w hF => ?_) wt2_stop
   have hs := hs.f hF
   refine sf ⟨b0_, 1, none⟩ rfl hk rfl rfl rfl fd84_1 rfl fun a hk => ?_
   refine se (hs.pick [(1, 1)] rfl) hk (hK_r8_12 _ _ ?_)
   refine ta1 hk rfl rfl rfl (fun K_r8_13 hK_r8_13 w hF => ?_) wt2_stop
   have hs := hs.f hF
   refine sl rfl hk rfl rfl rfl ag3 (box_cell hs (k := 1) rfl rfl) fun a hk => ?_
   refine se (hs.pick [(1, 1)] rfl) hk (hK_r8_13 _ _ ?_)
   refine ta1 hk rfl rfl rfl (fun K_r8_14 hK_r8_14 w hF => ?_) wt2_stop
   have hs := hs.f hF
   refine sv (.int .i64 (w64 ((w64 (x0.at_ + 1)) - 1))) hk rfl rfl rfl fun a hk => ?_
   refine se (hs.pick [(1, 1)] rfl) hk (hK_r8_14 _ _ ?_)
   refine ta1 hk rfl rfl rfl (fun K_r8_15 hK_r8_15 w hF => ?_) wt2_stop
   have hs := hs.f hF
   rcases ite_some H with ⟨c9, H⟩ | ⟨_, H⟩
   rotate_left
   ·cases H
   obtain ⟨b10, q11, hAc9⟩ := (v0_0).some_ (w64 ((w64 (x0.at_ + 1)) - 1)) c9.1 c9.2
   refine si rfl hk rfl rfl rfl rfl un22 sz5 c9.1 c9.2 hAc9 fun a hk => ?_
   refine se (hs.pick [(1, 1)] rfl) hk (hK_r8_15 _ _ ?_)
   refine ta1 hk rfl rfl rfl (fun K_r8_16 hK_r8_16 w hF => ?_) wt2_stop
   have hs := hs.f hF
   obtain ⟨_, rfl, e12⟩ := (v0_0).at_ 0 (w64 ((w64 (x0.at_ + 1)) - 1)) c9.1 c9.2
   refine sl (v := (.int .u8 (x0.code.getD (w64 ((w64 (x0.at_ + 1)) - 1)).toNat 0))) rfl hk rfl rfl rfl ag5 ((e12 0 _ rfl).cell (hs.hasD (k := 2) rfl)) fun a hk => ?_
   refine se (hs.pick [(1, 1)] rfl) hk (hK_r8_16 _ _ ?_)
   refine ta1 hk rfl rfl rfl (fun K_r8_17 hK_r8_17 w hF => ?_) wt2_stop
   have hs := hs.f hF
   refine scn rfl hk rfl rfl rfl un3 un5 fun a hk => ?_
   refine se (hs.pick [(1, 1)] rfl) hk (hK_r8_17 _ _ ?_)
   refine ta1 hk rfl rfl rfl (fun K_r8_18 hK_r8_18 w hF => ?_) wt2_stop
   have hs := hs.f hF
   refine sv (.int .i64 (w64 ((w64 (x0.seed * 31)) + (IntKind.wrap .i64 (x0.code.getD (w64 ((w64 (x0.at_ + 1)) - 1)).toNat 0))))) hk rfl rfl rfl fun a hk => ?_
   refine se (hs.pick [(1, 1)] rfl) hk (hK_r8_18 _ _ ?_)
   refine ta1 hk rfl rfl rfl (fun K_r8_19 hK_r8_19 w hF => ?_) wt2_stop
   have hs := hs.f hF
   refine sv (.int .i64 (w64 ((w64 ((w64 (x0.seed * 31)) + (IntKind.wrap .i64 (x0.code.getD (w64 ((w64 (x0.at_ + 1)) - 1)).toNat 0)))) + 7))) hk rfl rfl rfl fun a hk => ?_
   refine se (hs.pick [(1, 1)] rfl) hk (hK_r8_19 _ _ ?_)
   refine ta1 hk rfl rfl rfl (fun K_r8_20 hK_r8_20 w hF => ?_) wt2_stop
   have hs := hs.f hF
   refine sv (.int .i64 (Int.tmod (w64 ((w64 ((w64 (x0.seed * 31)) + (IntKind.wrap .i64 (x0.code.getD (w64 ((w64 (x0.at_ + 1)) - 1)).toNat 0)))) + 7)) 2147483648)) hk rfl rfl rfl fun a hk => ?_
   refine se (hs.pick [(1, 1)] rfl) hk (hK_r8_20 _ _ ?_)
   refine tam hk rfl rfl rfl (fun K_r8_21 hK_r8_21 w hF => ?_) wt2_stop
   have hs := hs.f hF
   refine snk rfl hk rfl rfl rfl fun a hk => ?_
   refine se (hs.pick [] rfl) hk (hK_r8_21 _ _ ?_)
   refine ta2 hk rfl rfl (fun K_r8_22 hK_r8_22 w hF => ?_) wt2_stop
   have hs := hs.f hF
   refine sf ⟨b0_, 2, none⟩ rfl hk rfl rfl rfl fd84_2 rfl fun a hk => ?_
   refine se (hs.pick [] rfl) hk (hK_r8_22 _ _ ?_)
   refine ta2 hk rfl rfl (fun K_r8_23 hK_r8_23 w hF => ?_) wt2_stop
   have hs := hs.f hF
   refine ssx (cs' := #[.slice A0_0 x0.code.length p0_0, .int .i64 (w64 (x0.at_ + 1)), .int .i64 (Int.tmod (w64 ((w64 ((w64 (x0.seed * 31)) + (IntKind.wrap .i64 (x0.code.getD (w64 ((w64 (x0.at_ + 1)) - 1)).toNat 0)))) + 7)) 2147483648)]) 1 hs rfl rfl hk rfl rfl rfl rfl sz3 rfl rfl rfl rfl fun w a hk hs => ?_
   refine se (hs.pick [] rfl) hk (hK_r8_23 _ _ ?_)
   refine wtl2_nil fun w hF => ?_
   have hs := hs.f hF
   refine hK7 _ _ ?_
   have hs := hs.pick [(1, 1)] rfl
   apply wp_seq_k; intro K13 hK13
   refine wp_region_tree (.q 0 (.q 1 (.q 2 (.q 3 (.alt 4 (.alt 5 (.alt 6 (.alt 7 (.alt 8 (.alt 9 (.alt 10 (.alt 11 (.last 12) .stop) .stop) .stop) .stop) .stop) .stop) .stop) .stop))))) mo (by kernel_rfl) (hs.pick [(1, 1)] rfl) fun _ => ?_
   have hs := hs.drew
   refine tqst (.pointer (some ⟨b0_, 0, none⟩)) hk rfl rfl rfl rfl (fun w hs => sm _ rfl hk rfl rfl rfl fun a hk => qe hk) fun a hk => ?_
   refine tqst (.pointer (some ⟨b0_, 0, none⟩)) hk rfl rfl rfl rfl (fun w hs => snk rfl hk rfl rfl rfl fun a hk => qe hk) fun a hk => ?_
   refine tqst (.pointer (some ⟨b0_, 0, none⟩)) hk rfl rfl rfl rfl (fun w hs => sf ⟨b0_, 0, none⟩ rfl hk rfl rfl rfl fd84_0 rfl fun a hk => qe hk) fun a hk => ?_
   refine tqst (.slice A0_0 x0.code.length p0_0) hk rfl rfl rfl rfl (fun w hs => sl rfl hk rfl rfl rfl ag22 (box_cell hs (k := 1) rfl rfl) fun a hk => qe hk) fun a hk => ?_
   refine tsst hk rfl rfl (fun K_r14_4 hK_r14_4 w hF => ?_) wt_stop
   have hs := hs.f hF
   refine sm _ rfl hk rfl rfl rfl fun a hk => ?_
   refine se (hs.pick [(1, 1)] rfl) hk (hK_r14_4 _ _ ?_)
   refine tsst hk rfl rfl (fun K_r14_5 hK_r14_5 w hF => ?_) wt_stop
   have hs := hs.f hF
   refine snk rfl hk rfl rfl rfl fun a hk => ?_
   refine se (hs.pick [(1, 1)] rfl) hk (hK_r14_5 _ _ ?_)
   refine tsst hk rfl rfl (fun K_r14_6 hK_r14_6 w hF => ?_) wt_stop
   have hs := hs.f hF
   refine sf ⟨b0_, 1, none⟩ rfl hk rfl rfl rfl fd84_1 rfl fun a hk => ?_
   refine se (hs.pick [(1, 1)] rfl) hk (hK_r14_6 _ _ ?_)
   refine tsst hk rfl rfl (fun K_r14_7 hK_r14_7 w hF => ?_) wt_stop
   have hs := hs.f hF
   refine sl rfl hk rfl rfl rfl ag3 (box_cell hs (k := 1) rfl rfl) fun a hk => ?_
   refine se (hs.pick [(1, 1)] rfl) hk (hK_r14_7 _ _ ?_)
   refine tsst hk rfl rfl (fun K_r14_8 hK_r14_8 w hF => ?_) wt_stop
   have hs := hs.f hF
   refine sv (.int .i64 (w64 ((w64 (x0.at_ + 1)) - 1))) hk rfl rfl rfl fun a hk => ?_
   refine se (hs.pick [(1, 1)] rfl) hk (hK_r14_8 _ _ ?_)
   refine tsst hk rfl rfl (fun K_r14_9 hK_r14_9 w hF => ?_) wt_stop
   have hs := hs.f hF
   rcases ite_some H with ⟨c15, H⟩ | ⟨_, H⟩
   rotate_left
   ·cases H
   obtain ⟨b16, q17, hAc15⟩ := (v0_0).some_ (w64 ((w64 (x0.at_ + 1)) - 1)) c15.1 c15.2
   refine si rfl hk rfl rfl rfl rfl un22 sz5 c15.1 c15.2 hAc15 fun a hk => ?_
   refine se (hs.pick [(1, 1)] rfl) hk (hK_r14_9 _ _ ?_)
   refine tsst hk rfl rfl (fun K_r14_10 hK_r14_10 w hF => ?_) wt_stop
   have hs := hs.f hF
   obtain ⟨_, rfl, e18⟩ := (v0_0).at_ 0 (w64 ((w64 (x0.at_ + 1)) - 1)) c15.1 c15.2
   refine sl (v := (.int .u8 (x0.code.getD (w64 ((w64 (x0.at_ + 1)) - 1)).toNat 0))) rfl hk rfl rfl rfl ag5 ((e18 0 _ rfl).cell (hs.hasD (k := 2) rfl)) fun a hk => ?_
   refine se (hs.pick [(1, 1)] rfl) hk (hK_r14_10 _ _ ?_)
   refine tsst hk rfl rfl (fun K_r14_11 hK_r14_11 w hF => ?_) wt_stop
   have hs := hs.f hF
   refine scn rfl hk rfl rfl rfl un3 un5 fun a hk => ?_
   refine se (hs.pick [(1, 1)] rfl) hk (hK_r14_11 _ _ ?_)
   refine tlst hk rfl rfl fun K_r14_12 hK_r14_12 w hF => ?_
   have hs := hs.f hF
   refine sa _ rfl hk rfl rfl rfl fun a hk => ?_
   refine se trivial hk (hK_r14_12 _ _ fun w hF => ?_)
   have hs := hs.f hF
   refine hK13 _ _ ?_
   refine wp_ret ?_
   obtain rfl := Option.some.inj H
   exact fin hk _ [(.int .i64 (IntKind.wrap .i64 (x0.code.getD (w64 ((w64 (x0.at_ + 1)) - 1)).toNat 0)))] rfl ⟨rfl, trivial⟩ ⟨rfl, (hs.pick [(0, 1)] rfl).dnil⟩
  ·have hk := hk.lit 19 c6 rfl
   refine cnd_false hk rfl rfl ?_
   refine wp_skip ?_
   refine hK3 _ _ ?_
   have hs := hs.pick [(1, 1)] rfl
   apply wp_seq_k; intro K19 hK19
   apply wp_seq_k; intro K20 hK20
   apply wp_region_lit
   refine sm _ rfl hk rfl rfl rfl fun a hk => ?_
   refine snk rfl hk rfl rfl rfl fun a hk => ?_
   refine sf ⟨b0_, 1, none⟩ rfl hk rfl rfl rfl fd84_1 rfl fun a hk => ?_
   refine sl rfl hk rfl rfl rfl ag3 (box_cell hs (k := 1) rfl rfl) fun a hk => ?_
   refine sv (.bool (decide ((w64 (x0.at_ + 1)) > 3000))) hk rfl rfl rfl fun a hk => ?_
   show wpList _ _ _ [] _ _
   refine wpList_nil ?_
   refine hK20 _ _ ?_
   rcases cond_some H with ⟨c21, H⟩ | ⟨c21, H⟩
   ·have hk := hk.lit 59 c21 rfl
    refine cnd_true hk rfl rfl ?_
    apply wp_seq_k; intro K22 hK22
    apply wp_region_lit
    refine sa _ rfl hk rfl rfl rfl fun a hk => ?_
    show wpList _ _ _ [] _ _
    refine wpList_nil ?_
    refine hK22 _ _ ?_
    refine wp_ret ?_
    obtain rfl := Option.some.inj H
    exact fin hk _ [(.int .i64 0)] rfl ⟨rfl, trivial⟩ ⟨rfl, (hs.pick [(0, 1)] rfl).dnil⟩
   ·have hk := hk.lit 59 c21 rfl
    refine cnd_false hk rfl rfl ?_
    refine wp_skip ?_
    refine hK19 _ _ ?_
    apply wp_seq_k; intro K23 hK23
    apply wp_region_lit
    refine sm _ rfl hk rfl rfl rfl fun a hk => ?_
    refine sm _ rfl hk rfl rfl rfl fun a hk => ?_
    refine snk rfl hk rfl rfl rfl fun a hk => ?_
    refine sf ⟨b0_, 2, none⟩ rfl hk rfl rfl rfl fd84_2 rfl fun a hk => ?_
    refine sl rfl hk rfl rfl rfl ag3 (box_cell hs (k := 1) rfl rfl) fun a hk => ?_
    refine sv (.int .i64 (w64 (x0.seed * 1103515245))) hk rfl rfl rfl fun a hk => ?_
    refine sv (.int .i64 (w64 ((w64 (x0.seed * 1103515245)) + 12345))) hk rfl rfl rfl fun a hk => ?_
    refine sv (.int .i64 (Int.tmod (w64 ((w64 (x0.seed * 1103515245)) + 12345)) 2147483648)) hk rfl rfl rfl fun a hk => ?_
    refine snk rfl hk rfl rfl rfl fun a hk => ?_
    refine sf ⟨b0_, 2, none⟩ rfl hk rfl rfl rfl fd84_2 rfl fun a hk => ?_
    refine ssx (cs' := #[.slice A0_0 x0.code.length p0_0, .int .i64 (w64 (x0.at_ + 1)), .int .i64 (Int.tmod (w64 ((w64 (x0.seed * 1103515245)) + 12345)) 2147483648)]) 1 hs rfl rfl hk rfl rfl rfl rfl sz3 rfl rfl rfl rfl fun w a hk hs => ?_
    show wpList _ _ _ [] _ _
    refine wpList_nil ?_
    refine hK23 _ _ ?_
    apply wp_seq_k; intro K24 hK24
    apply wp_region_lit
    refine sm _ rfl hk rfl rfl rfl fun a hk => ?_
    refine snk rfl hk rfl rfl rfl fun a hk => ?_
    refine sf ⟨b0_, 2, none⟩ rfl hk rfl rfl rfl fd84_2 rfl fun a hk => ?_
    refine sl rfl hk rfl rfl rfl ag3 (box_cell hs (k := 1) rfl rfl) fun a hk => ?_
    refine sv (.int .i64 (IntKind.wrap .i64 (Int.tdiv (Int.tmod (w64 ((w64 (x0.seed * 1103515245)) + 12345)) 2147483648) 65536))) hk rfl rfl rfl fun a hk => ?_
    refine sv (.int .i64 (Int.tmod (IntKind.wrap .i64 (Int.tdiv (Int.tmod (w64 ((w64 (x0.seed * 1103515245)) + 12345)) 2147483648) 65536)) 256)) hk rfl rfl rfl fun a hk => ?_
    refine sa _ rfl hk rfl rfl rfl fun a hk => ?_
    show wpList _ _ _ [] _ _
    refine wpList_nil ?_
    refine hK24 _ _ ?_
    have hs := hs.pick [(1, 1)] rfl
    refine wp_ret ?_
    obtain rfl := Option.some.inj H
    exact fin hk _ [(.int .i64 (Int.tmod (IntKind.wrap .i64 (Int.tdiv (Int.tmod (w64 ((w64 (x0.seed * 1103515245)) + 12345)) 2147483648) 65536)) 256))] rfl ⟨rfl, trivial⟩ ⟨rfl, (hs.pick [(0, 1)] rfl).dnil⟩

noncomputable def spec_l00Src_next.f (x0 : S_l00Src) (x1 : Int) : Option (Int × Int × Int) :=
  (bif (decide (x1 ≤ 1)) then (some (0, x0.at_, x0.seed)) else (bif (decide (x1 ≤ 256)) then ((spec_l00Src_byte.f x0).bind fun y10 => (if x1 = 0 then none else (some ((Int.tmod y10.1 x1), y10.2.1, y10.2.2)))) else ((spec_l00Src_byte.f x0).bind fun y14 => ((spec_l00Src_byte.f (⟨x0.code, y14.2.1, y14.2.2⟩ : S_l00Src)).bind fun y17 => ((spec_l00Src_byte.f (⟨x0.code, y17.2.1, y17.2.2⟩ : S_l00Src)).bind fun y20 => (if x1 = 0 then none else (some ((Int.tmod (w64 ((w64 ((w64 (y14.1 * 65536)) + (w64 (y17.1 * 256)))) + y20.1)) x1), y20.2.1, y20.2.2))))))))
set_option maxRecDepth 100000 in
set_option maxHeartbeats 0 in
theorem spec_l00Src_next_t (w0 : World) (b0_ : Nat) (x0 : S_l00Src) (A0_0 : Option Addr) (p0_0 : Nat) (k0_0 : Chunk) (v0_0 : View (Lay.int .u8) A0_0 p0_0 x0.code k0_0) (w0_0 : Has w0 k0_0) (x1 : Int) (hs0 : Sat (blks [(1, [(b0_, .cells #[.slice A0_0 x0.code.length p0_0, .int .i64 x0.at_, .int .i64 x0.seed] 84 (0, 0))])]) w0 w0 [(2, k0_0)] [(1, [(b0_, .cells #[.slice A0_0 x0.code.length p0_0, .int .i64 x0.at_, .int .i64 x0.seed] 84 (0, 0))])]) (r : Int × Int × Int) (H : spec_l00Src_next.f x0 x1 = some r) :
    Calls Try.prog 86 #[.pointer (some ⟨b0_, 0, none⟩), .int .i64 x1] w0 (Ret (fun v w => v = .int .i64 r.1 ∧ Sat (blks [(1, [(b0_, .cells #[.slice A0_0 x0.code.length p0_0, .int .i64 x0.at_, .int .i64 x0.seed] 84 (0, 0))])]) w0 w [] [(0, [(b0_, .cells #[.slice A0_0 x0.code.length p0_0, .int .i64 r.2.1, .int .i64 r.2.2] 84 (0, 0))])])) := by
  have hs := hs0
  unfold spec_l00Src_next.f at H
  refine enter Try.func86 rfl Try.ntmps86 rfl fun a hk => ?_
  apply wp_seq_k; intro K1 hK1
  apply wp_region_lit
  refine sa _ rfl hk rfl rfl rfl fun a hk => ?_
  show wpList _ _ _ [] _ _
  refine wpList_nil ?_
  refine hK1 _ _ ?_
  apply wp_seq_k; intro K2 hK2
  apply wp_seq_k; intro K3 hK3
  apply wp_region_lit
  refine sm _ rfl hk rfl rfl rfl fun a hk => ?_
  refine sv (.bool (decide (x1 ≤ 1))) hk rfl rfl rfl fun a hk => ?_
  show wpList _ _ _ [] _ _
  refine wpList_nil ?_
  refine hK3 _ _ ?_
  rcases cond_some H with ⟨c4, H⟩ | ⟨c4, H⟩
  ·have hk := hk.lit 9 c4 rfl
   refine cnd_true hk rfl rfl ?_
   apply wp_seq_k; intro K5 hK5
   apply wp_region_lit
   refine sa _ rfl hk rfl rfl rfl fun a hk => ?_
   show wpList _ _ _ [] _ _
   refine wpList_nil ?_
   refine hK5 _ _ ?_
   refine wp_ret ?_
   obtain rfl := Option.some.inj H
   exact fin hk _ [(.int .i64 0)] rfl ⟨rfl, trivial⟩ ⟨rfl, (hs.pick [(0, 1)] rfl).dnil⟩
  ·have hk := hk.lit 9 c4 rfl
   refine cnd_false hk rfl rfl ?_
   refine wp_skip ?_
   refine hK2 _ _ ?_
   apply wp_seq_k; intro K6 hK6
   apply wp_seq_k; intro K7 hK7
   apply wp_region_lit
   refine sm _ rfl hk rfl rfl rfl fun a hk => ?_
   refine sv (.bool (decide (x1 ≤ 256))) hk rfl rfl rfl fun a hk => ?_
   show wpList _ _ _ [] _ _
   refine wpList_nil ?_
   refine hK7 _ _ ?_
   have hs := hs.pick [(1, 1)] rfl
   rcases cond_some H with ⟨c8, H⟩ | ⟨c8, H⟩
   ·have hk := hk.lit 11 c8 rfl
    refine cnd_true hk rfl rfl ?_
    apply wp_seq_k; intro K9 hK9
    apply wp_region_lit
    refine sm _ rfl hk rfl rfl rfl fun a hk => ?_
    obtain ⟨y10, h11, H⟩ := bind_some H
    refine sc rfl en119 hk rfl rfl rfl (spec_l00Src_byte_t _ b0_ x0 A0_0 p0_0 _ v0_0 (hs.hasD (k := 2) rfl) ((hs.hand [(1, 1)] rfl).dpick [(2, 2)] rfl) _ h11) ?_
    rintro _ w ⟨rfl, hG⟩ a hk
    have hs := hs.back [(1, 1)] rfl hG [1] rfl
    refine sm _ rfl hk rfl rfl rfl fun a hk => ?_
    rcases ite_some H with ⟨_, H⟩ | ⟨c12, H⟩
    ·cases H
    refine srm rfl hk rfl rfl rfl rfl c12 fun a hk => ?_
    refine sa _ rfl hk rfl rfl rfl fun a hk => ?_
    show wpList _ _ _ [] _ _
    refine wpList_nil ?_
    refine hK9 _ _ ?_
    refine wp_ret ?_
    obtain rfl := Option.some.inj H
    exact fin hk _ [(.int .i64 (Int.tmod y10.1 x1))] rfl ⟨rfl, trivial⟩ ⟨rfl, (hs.pick [(0, 1)] rfl).dnil⟩
   ·have hk := hk.lit 11 c8 rfl
    refine cnd_false hk rfl rfl ?_
    refine wp_skip ?_
    refine hK6 _ _ ?_
    apply wp_seq_k; intro K13 hK13
    apply wp_region_lit
    refine sm _ rfl hk rfl rfl rfl fun a hk => ?_
    obtain ⟨y14, h15, H⟩ := bind_some H
    refine sc rfl en119 hk rfl rfl rfl (spec_l00Src_byte_t _ b0_ x0 A0_0 p0_0 _ v0_0 (hs.hasD (k := 2) rfl) ((hs.hand [(1, 1)] rfl).dpick [(2, 2)] rfl) _ h15) ?_
    rintro _ w ⟨rfl, hG⟩ a hk
    have hs := hs.back [(1, 1)] rfl hG [1] rfl
    refine sa _ rfl hk rfl rfl rfl fun a hk => ?_
    show wpList _ _ _ [] _ _
    refine wpList_nil ?_
    refine hK13 _ _ ?_
    apply wp_seq_k; intro K16 hK16
    apply wp_region_lit
    refine sm _ rfl hk rfl rfl rfl fun a hk => ?_
    obtain ⟨y17, h18, H⟩ := bind_some H
    refine sc rfl en119 hk rfl rfl rfl (spec_l00Src_byte_t _ b0_ (⟨x0.code, y14.2.1, y14.2.2⟩ : S_l00Src) A0_0 p0_0 _ v0_0 (hs.hasD (k := 2) rfl) ((hs.hand [(1, 1)] rfl).dpick [(2, 2)] rfl) _ h18) ?_
    rintro _ w ⟨rfl, hG⟩ a hk
    have hs := hs.back [(1, 1)] rfl hG [1] rfl
    refine sa _ rfl hk rfl rfl rfl fun a hk => ?_
    show wpList _ _ _ [] _ _
    refine wpList_nil ?_
    refine hK16 _ _ ?_
    apply wp_seq_k; intro K19 hK19
    apply wp_region_lit
    refine sm _ rfl hk rfl rfl rfl fun a hk => ?_
    obtain ⟨y20, h21, H⟩ := bind_some H
    refine sc rfl en119 hk rfl rfl rfl (spec_l00Src_byte_t _ b0_ (⟨x0.code, y17.2.1, y17.2.2⟩ : S_l00Src) A0_0 p0_0 _ v0_0 (hs.hasD (k := 2) rfl) ((hs.hand [(1, 1)] rfl).dpick [(2, 2)] rfl) _ h21) ?_
    rintro _ w ⟨rfl, hG⟩ a hk
    have hs := hs.back [(1, 1)] rfl hG [1] rfl
    refine sa _ rfl hk rfl rfl rfl fun a hk => ?_
    show wpList _ _ _ [] _ _
    refine wpList_nil ?_
    refine hK19 _ _ ?_
    have hs := hs.pick [(1, 1)] rfl
    apply wp_seq_k; intro K22 hK22
    apply wp_region_lit
    refine sm _ rfl hk rfl rfl rfl fun a hk => ?_
    refine sv (.int .i64 (w64 (y14.1 * 65536))) hk rfl rfl rfl fun a hk => ?_
    refine sm _ rfl hk rfl rfl rfl fun a hk => ?_
    refine sv (.int .i64 (w64 (y17.1 * 256))) hk rfl rfl rfl fun a hk => ?_
    refine sv (.int .i64 (w64 ((w64 (y14.1 * 65536)) + (w64 (y17.1 * 256))))) hk rfl rfl rfl fun a hk => ?_
    refine sm _ rfl hk rfl rfl rfl fun a hk => ?_
    refine sv (.int .i64 (w64 ((w64 ((w64 (y14.1 * 65536)) + (w64 (y17.1 * 256)))) + y20.1))) hk rfl rfl rfl fun a hk => ?_
    refine sm _ rfl hk rfl rfl rfl fun a hk => ?_
    rcases ite_some H with ⟨_, H⟩ | ⟨c23, H⟩
    ·cases H
    refine srm rfl hk rfl rfl rfl rfl c23 fun a hk => ?_
    refine sa _ rfl hk rfl rfl rfl fun a hk => ?_
    show wpList _ _ _ [] _ _
    refine wpList_nil ?_
    refine hK22 _ _ ?_
    refine wp_ret ?_
    obtain rfl := Option.some.inj H
    exact fin hk _ [(.int .i64 (Int.tmod (w64 ((w64 ((w64 (y14.1 * 65536)) + (w64 (y17.1 * 256)))) + y20.1)) x1))] rfl ⟨rfl, trivial⟩ ⟨rfl, (hs.pick [(0, 1)] rfl).dnil⟩

noncomputable def spec_l00Src_bytes.s0 (x0 : S_l00Src) (x1 : Int) (u17 : List Int) (u14 : Int) (u15 : Int) (u16 : Int) : Option (((List Int) × Int × Int × Int) ⊕ Ex ((List Int) × Int × Int) (ByteArray × Int × Int)) :=
  (bif (decide (u14 < x1)) then ((spec_l00Src_next.f (⟨x0.code, u15, u16⟩ : S_l00Src) 256).bind fun y41 => (if u17.length + ([(IntKind.wrap .u8 y41.1)]).length ≤ 1073741824 then (some (.inl ((u17 ++ ([(IntKind.wrap .u8 y41.1)])), (w64 (u14 + 1)), y41.2.1, y41.2.2))) else none)) else (some (.inr (.out (u17, u15, u16)))))
noncomputable def spec_l00Src_bytes.f (x0 : S_l00Src) (x1 : Int) : Option (ByteArray × Int × Int) :=
  ((loopO (fun s => spec_l00Src_bytes.s0 x0 x1 s.1 s.2.1 s.2.2.1 s.2.2.2) (([] : List Int), 0, x0.at_, x0.seed)).bind fun o => match o with | .out (u22, u27, u28) => (some ((strOfNums u22), u27, u28)) | .ret r => (some r))
set_option maxRecDepth 100000 in
set_option maxHeartbeats 0 in
theorem spec_l00Src_bytes_t (w0 : World) (b0_ : Nat) (x0 : S_l00Src) (A0_0 : Option Addr) (p0_0 : Nat) (k0_0 : Chunk) (v0_0 : View (Lay.int .u8) A0_0 p0_0 x0.code k0_0) (w0_0 : Has w0 k0_0) (x1 : Int) (hs0 : Sat (blks [(1, [(b0_, .cells #[.slice A0_0 x0.code.length p0_0, .int .i64 x0.at_, .int .i64 x0.seed] 84 (0, 0))])]) w0 w0 [(2, k0_0)] [(1, [(b0_, .cells #[.slice A0_0 x0.code.length p0_0, .int .i64 x0.at_, .int .i64 x0.seed] 84 (0, 0))])]) (r : ByteArray × Int × Int) (H : spec_l00Src_bytes.f x0 x1 = some r) :
    Calls Try.prog 59 #[.pointer (some ⟨b0_, 0, none⟩), .int .i64 x1] w0 (Ret (fun v w => v = .string r.1 ∧ Sat (blks [(1, [(b0_, .cells #[.slice A0_0 x0.code.length p0_0, .int .i64 x0.at_, .int .i64 x0.seed] 84 (0, 0))])]) w0 w [] [(0, [(b0_, .cells #[.slice A0_0 x0.code.length p0_0, .int .i64 r.2.1, .int .i64 r.2.2] 84 (0, 0))])])) := by
  have hs := hs0
  unfold spec_l00Src_bytes.f at H
  refine enter Try.func59 rfl Try.ntmps59 rfl fun a hk => ?_
  apply wp_seq_k; intro K1 hK1
  apply wp_region_lit
  refine sa _ rfl hk rfl rfl rfl fun a hk => ?_
  show wpList _ _ _ [] _ _
  refine wpList_nil ?_
  refine hK1 _ _ ?_
  apply wp_seq_k; intro K2 hK2
  apply wp_region_lit
  refine sbs0 3 (Lay.int .u8) hs rfl hk rfl rfl un22 sz5 fun b3 k4 w a hk o5 hs => ?_
  refine sa _ rfl hk rfl rfl rfl fun a hk => ?_
  show wpList _ _ _ [] _ _
  refine wpList_nil ?_
  refine hK2 _ _ ?_
  apply wp_seq_k; intro K6 hK6
  apply wp_seq_k; intro K7 hK7
  apply wp_region_lit
  refine sa _ rfl hk rfl rfl rfl fun a hk => ?_
  show wpList _ _ _ [] _ _
  refine wpList_nil ?_
  refine hK7 _ _ ?_
  obtain ⟨o29, h30, HL31⟩ := bind_some H
  clear H
  obtain ⟨R32, hR32⟩ : ∃ R : Act → World → Prop, R = fun a w => ∃ (u22 : List Int) (u27 : Int) (u28 : Int) (A25 : Option Addr) (p26 : Nat) (k23 : Chunk), o29 = .out (u22, u27, u28) ∧ Kn [(0, (.pointer (some ⟨b0_, 0, none⟩))), (5, (.slice A25 u22.length p26))] 21 a ∧ Sat (blks [(1, [(b0_, .cells #[.slice A0_0 x0.code.length p0_0, .int .i64 x0.at_, .int .i64 x0.seed] 84 (0, 0))])]) w0 w [(2, k0_0)] [(3, k23), (1, [(b0_, .cells #[.slice A0_0 x0.code.length p0_0, .int .i64 u27, .int .i64 u28] 84 (0, 0))])] ∧ Own (Lay.int .u8) 5 A25 p26 u22 k23 := ⟨_, rfl⟩
  refine wp_cutq R32 ?_ ?_
  ·refine wp_block ?_
   obtain ⟨fu34, h30⟩ := loopO_some h30
   obtain ⟨I33, hI33⟩ : ∃ I : Nat → Act → World → Prop, I = fun fu a w => ∃ (u17 : List Int) (u14 : Int) (u15 : Int) (u16 : Int) (A20 : Option Addr) (p21 : Nat) (k18 : Chunk), loopN (fun s => spec_l00Src_bytes.s0 x0 x1 s.1 s.2.1 s.2.2.1 s.2.2.2) fu (u17, u14, u15, u16) = some o29 ∧ Kn [(0, (.pointer (some ⟨b0_, 0, none⟩))), (1, (.int .i64 x1)), (5, (.slice A20 u17.length p21)), (6, (.int .i64 u14))] 21 a ∧ Sat (blks [(1, [(b0_, .cells #[.slice A0_0 x0.code.length p0_0, .int .i64 x0.at_, .int .i64 x0.seed] 84 (0, 0))])]) w0 w [(2, k0_0)] [(3, k18), (1, [(b0_, .cells #[.slice A0_0 x0.code.length p0_0, .int .i64 u15, .int .i64 u16] 84 (0, 0))])] ∧ Own (Lay.int .u8) 5 A20 p21 u17 k18 := ⟨_, rfl⟩
   refine wp_loop_ghost I33 fu34 ?_ ?_
   ·rw [hI33]
    exact ⟨([] : List Int), 0, x0.at_, x0.seed, (some ⟨b3, 0, none⟩), 0, _, h30, (hk.c 0 rfl (hk.c 1 rfl (hk.c 5 rfl (hk.c 6 rfl hk.k)))), (hs.pick [(3, 3), (1, 1)] rfl), o5⟩
   ·clear h30 hk hs
    intro fu34 a w hI0
    rw [hI33] at hI0
    obtain ⟨u17, u14, u15, u16, A20, p21, k18, hi, hk, hs, o19⟩ := hI0
    obtain ⟨x35, H, h36⟩ := loop_round hi
    try dsimp only at H
    unfold spec_l00Src_bytes.s0 at H
    apply wp_seq_k; intro K37 hK37
    apply wp_seq_k; intro K38 hK38
    apply wp_region_lit
    refine sm _ rfl hk rfl rfl rfl fun a hk => ?_
    refine sm _ rfl hk rfl rfl rfl fun a hk => ?_
    refine sv (.bool (decide (u14 < x1))) hk rfl rfl rfl fun a hk => ?_
    show wpList _ _ _ [] _ _
    refine wpList_nil ?_
    refine hK38 _ _ ?_
    have hs := hs.pick [(3, 3), (1, 1)] rfl
    rcases cond_some H with ⟨c39, H⟩ | ⟨c39, H⟩
    ·have hk := hk.lit 10 c39 rfl
     refine cnd_true hk rfl rfl ?_
     refine wp_skip ?_
     refine hK37 _ _ ?_
     apply wp_seq_k; intro K40 hK40
     refine wp_block ?_
     apply wp_region_lit
     refine sm _ rfl hk rfl rfl rfl fun a hk => ?_
     refine sm _ rfl hk rfl rfl rfl fun a hk => ?_
     obtain ⟨y41, h42, H⟩ := bind_some H
     refine sc rfl en86 hk rfl rfl rfl (spec_l00Src_next_t _ b0_ (⟨x0.code, u15, u16⟩ : S_l00Src) A0_0 p0_0 _ v0_0 (hs.hasD (k := 2) rfl) 256 ((hs.hand [(1, 1)] rfl).dpick [(2, 2)] rfl) _ h42) ?_
     rintro _ w ⟨rfl, hG⟩ a hk
     have hs := hs.back [(1, 1)] rfl hG [1] rfl
     refine scn rfl hk rfl rfl rfl un5 un3 fun a hk => ?_
     refine sbs (L := (Lay.int .u8)) (pv := [(0, (.int .u8 (IntKind.wrap .u8 y41.1)))]) (xs := [(IntKind.wrap .u8 y41.1)]) (ess := [[.int .u8 (IntKind.wrap .u8 y41.1)]]) 5 hs rfl hk rfl rfl rfl un22 (bs5_1 (IntKind.wrap .u8 y41.1)) (AllOwn.cons0 ⟨rfl, rfl⟩ AllOwn.nil) rfl rfl rfl fun b43 k44 w a hk o45 hs => ?_
     rcases ite_some H with ⟨c46, H⟩ | ⟨_, H⟩
     rotate_left
     ·cases H
     refine sap 3 (xs := u17) (ys := [(IntKind.wrap .u8 y41.1)]) (flat_flat : ((Lay.int .u8)).Flat) hs rfl o19 o45.view (hs.hasG (k := 5) rfl) rfl hk rfl rfl rfl rfl rfl rfl un22 mk5 rfl rfl rfl c46 fun A47 p48 k49 w a hk o50 hs => ?_
     refine sa _ rfl hk rfl rfl rfl fun a hk => ?_
     show wpList _ _ _ [] _ _
     refine wpList_nil ?_
     refine hK40 _ _ ?_
     apply wp_region_lit
     refine sm _ rfl hk rfl rfl rfl fun a hk => ?_
     refine sv (.int .i64 (w64 (u14 + 1))) hk rfl rfl rfl fun a hk => ?_
     refine sa _ rfl hk rfl rfl rfl fun a hk => ?_
     show wpList _ _ _ [] _ _
     refine wpList_nil ?_
     obtain rfl := Option.some.inj H
     obtain ⟨m51, hmm51, h36⟩ := h36
     show ∃ n', n' < _ ∧ I33 n' _ _
     refine ⟨m51, hmm51, ?_⟩
     rw [hI33]
     exact ⟨(u17 ++ ([(IntKind.wrap .u8 y41.1)])), (w64 (u14 + 1)), y41.2.1, y41.2.2, A47, p48, _, h36, (hk.c 0 rfl (hk.c 1 rfl (hk.c 5 rfl (hk.c 6 rfl hk.k)))), (hs.pick [(3, 3), (1, 1)] rfl), o50⟩
    ·have hk := hk.lit 10 c39 rfl
     refine cnd_false hk rfl rfl ?_
     refine wp_exit ?_
     obtain rfl := Option.some.inj H
     show R32 _ _
     rw [hR32]
     exact ⟨u17, u15, u16, A20, p21, _, h36.symm, (hk.c 0 rfl (hk.c 5 rfl hk.k)), (hs.pick [(3, 3), (1, 1)] rfl), o19⟩
  ·intro a w hR0
   rw [hR32] at hR0
   obtain ⟨u22, u27, u28, A25, p26, k23, rfl, hk, hs, o24⟩ := hR0
   have H := HL31
   try dsimp only at H
   refine hK6 _ _ ?_
   have hs := hs.pick [(3, 3), (1, 1)] rfl
   apply wp_seq_k; intro K52 hK52
   apply wp_region_lit
   refine sm _ rfl hk rfl rfl rfl fun a hk => ?_
   refine sbt (xs := u22) rfl hk rfl rfl rfl rfl un22 un5 un9 o24.view (hs.hasG (k := 3) rfl) fun a hk => ?_
   refine sa _ rfl hk rfl rfl rfl fun a hk => ?_
   show wpList _ _ _ [] _ _
   refine wpList_nil ?_
   refine hK52 _ _ ?_
   refine wp_ret ?_
   obtain rfl := Option.some.inj H
   exact fin hk _ [(.string (strOfNums u22))] rfl ⟨rfl, trivial⟩ ⟨rfl, (hs.pick [(0, 1)] rfl).dnil⟩

noncomputable def spec_l00Src_text.f (x0 : S_l00Src) : Option (ByteArray × Int × Int) :=
  ((spec_l00Src_next.f x0 9).bind fun y3 => ((spec_l00Src_next.f (⟨x0.code, y3.2.1, y3.2.2⟩ : S_l00Src) 200).bind fun y5 => ((spec_l00Src_next.f (⟨x0.code, y5.2.1, y5.2.2⟩ : S_l00Src) 6).bind fun y10 => (if 0 ≤ y10.1 ∧ y10.1 < (6 : Int) then ((spec_l00Src_bytes.f (⟨x0.code, y10.2.1, y10.2.2⟩ : S_l00Src) (([y3.1, 55, 56, 63, 64, y5.1]).getD (y10.1).toNat 0)).bind fun y16 => (some (y16.1, y16.2.1, y16.2.2))) else none))))
set_option maxRecDepth 100000 in
set_option maxHeartbeats 0 in
theorem spec_l00Src_text_t (w0 : World) (b0_ : Nat) (x0 : S_l00Src) (A0_0 : Option Addr) (p0_0 : Nat) (k0_0 : Chunk) (v0_0 : View (Lay.int .u8) A0_0 p0_0 x0.code k0_0) (w0_0 : Has w0 k0_0) (hs0 : Sat (blks [(1, [(b0_, .cells #[.slice A0_0 x0.code.length p0_0, .int .i64 x0.at_, .int .i64 x0.seed] 84 (0, 0))])]) w0 w0 [(2, k0_0)] [(1, [(b0_, .cells #[.slice A0_0 x0.code.length p0_0, .int .i64 x0.at_, .int .i64 x0.seed] 84 (0, 0))])]) (r : ByteArray × Int × Int) (H : spec_l00Src_text.f x0 = some r) :
    Calls Try.prog 44 #[.pointer (some ⟨b0_, 0, none⟩)] w0 (Ret (fun v w => v = .string r.1 ∧ Sat (blks [(1, [(b0_, .cells #[.slice A0_0 x0.code.length p0_0, .int .i64 x0.at_, .int .i64 x0.seed] 84 (0, 0))])]) w0 w [] [(0, [(b0_, .cells #[.slice A0_0 x0.code.length p0_0, .int .i64 r.2.1, .int .i64 r.2.2] 84 (0, 0))])])) := by
  have hs := hs0
  unfold spec_l00Src_text.f at H
  refine enter Try.func44 rfl Try.ntmps44 rfl fun a hk => ?_
  apply wp_seq_k; intro K1 hK1
  apply wp_region_lit
  refine sa _ rfl hk rfl rfl rfl fun a hk => ?_
  show wpList _ _ _ [] _ _
  refine wpList_nil ?_
  refine hK1 _ _ ?_
  apply wp_seq_k; intro K2 hK2
  apply wp_region_lit
  refine sm _ rfl hk rfl rfl rfl fun a hk => ?_
  refine sm _ rfl hk rfl rfl rfl fun a hk => ?_
  obtain ⟨y3, h4, H⟩ := bind_some H
  refine sc rfl en86 hk rfl rfl rfl (spec_l00Src_next_t _ b0_ x0 A0_0 p0_0 _ v0_0 (hs.hasD (k := 2) rfl) 9 ((hs.hand [(1, 1)] rfl).dpick [(2, 2)] rfl) _ h4) ?_
  rintro _ w ⟨rfl, hG⟩ a hk
  have hs := hs.back [(1, 1)] rfl hG [1] rfl
  refine sm _ rfl hk rfl rfl rfl fun a hk => ?_
  obtain ⟨y5, h6, H⟩ := bind_some H
  refine sc rfl en86 hk rfl rfl rfl (spec_l00Src_next_t _ b0_ (⟨x0.code, y3.2.1, y3.2.2⟩ : S_l00Src) A0_0 p0_0 _ v0_0 (hs.hasD (k := 2) rfl) 200 ((hs.hand [(1, 1)] rfl).dpick [(2, 2)] rfl) _ h6) ?_
  rintro _ w ⟨rfl, hG⟩ a hk
  have hs := hs.back [(1, 1)] rfl hG [1] rfl
  refine sbs (L := (Lay.int .i64)) (pv := [(0, (.int .i64 y3.1)), (1, (.int .i64 55)), (2, (.int .i64 56)), (3, (.int .i64 63)), (4, (.int .i64 64)), (5, (.int .i64 y5.1))]) (xs := [y3.1, 55, 56, 63, 64, y5.1]) (ess := [[.int .i64 y3.1], [.int .i64 55], [.int .i64 56], [.int .i64 63], [.int .i64 64], [.int .i64 y5.1]]) 3 hs rfl hk rfl rfl rfl un47 (bs3_2 y3.1 55 56 63 64 y5.1) (AllOwn.cons0 ⟨rfl, rfl⟩ (AllOwn.cons0 ⟨rfl, rfl⟩ (AllOwn.cons0 ⟨rfl, rfl⟩ (AllOwn.cons0 ⟨rfl, rfl⟩ (AllOwn.cons0 ⟨rfl, rfl⟩ (AllOwn.cons0 ⟨rfl, rfl⟩ AllOwn.nil)))))) rfl rfl rfl fun b7 k8 w a hk o9 hs => ?_
  refine sm _ rfl hk rfl rfl rfl fun a hk => ?_
  obtain ⟨y10, h11, H⟩ := bind_some H
  refine sc rfl en86 hk rfl rfl rfl (spec_l00Src_next_t _ b0_ (⟨x0.code, y5.2.1, y5.2.2⟩ : S_l00Src) A0_0 p0_0 _ v0_0 (hs.hasD (k := 2) rfl) 6 ((hs.hand [(1, 1)] rfl).dpick [(2, 2)] rfl) _ h11) ?_
  rintro _ w ⟨rfl, hG⟩ a hk
  have hs := hs.back [(1, 1)] rfl hG [1] rfl
  rcases ite_some H with ⟨c12, H⟩ | ⟨_, H⟩
  rotate_left
  ·cases H
  obtain ⟨b13, q14, hAc12⟩ := (o9.view).some_ y10.1 c12.1 c12.2
  refine si rfl hk rfl rfl rfl rfl un47 sz3 c12.1 c12.2 hAc12 fun a hk => ?_
  obtain ⟨_, rfl, e15⟩ := (o9.view).at_ 0 y10.1 c12.1 c12.2
  refine sl (v := (.int .i64 (([y3.1, 55, 56, 63, 64, y5.1]).getD (y10.1).toNat 0))) rfl hk rfl rfl rfl ag3 ((e15 0 _ rfl).cell (hs.hasG (k := 3) rfl)) fun a hk => ?_
  obtain ⟨y16, h17, H⟩ := bind_some H
  refine sc rfl en59 hk rfl rfl rfl (spec_l00Src_bytes_t _ b0_ (⟨x0.code, y10.2.1, y10.2.2⟩ : S_l00Src) A0_0 p0_0 _ v0_0 (hs.hasD (k := 2) rfl) (([y3.1, 55, 56, 63, 64, y5.1]).getD (y10.1).toNat 0) ((hs.hand [(1, 1)] rfl).dpick [(2, 2)] rfl) _ h17) ?_
  rintro _ w ⟨rfl, hG⟩ a hk
  have hs := hs.back [(1, 1)] rfl hG [1] rfl
  refine sa _ rfl hk rfl rfl rfl fun a hk => ?_
  show wpList _ _ _ [] _ _
  refine wpList_nil ?_
  refine hK2 _ _ ?_
  refine wp_ret ?_
  obtain rfl := Option.some.inj H
  exact fin hk _ [(.string y16.1)] rfl ⟨rfl, trivial⟩ ⟨rfl, (hs.pick [(0, 1)] rfl).dnil⟩

noncomputable def spec_TextOf.f (l0 : List Int) : Option (ByteArray) :=
  ((spec_l00Source.f l0).bind fun y3 => ((spec_l00Src_text.f y3).bind fun y10 => (some y10.1)))
set_option maxRecDepth 100000 in
set_option maxHeartbeats 0 in
theorem spec_TextOf_t (w0 : World) (A0_ : Option Addr) (p0_ : Nat) (l0 : List Int) (k0_ : Chunk) (v0_ : View (Lay.int .u8) A0_ p0_ l0 k0_) (w0_ : Has w0 k0_) (r : ByteArray) (H : spec_TextOf.f l0 = some r) :
    Calls Try.prog 8 #[.slice A0_ l0.length p0_] w0 (Ret (fun v w => v = .string r ∧ Sat [] w0 w [] [])) := by
  have hs : Sat [] w0 w0 [(1, k0_)] [] := Sat.init w0 [(1, k0_)] [] (by simp only [List.mem_cons, List.not_mem_nil, or_false]; rintro x (rfl) <;> assumption) (by simp) List.nodup_nil (by simp [blks])
  unfold spec_TextOf.f at H
  refine enter Try.func8 rfl Try.ntmps8 rfl fun a hk => ?_
  apply wp_seq_k; intro K1 hK1
  apply wp_region_lit
  refine sa _ rfl hk rfl rfl rfl fun a hk => ?_
  show wpList _ _ _ [] _ _
  refine wpList_nil ?_
  refine hK1 _ _ ?_
  apply wp_seq_k; intro K2 hK2
  apply wp_region_lit
  refine sm _ rfl hk rfl rfl rfl fun a hk => ?_
  obtain ⟨y3, h4, H⟩ := bind_some H
  refine sc rfl en43 hk rfl rfl rfl (spec_l00Source_t _ A0_ p0_ l0 _ v0_ (hs.hasD (k := 1) rfl) _ h4) ?_
  rintro _ w ⟨b6, A7, p8, k5, rfl, v9, hG⟩ a hk
  have hs := hs.call0k hG [3, 2] rfl
  obtain ⟨y10, h11, H⟩ := bind_some H
  refine sc rfl en44 hk rfl rfl rfl (spec_l00Src_text_t _ b6 y3 A7 p8 _ v9 (Has.app (hs.hasD (k := 1) rfl) (hs.hasG (k := 2) rfl)) (((hs.hand [(1, 3)] rfl).dcat 2004 (k := 1) (l := 2) rfl rfl).dpick [(2, 2004)] rfl) _ h11) ?_
  rintro _ w ⟨rfl, hG⟩ a hk
  have hs := hs.back [(1, 3)] rfl hG [3] rfl
  refine sa _ rfl hk rfl rfl rfl fun a hk => ?_
  show wpList _ _ _ [] _ _
  refine wpList_nil ?_
  refine hK2 _ _ ?_
  refine wp_ret ?_
  obtain rfl := Option.some.inj H
  exact fin hk _ [(.string y10.1)] rfl ⟨rfl, trivial⟩ ⟨rfl, (hs.pick [] rfl).dnil⟩

noncomputable def laws_at.f (l0 : List Int) (x1 : Int) (x2 : Int) : Option (Int) :=
  (bif (decide (x2 ≤ 1)) then (some 0) else (bif ((l0.length : Int) == 0) then (if x2 = 0 then none else (some (Int.tmod (w64 (x1 * 7)) x2))) else (if (l0.length : Int) = 0 then none else (if 0 ≤ (Int.tmod x1 (l0.length : Int)) ∧ (Int.tmod x1 (l0.length : Int)) < (l0.length : Int) then (if (l0.length : Int) = 0 then none else (if 0 ≤ (Int.tmod (w64 (x1 + 1)) (l0.length : Int)) ∧ (Int.tmod (w64 (x1 + 1)) (l0.length : Int)) < (l0.length : Int) then (if (l0.length : Int) = 0 then none else (if x2 = 0 then none else (some (Int.tmod (w64 ((w64 ((w64 ((IntKind.wrap .i64 (l0.getD (Int.tmod x1 (l0.length : Int)).toNat 0)) * 31)) + (IntKind.wrap .i64 (l0.getD (Int.tmod (w64 (x1 + 1)) (l0.length : Int)).toNat 0)))) + (IntKind.wrap .i64 (Int.tdiv x1 (l0.length : Int))))) x2)))) else none)) else none))))
set_option maxRecDepth 100000 in
set_option maxHeartbeats 0 in
theorem laws_at_t (w0 : World) (A0_ : Option Addr) (p0_ : Nat) (l0 : List Int) (k0_ : Chunk) (v0_ : View (Lay.int .u8) A0_ p0_ l0 k0_) (w0_ : Has w0 k0_) (x1 : Int) (x2 : Int) (r : Int) (H : laws_at.f l0 x1 x2 = some r) :
    Calls Try.prog 11 #[.slice A0_ l0.length p0_, .int .i64 x1, .int .i64 x2] w0 (Ret (fun v w => v = .int .i64 r ∧ Sat [] w0 w [] [])) := by
  have hs : Sat [] w0 w0 [(1, k0_)] [] := Sat.init w0 [(1, k0_)] [] (by simp only [List.mem_cons, List.not_mem_nil, or_false]; rintro x (rfl) <;> assumption) (by simp) List.nodup_nil (by simp [blks])
  unfold laws_at.f at H
  refine enter Try.func11 rfl Try.ntmps11 rfl fun a hk => ?_
  apply wp_seq_k; intro K1 hK1
  apply wp_region_lit
  refine sa _ rfl hk rfl rfl rfl fun a hk => ?_
  show wpList _ _ _ [] _ _
  refine wpList_nil ?_
  refine hK1 _ _ ?_
  apply wp_seq_k; intro K2 hK2
  apply wp_seq_k; intro K3 hK3
  apply wp_region_lit
  refine sm _ rfl hk rfl rfl rfl fun a hk => ?_
  refine sv (.bool (decide (x2 ≤ 1))) hk rfl rfl rfl fun a hk => ?_
  show wpList _ _ _ [] _ _
  refine wpList_nil ?_
  refine hK3 _ _ ?_
  rcases cond_some H with ⟨c4, H⟩ | ⟨c4, H⟩
  ·have hk := hk.lit 8 c4 rfl
   refine cnd_true hk rfl rfl ?_
   apply wp_seq_k; intro K5 hK5
   apply wp_region_lit
   refine sa _ rfl hk rfl rfl rfl fun a hk => ?_
   show wpList _ _ _ [] _ _
   refine wpList_nil ?_
   refine hK5 _ _ ?_
   refine wp_ret ?_
   obtain rfl := Option.some.inj H
   exact fin hk _ [(.int .i64 0)] rfl ⟨rfl, trivial⟩ ⟨rfl, (hs.pick [] rfl).dnil⟩
  ·have hk := hk.lit 8 c4 rfl
   refine cnd_false hk rfl rfl ?_
   refine wp_skip ?_
   refine hK2 _ _ ?_
   apply wp_seq_k; intro K6 hK6
   apply wp_seq_k; intro K7 hK7
   apply wp_region_lit
   refine sm _ rfl hk rfl rfl rfl fun a hk => ?_
   refine sle rfl hk rfl rfl rfl un22 fun a hk => ?_
   refine sv (.bool ((l0.length : Int) == 0)) hk rfl rfl rfl fun a hk => ?_
   show wpList _ _ _ [] _ _
   refine wpList_nil ?_
   refine hK7 _ _ ?_
   have hs := hs.pick [] rfl
   rcases cond_some H with ⟨c8, H⟩ | ⟨c8, H⟩
   ·have hk := hk.lit 11 c8 rfl
    refine cnd_true hk rfl rfl ?_
    apply wp_seq_k; intro K9 hK9
    apply wp_region_lit
    refine sm _ rfl hk rfl rfl rfl fun a hk => ?_
    refine sv (.int .i64 (w64 (x1 * 7))) hk rfl rfl rfl fun a hk => ?_
    refine sm _ rfl hk rfl rfl rfl fun a hk => ?_
    rcases ite_some H with ⟨_, H⟩ | ⟨c10, H⟩
    ·cases H
    refine srm rfl hk rfl rfl rfl rfl c10 fun a hk => ?_
    refine sa _ rfl hk rfl rfl rfl fun a hk => ?_
    show wpList _ _ _ [] _ _
    refine wpList_nil ?_
    refine hK9 _ _ ?_
    refine wp_ret ?_
    obtain rfl := Option.some.inj H
    exact fin hk _ [(.int .i64 (Int.tmod (w64 (x1 * 7)) x2))] rfl ⟨rfl, trivial⟩ ⟨rfl, (hs.pick [] rfl).dnil⟩
   ·have hk := hk.lit 11 c8 rfl
    refine cnd_false hk rfl rfl ?_
    refine wp_skip ?_
    refine hK6 _ _ ?_
    apply wp_seq_k; intro K11 hK11
    refine wp_region_tree (.q 0 (.q 1 (.q 2 (.q 3 (.q 4 (.q 5 (.q 6 (.q 7 (.q 8 (.q 9 (.q 10 (.q 11 (.q 12 (.q 13 (.q 14 (.q 15 (.q 16 (.q 17 (.q 18 (.q 19 (.q 20 (.q 21 (.q 22 (.q 23 (.alt 24 (.alt 25 (.last 26) .stop) .stop))))))))))))))))))))))))) mo (by kernel_rfl) (hs.pick [] rfl) fun _ => ?_
    have hs := hs.drew
    refine tqst (.slice A0_ l0.length p0_) hk rfl rfl rfl rfl (fun w hs => sm _ rfl hk rfl rfl rfl fun a hk => qe hk) fun a hk => ?_
    refine tqst (.int .i64 x1) hk rfl rfl rfl rfl (fun w hs => sm _ rfl hk rfl rfl rfl fun a hk => qe hk) fun a hk => ?_
    refine tqst (.slice A0_ l0.length p0_) hk rfl rfl rfl rfl (fun w hs => sm _ rfl hk rfl rfl rfl fun a hk => qe hk) fun a hk => ?_
    refine tqst (.int .i64 (l0.length : Int)) hk rfl rfl rfl rfl (fun w hs => sle rfl hk rfl rfl rfl un22 fun a hk => qe hk) fun a hk => ?_
    rcases ite_some H with ⟨_, H⟩ | ⟨c13, H⟩
    ·cases H
    refine tqst (.int .i64 (Int.tmod x1 (l0.length : Int))) hk rfl rfl rfl rfl (fun w hs => srm rfl hk rfl rfl rfl rfl c13 fun a hk => qe hk) fun a hk => ?_
    rcases ite_some H with ⟨c14, H⟩ | ⟨_, H⟩
    rotate_left
    ·cases H
    obtain ⟨b15, q16, hAc14⟩ := (v0_).some_ (Int.tmod x1 (l0.length : Int)) c14.1 c14.2
    refine tqst (.pointer (some (padd A0_ ((Int.tmod x1 (l0.length : Int)).toNat * 1)))) hk rfl rfl rfl rfl (fun w hs => si rfl hk rfl rfl rfl rfl un22 sz5 c14.1 c14.2 hAc14 fun a hk => qe hk) fun a hk => ?_
    obtain ⟨_, rfl, e17⟩ := (v0_).at_ 0 (Int.tmod x1 (l0.length : Int)) c14.1 c14.2
    refine tqst (.int .u8 (l0.getD (Int.tmod x1 (l0.length : Int)).toNat 0)) hk rfl rfl rfl rfl (fun w hs => sl (v := (.int .u8 (l0.getD (Int.tmod x1 (l0.length : Int)).toNat 0))) rfl hk rfl rfl rfl ag5 ((e17 0 _ rfl).cell (hs.hasD (k := 1) rfl)) fun a hk => qe hk) fun a hk => ?_
    refine tqst (.int .i64 (IntKind.wrap .i64 (l0.getD (Int.tmod x1 (l0.length : Int)).toNat 0))) hk rfl rfl rfl rfl (fun w hs => scn rfl hk rfl rfl rfl un3 un5 fun a hk => qe hk) fun a hk => ?_
    refine tqst (.int .i64 (w64 ((IntKind.wrap .i64 (l0.getD (Int.tmod x1 (l0.length : Int)).toNat 0)) * 31))) hk rfl rfl rfl rfl (fun w hs => sv (.int .i64 (w64 ((IntKind.wrap .i64 (l0.getD (Int.tmod x1 (l0.length : Int)).toNat 0)) * 31))) hk rfl rfl rfl fun a hk => qe hk) fun a hk => ?_
    refine tqst (.slice A0_ l0.length p0_) hk rfl rfl rfl rfl (fun w hs => sm _ rfl hk rfl rfl rfl fun a hk => qe hk) fun a hk => ?_
    refine tqst (.int .i64 x1) hk rfl rfl rfl rfl (fun w hs => sm _ rfl hk rfl rfl rfl fun a hk => qe hk) fun a hk => ?_
    refine tqst (.int .i64 (w64 (x1 + 1))) hk rfl rfl rfl rfl (fun w hs => sv (.int .i64 (w64 (x1 + 1))) hk rfl rfl rfl fun a hk => qe hk) fun a hk => ?_
    refine tqst (.slice A0_ l0.length p0_) hk rfl rfl rfl rfl (fun w hs => sm _ rfl hk rfl rfl rfl fun a hk => qe hk) fun a hk => ?_
    refine tqst (.int .i64 (l0.length : Int)) hk rfl rfl rfl rfl (fun w hs => sle rfl hk rfl rfl rfl un22 fun a hk => qe hk) fun a hk => ?_
    rcases ite_some H with ⟨_, H⟩ | ⟨c18, H⟩
    ·cases H
    refine tqst (.int .i64 (Int.tmod (w64 (x1 + 1)) (l0.length : Int))) hk rfl rfl rfl rfl (fun w hs => srm rfl hk rfl rfl rfl rfl c18 fun a hk => qe hk) fun a hk => ?_
    rcases ite_some H with ⟨c19, H⟩ | ⟨_, H⟩
    rotate_left
    ·cases H
    obtain ⟨b20, q21, hAc19⟩ := (v0_).some_ (Int.tmod (w64 (x1 + 1)) (l0.length : Int)) c19.1 c19.2
    refine tqst (.pointer (some (padd A0_ ((Int.tmod (w64 (x1 + 1)) (l0.length : Int)).toNat * 1)))) hk rfl rfl rfl rfl (fun w hs => si rfl hk rfl rfl rfl rfl un22 sz5 c19.1 c19.2 hAc19 fun a hk => qe hk) fun a hk => ?_
    obtain ⟨_, rfl, e22⟩ := (v0_).at_ 0 (Int.tmod (w64 (x1 + 1)) (l0.length : Int)) c19.1 c19.2
    refine tqst (.int .u8 (l0.getD (Int.tmod (w64 (x1 + 1)) (l0.length : Int)).toNat 0)) hk rfl rfl rfl rfl (fun w hs => sl (v := (.int .u8 (l0.getD (Int.tmod (w64 (x1 + 1)) (l0.length : Int)).toNat 0))) rfl hk rfl rfl rfl ag5 ((e22 0 _ rfl).cell (hs.hasD (k := 1) rfl)) fun a hk => qe hk) fun a hk => ?_
    refine tqst (.int .i64 (IntKind.wrap .i64 (l0.getD (Int.tmod (w64 (x1 + 1)) (l0.length : Int)).toNat 0))) hk rfl rfl rfl rfl (fun w hs => scn rfl hk rfl rfl rfl un3 un5 fun a hk => qe hk) fun a hk => ?_
    refine tqst (.int .i64 (w64 ((w64 ((IntKind.wrap .i64 (l0.getD (Int.tmod x1 (l0.length : Int)).toNat 0)) * 31)) + (IntKind.wrap .i64 (l0.getD (Int.tmod (w64 (x1 + 1)) (l0.length : Int)).toNat 0))))) hk rfl rfl rfl rfl (fun w hs => sv (.int .i64 (w64 ((w64 ((IntKind.wrap .i64 (l0.getD (Int.tmod x1 (l0.length : Int)).toNat 0)) * 31)) + (IntKind.wrap .i64 (l0.getD (Int.tmod (w64 (x1 + 1)) (l0.length : Int)).toNat 0))))) hk rfl rfl rfl fun a hk => qe hk) fun a hk => ?_
    refine tqst (.int .i64 x1) hk rfl rfl rfl rfl (fun w hs => sm _ rfl hk rfl rfl rfl fun a hk => qe hk) fun a hk => ?_
    refine tqst (.slice A0_ l0.length p0_) hk rfl rfl rfl rfl (fun w hs => sm _ rfl hk rfl rfl rfl fun a hk => qe hk) fun a hk => ?_
    refine tqst (.int .i64 (l0.length : Int)) hk rfl rfl rfl rfl (fun w hs => sle rfl hk rfl rfl rfl un22 fun a hk => qe hk) fun a hk => ?_
    rcases ite_some H with ⟨_, H⟩ | ⟨c23, H⟩
    ·cases H
    refine tqst (.int .i64 (IntKind.wrap .i64 (Int.tdiv x1 (l0.length : Int)))) hk rfl rfl rfl rfl (fun w hs => sqo rfl hk rfl rfl rfl rfl c23 fun a hk => qe hk) fun a hk => ?_
    refine tqst (.int .i64 (w64 ((w64 ((w64 ((IntKind.wrap .i64 (l0.getD (Int.tmod x1 (l0.length : Int)).toNat 0)) * 31)) + (IntKind.wrap .i64 (l0.getD (Int.tmod (w64 (x1 + 1)) (l0.length : Int)).toNat 0)))) + (IntKind.wrap .i64 (Int.tdiv x1 (l0.length : Int)))))) hk rfl rfl rfl rfl (fun w hs => sv (.int .i64 (w64 ((w64 ((w64 ((IntKind.wrap .i64 (l0.getD (Int.tmod x1 (l0.length : Int)).toNat 0)) * 31)) + (IntKind.wrap .i64 (l0.getD (Int.tmod (w64 (x1 + 1)) (l0.length : Int)).toNat 0)))) + (IntKind.wrap .i64 (Int.tdiv x1 (l0.length : Int)))))) hk rfl rfl rfl fun a hk => qe hk) fun a hk => ?_
    refine tsst hk rfl rfl (fun K_r12_24 hK_r12_24 w hF => ?_) wt_stop
    have hs := hs.f hF
    refine sm _ rfl hk rfl rfl rfl fun a hk => ?_
    refine se (hs.pick [] rfl) hk (hK_r12_24 _ _ ?_)
    refine tsst hk rfl rfl (fun K_r12_25 hK_r12_25 w hF => ?_) wt_stop
    have hs := hs.f hF
    rcases ite_some H with ⟨_, H⟩ | ⟨c24, H⟩
    ·cases H
    refine srm rfl hk rfl rfl rfl rfl c24 fun a hk => ?_
    refine se (hs.pick [] rfl) hk (hK_r12_25 _ _ ?_)
    refine tlst hk rfl rfl fun K_r12_26 hK_r12_26 w hF => ?_
    have hs := hs.f hF
    refine sa _ rfl hk rfl rfl rfl fun a hk => ?_
    refine se trivial hk (hK_r12_26 _ _ fun w hF => ?_)
    have hs := hs.f hF
    refine hK11 _ _ ?_
    refine wp_ret ?_
    obtain rfl := Option.some.inj H
    exact fin hk _ [(.int .i64 (Int.tmod (w64 ((w64 ((w64 ((IntKind.wrap .i64 (l0.getD (Int.tmod x1 (l0.length : Int)).toNat 0)) * 31)) + (IntKind.wrap .i64 (l0.getD (Int.tmod (w64 (x1 + 1)) (l0.length : Int)).toNat 0)))) + (IntKind.wrap .i64 (Int.tdiv x1 (l0.length : Int))))) x2))] rfl ⟨rfl, trivial⟩ ⟨rfl, (hs.pick [] rfl).dnil⟩

noncomputable def spec_l00Src_key.f (x0 : S_l00Src) : Option (ByteArray × Int × Int) :=
  ((spec_l00Src_bytes.f x0 32).bind fun y3 => (some (y3.1, y3.2.1, y3.2.2)))
set_option maxRecDepth 100000 in
set_option maxHeartbeats 0 in
theorem spec_l00Src_key_t (w0 : World) (b0_ : Nat) (x0 : S_l00Src) (A0_0 : Option Addr) (p0_0 : Nat) (k0_0 : Chunk) (v0_0 : View (Lay.int .u8) A0_0 p0_0 x0.code k0_0) (w0_0 : Has w0 k0_0) (hs0 : Sat (blks [(1, [(b0_, .cells #[.slice A0_0 x0.code.length p0_0, .int .i64 x0.at_, .int .i64 x0.seed] 84 (0, 0))])]) w0 w0 [(2, k0_0)] [(1, [(b0_, .cells #[.slice A0_0 x0.code.length p0_0, .int .i64 x0.at_, .int .i64 x0.seed] 84 (0, 0))])]) (r : ByteArray × Int × Int) (H : spec_l00Src_key.f x0 = some r) :
    Calls Try.prog 53 #[.pointer (some ⟨b0_, 0, none⟩)] w0 (Ret (fun v w => v = .string r.1 ∧ Sat (blks [(1, [(b0_, .cells #[.slice A0_0 x0.code.length p0_0, .int .i64 x0.at_, .int .i64 x0.seed] 84 (0, 0))])]) w0 w [] [(0, [(b0_, .cells #[.slice A0_0 x0.code.length p0_0, .int .i64 r.2.1, .int .i64 r.2.2] 84 (0, 0))])])) := by
  have hs := hs0
  unfold spec_l00Src_key.f at H
  refine enter Try.func53 rfl Try.ntmps53 rfl fun a hk => ?_
  apply wp_seq_k; intro K1 hK1
  apply wp_region_lit
  refine sa _ rfl hk rfl rfl rfl fun a hk => ?_
  show wpList _ _ _ [] _ _
  refine wpList_nil ?_
  refine hK1 _ _ ?_
  apply wp_seq_k; intro K2 hK2
  apply wp_region_lit
  refine sm _ rfl hk rfl rfl rfl fun a hk => ?_
  obtain ⟨y3, h4, H⟩ := bind_some H
  refine sc rfl en59 hk rfl rfl rfl (spec_l00Src_bytes_t _ b0_ x0 A0_0 p0_0 _ v0_0 (hs.hasD (k := 2) rfl) 32 ((hs.hand [(1, 1)] rfl).dpick [(2, 2)] rfl) _ h4) ?_
  rintro _ w ⟨rfl, hG⟩ a hk
  have hs := hs.back [(1, 1)] rfl hG [1] rfl
  refine sa _ rfl hk rfl rfl rfl fun a hk => ?_
  show wpList _ _ _ [] _ _
  refine wpList_nil ?_
  refine hK2 _ _ ?_
  refine wp_ret ?_
  obtain rfl := Option.some.inj H
  exact fin hk _ [(.string y3.1)] rfl ⟨rfl, trivial⟩ ⟨rfl, (hs.pick [(0, 1)] rfl).dnil⟩

noncomputable def spec_KeyOf.f (l0 : List Int) : Option (ByteArray) :=
  ((spec_l00Source.f l0).bind fun y3 => ((spec_l00Src_key.f y3).bind fun y10 => (some y10.1)))
set_option maxRecDepth 100000 in
set_option maxHeartbeats 0 in
theorem spec_KeyOf_t (w0 : World) (A0_ : Option Addr) (p0_ : Nat) (l0 : List Int) (k0_ : Chunk) (v0_ : View (Lay.int .u8) A0_ p0_ l0 k0_) (w0_ : Has w0 k0_) (r : ByteArray) (H : spec_KeyOf.f l0 = some r) :
    Calls Try.prog 16 #[.slice A0_ l0.length p0_] w0 (Ret (fun v w => v = .string r ∧ Sat [] w0 w [] [])) := by
  have hs : Sat [] w0 w0 [(1, k0_)] [] := Sat.init w0 [(1, k0_)] [] (by simp only [List.mem_cons, List.not_mem_nil, or_false]; rintro x (rfl) <;> assumption) (by simp) List.nodup_nil (by simp [blks])
  unfold spec_KeyOf.f at H
  refine enter Try.func16 rfl Try.ntmps16 rfl fun a hk => ?_
  apply wp_seq_k; intro K1 hK1
  apply wp_region_lit
  refine sa _ rfl hk rfl rfl rfl fun a hk => ?_
  show wpList _ _ _ [] _ _
  refine wpList_nil ?_
  refine hK1 _ _ ?_
  apply wp_seq_k; intro K2 hK2
  apply wp_region_lit
  refine sm _ rfl hk rfl rfl rfl fun a hk => ?_
  obtain ⟨y3, h4, H⟩ := bind_some H
  refine sc rfl en43 hk rfl rfl rfl (spec_l00Source_t _ A0_ p0_ l0 _ v0_ (hs.hasD (k := 1) rfl) _ h4) ?_
  rintro _ w ⟨b6, A7, p8, k5, rfl, v9, hG⟩ a hk
  have hs := hs.call0k hG [3, 2] rfl
  obtain ⟨y10, h11, H⟩ := bind_some H
  refine sc rfl en53 hk rfl rfl rfl (spec_l00Src_key_t _ b6 y3 A7 p8 _ v9 (Has.app (hs.hasD (k := 1) rfl) (hs.hasG (k := 2) rfl)) (((hs.hand [(1, 3)] rfl).dcat 2004 (k := 1) (l := 2) rfl rfl).dpick [(2, 2004)] rfl) _ h11) ?_
  rintro _ w ⟨rfl, hG⟩ a hk
  have hs := hs.back [(1, 3)] rfl hG [3] rfl
  refine sa _ rfl hk rfl rfl rfl fun a hk => ?_
  show wpList _ _ _ [] _ _
  refine wpList_nil ?_
  refine hK2 _ _ ?_
  refine wp_ret ?_
  obtain rfl := Option.some.inj H
  exact fin hk _ [(.string y10.1)] rfl ⟨rfl, trivial⟩ ⟨rfl, (hs.pick [] rfl).dnil⟩

noncomputable def slices_IndexFunc_string_string.s0 (l0 : List ByteArray) (q1 : ByteArray → Option (Bool)) (u6 : Int) : Option ((Int) ⊕ Ex (Unit) (Int)) :=
  (bif (decide (u6 < (l0.length : Int))) then (if 0 ≤ u6 ∧ u6 < (l0.length : Int) then ((q1 (l0.getD u6.toNat ByteArray.empty)).bind fun y25 => (bif y25 then (some (.inr (.ret u6))) else (some (.inl (w64 (u6 + 1)))))) else none) else (some (.inr (.out ()))))
noncomputable def slices_IndexFunc_string_string.f (l0 : List ByteArray) (q1 : ByteArray → Option (Bool)) : Option (Int) :=
  ((loopO (fun s => slices_IndexFunc_string_string.s0 l0 q1 s) 0).bind fun o => match o with | .out _ => (some (-1)) | .ret r => (some r))
set_option maxRecDepth 100000 in
set_option maxHeartbeats 0 in
theorem slices_IndexFunc_string_string_t (w0 : World) (A0_ : Option Addr) (p0_ : Nat) (l0 : List ByteArray) (k0_ : Chunk) (v0_ : View Lay.str A0_ p0_ l0 k0_) (w0_ : Has w0 k0_) (f1_ : FuncId) (c1_ : List Value) (e1_ : Enters Try.prog f1_) (q1 : ByteArray → Option (Bool)) (k1_ : Chunk) (t1_ : ∀ w, Has w k1_ → ∀ (z0 : ByteArray) (r : Bool), q1 z0 = some r → Calls Try.prog f1_ (([.string z0] : List Value) ++ c1_).toArray w (Ret (fun v w2 => v = .bool r ∧ Sat [] w w2 [] []))) (w1_ : Has w0 k1_) (r : Int) (H : slices_IndexFunc_string_string.f l0 q1 = some r) :
    Calls Try.prog 138 #[.slice A0_ l0.length p0_, .func (.func f1_) #[] c1_.toArray] w0 (Ret (fun v w => v = .int .i64 r ∧ Sat [] w0 w [] [])) := by
  have hs : Sat [] w0 w0 [(1, k0_), (2, k1_)] [] := Sat.init w0 [(1, k0_), (2, k1_)] [] (by simp only [List.mem_cons, List.not_mem_nil, or_false]; rintro x (rfl | rfl) <;> assumption) (by simp) List.nodup_nil (by simp [blks])
  unfold slices_IndexFunc_string_string.f at H
  refine enter Try.func138 rfl Try.ntmps138 rfl fun a hk => ?_
  apply wp_seq_k; intro K1 hK1
  apply wp_region_lit
  refine sa _ rfl hk rfl rfl rfl fun a hk => ?_
  show wpList _ _ _ [] _ _
  refine wpList_nil ?_
  refine hK1 _ _ ?_
  apply wp_seq_k; intro K2 hK2
  apply wp_seq_k; intro K3 hK3
  apply wp_region_lit
  refine sm _ rfl hk rfl rfl rfl fun a hk => ?_
  refine sle rfl hk rfl rfl rfl un86 fun a hk => ?_
  refine sm _ rfl hk rfl rfl rfl fun a hk => ?_
  show wpList _ _ _ [] _ _
  refine wpList_nil ?_
  refine hK3 _ _ ?_
  obtain ⟨o7, h8, HL9⟩ := bind_some H
  clear H
  obtain ⟨R10, hR10⟩ : ∃ R : Act → World → Prop, R = fun a w => o7 = .out () ∧ Kn [] 19 a ∧ Sat [] w0 w [(1, k0_), (2, k1_)] [] := ⟨_, rfl⟩
  refine wp_cutq R10 ?_ ?_
  ·refine wp_block ?_
   obtain ⟨fu12, h8⟩ := loopO_some h8
   obtain ⟨I11, hI11⟩ : ∃ I : Nat → Act → World → Prop, I = fun fu a w => ∃ (u6 : Int), loopN (fun s => slices_IndexFunc_string_string.s0 l0 q1 s) fu u6 = some o7 ∧ Kn [(0, (.slice A0_ l0.length p0_)), (1, (.func (.func f1_) #[] c1_.toArray)), (7, (.int .i64 (l0.length : Int))), (8, (.int .i64 u6))] 19 a ∧ Sat [] w0 w [(1, k0_), (2, k1_)] [] := ⟨_, rfl⟩
   refine wp_loop_ghost I11 fu12 ?_ ?_
   ·rw [hI11]
    exact ⟨0, h8, (hk.c 0 rfl (hk.c 1 rfl (hk.c 7 rfl (hk.c 8 rfl hk.k)))), (hs.pick [] rfl)⟩
   ·clear h8 hk hs
    intro fu12 a w hI0
    rw [hI11] at hI0
    obtain ⟨u6, hi, hk, hs⟩ := hI0
    obtain ⟨x13, H, h14⟩ := loop_round hi
    try dsimp only at H
    unfold slices_IndexFunc_string_string.s0 at H
    apply wp_seq_k; intro K15 hK15
    apply wp_region_lit
    refine sv (.bool (decide (u6 < (l0.length : Int)))) hk rfl rfl rfl fun a hk => ?_
    show wpList _ _ _ [] _ _
    refine wpList_nil ?_
    refine hK15 _ _ ?_
    apply wp_seq_k; intro K16 hK16
    rcases cond_some H with ⟨c17, H⟩ | ⟨c17, H⟩
    ·have hk := hk.lit 9 c17 rfl
     refine cnd_true hk rfl rfl ?_
     refine wp_skip ?_
     refine hK16 _ _ ?_
     have hs := hs.pick [] rfl
     apply wp_seq_k; intro K18 hK18
     refine wp_block ?_
     apply wp_seq_k; intro K19 hK19
     apply wp_region_lit
     refine sm _ rfl hk rfl rfl rfl fun a hk => ?_
     refine sa _ rfl hk rfl rfl rfl fun a hk => ?_
     show wpList _ _ _ [] _ _
     refine wpList_nil ?_
     refine hK19 _ _ ?_
     apply wp_seq_k; intro K20 hK20
     apply wp_region_lit
     refine sm _ rfl hk rfl rfl rfl fun a hk => ?_
     refine sm _ rfl hk rfl rfl rfl fun a hk => ?_
     refine sm _ rfl hk rfl rfl rfl fun a hk => ?_
     rcases ite_some H with ⟨c21, H⟩ | ⟨_, H⟩
     rotate_left
     ·cases H
     obtain ⟨b22, q23, hAc21⟩ := (v0_).some_ u6 c21.1 c21.2
     refine si rfl hk rfl rfl rfl rfl un86 sz9 c21.1 c21.2 hAc21 fun a hk => ?_
     obtain ⟨_, rfl, e24⟩ := (v0_).at_ ByteArray.empty u6 c21.1 c21.2
     refine sl (v := (.string (l0.getD u6.toNat ByteArray.empty))) rfl hk rfl rfl rfl ag9 ((e24 0 _ rfl).cell (hs.hasD (k := 1) rfl)) fun a hk => ?_
     obtain ⟨y25, h26, H⟩ := bind_some H
     refine scv (vs := ([(.string (l0.getD u6.toNat ByteArray.empty))] : List Value) ++ c1_) rfl rfl e1_ hk rfl rfl rfl (t1_ _ (hs.hasD (k := 2) rfl) (l0.getD u6.toNat ByteArray.empty) _ h26) ?_
     rintro _ w ⟨rfl, hG⟩ a hk
     have hs := hs.call0 hG
     show wpList _ _ _ [] _ _
     refine wpList_nil ?_
     refine hK20 _ _ ?_
     rcases cond_some H with ⟨c27, H⟩ | ⟨c27, H⟩
     ·have hk := hk.lit 16 c27 rfl
      refine cnd_true hk rfl rfl ?_
      apply wp_seq_k; intro K28 hK28
      apply wp_region_lit
      refine sm _ rfl hk rfl rfl rfl fun a hk => ?_
      refine sa _ rfl hk rfl rfl rfl fun a hk => ?_
      show wpList _ _ _ [] _ _
      refine wpList_nil ?_
      refine hK28 _ _ ?_
      refine wp_ret ?_
      obtain rfl := Option.some.inj H
      have ho7 := h14
      try dsimp only at ho7
      subst ho7
      have H := HL9
      try dsimp only at H
      obtain rfl := Option.some.inj H
      exact fin hk _ [(.int .i64 u6)] rfl ⟨rfl, trivial⟩ ⟨rfl, (hs.pick [] rfl).dnil⟩
     ·have hk := hk.lit 16 c27 rfl
      refine cnd_false hk rfl rfl ?_
      refine wp_skip ?_
      refine hK18 _ _ ?_
      apply wp_region_lit
      refine sv (.int .i64 (w64 (u6 + 1))) hk rfl rfl rfl fun a hk => ?_
      refine sm _ rfl hk rfl rfl rfl fun a hk => ?_
      show wpList _ _ _ [] _ _
      refine wpList_nil ?_
      obtain rfl := Option.some.inj H
      obtain ⟨m29, hmm29, h14⟩ := h14
      show ∃ n', n' < _ ∧ I11 n' _ _
      refine ⟨m29, hmm29, ?_⟩
      rw [hI11]
      exact ⟨(w64 (u6 + 1)), h14, (hk.c 0 rfl (hk.c 1 rfl (hk.c 7 rfl (hk.c 8 rfl hk.k)))), (hs.pick [] rfl)⟩
    ·have hk := hk.lit 9 c17 rfl
     refine cnd_false hk rfl rfl ?_
     refine wp_exit ?_
     obtain rfl := Option.some.inj H
     show R10 _ _
     rw [hR10]
     exact ⟨h14.symm, hk.k, (hs.pick [] rfl)⟩
  ·intro a w hR0
   rw [hR10] at hR0
   obtain ⟨rfl, hk, hs⟩ := hR0
   have H := HL9
   try dsimp only at H
   refine hK2 _ _ ?_
   apply wp_seq_k; intro K30 hK30
   apply wp_region_lit
   refine sa _ rfl hk rfl rfl rfl fun a hk => ?_
   show wpList _ _ _ [] _ _
   refine wpList_nil ?_
   refine hK30 _ _ ?_
   have hs := hs.pick [] rfl
   refine wp_ret ?_
   obtain rfl := Option.some.inj H
   exact fin hk _ [(.int .i64 (-1))] rfl ⟨rfl, trivial⟩ ⟨rfl, (hs.pick [] rfl).dnil⟩

noncomputable def slices_ContainsFunc_string_string.f (l0 : List ByteArray) (q1 : ByteArray → Option (Bool)) : Option (Bool) :=
  ((slices_IndexFunc_string_string.f l0 q1).bind fun y3 => (some (decide (y3 ≥ 0))))
set_option maxRecDepth 100000 in
set_option maxHeartbeats 0 in
theorem slices_ContainsFunc_string_string_t (w0 : World) (A0_ : Option Addr) (p0_ : Nat) (l0 : List ByteArray) (k0_ : Chunk) (v0_ : View Lay.str A0_ p0_ l0 k0_) (w0_ : Has w0 k0_) (f1_ : FuncId) (c1_ : List Value) (e1_ : Enters Try.prog f1_) (q1 : ByteArray → Option (Bool)) (k1_ : Chunk) (t1_ : ∀ w, Has w k1_ → ∀ (z0 : ByteArray) (r : Bool), q1 z0 = some r → Calls Try.prog f1_ (([.string z0] : List Value) ++ c1_).toArray w (Ret (fun v w2 => v = .bool r ∧ Sat [] w w2 [] []))) (w1_ : Has w0 k1_) (r : Bool) (H : slices_ContainsFunc_string_string.f l0 q1 = some r) :
    Calls Try.prog 120 #[.slice A0_ l0.length p0_, .func (.func f1_) #[] c1_.toArray] w0 (Ret (fun v w => v = .bool r ∧ Sat [] w0 w [] [])) := by
  have hs : Sat [] w0 w0 [(1, k0_), (2, k1_)] [] := Sat.init w0 [(1, k0_), (2, k1_)] [] (by simp only [List.mem_cons, List.not_mem_nil, or_false]; rintro x (rfl | rfl) <;> assumption) (by simp) List.nodup_nil (by simp [blks])
  unfold slices_ContainsFunc_string_string.f at H
  refine enter Try.func120 rfl Try.ntmps120 rfl fun a hk => ?_
  apply wp_seq_k; intro K1 hK1
  apply wp_region_lit
  refine sa _ rfl hk rfl rfl rfl fun a hk => ?_
  show wpList _ _ _ [] _ _
  refine wpList_nil ?_
  refine hK1 _ _ ?_
  apply wp_seq_k; intro K2 hK2
  apply wp_region_lit
  refine sm _ rfl hk rfl rfl rfl fun a hk => ?_
  refine sm _ rfl hk rfl rfl rfl fun a hk => ?_
  obtain ⟨y3, h4, H⟩ := bind_some H
  refine sc rfl en138 hk rfl rfl rfl (slices_IndexFunc_string_string_t _ A0_ p0_ l0 _ v0_ (hs.hasD (k := 1) rfl) f1_ c1_ e1_ q1 k1_ t1_ (hs.hasD (k := 2) rfl) _ h4) ?_
  rintro _ w ⟨rfl, hG⟩ a hk
  have hs := hs.call0 hG
  refine sv (.bool (decide (y3 ≥ 0))) hk rfl rfl rfl fun a hk => ?_
  refine sa _ rfl hk rfl rfl rfl fun a hk => ?_
  show wpList _ _ _ [] _ _
  refine wpList_nil ?_
  refine hK2 _ _ ?_
  refine wp_ret ?_
  obtain rfl := Option.some.inj H
  exact fin hk _ [(.bool (decide (y3 ≥ 0)))] rfl ⟨rfl, trivial⟩ ⟨rfl, (hs.pick [] rfl).dnil⟩

noncomputable def impl_areAll_string__c1.f (x0 : ByteArray) (q1 : ByteArray → Option (Bool)) : Option (Bool) :=
  ((q1 x0).bind fun y3 => (some (!y3)))
set_option maxRecDepth 100000 in
set_option maxHeartbeats 0 in
theorem impl_areAll_string__c1_t (w0 : World) (x0 : ByteArray) (b1_ : Nat) (f1_ : FuncId) (c1_ : List Value) (e1_ : Enters Try.prog f1_) (q1 : ByteArray → Option (Bool)) (k1_ : Chunk) (t1_ : ∀ w, Has w k1_ → ∀ (z0 : ByteArray) (r : Bool), q1 z0 = some r → Calls Try.prog f1_ (([.string z0] : List Value) ++ c1_).toArray w (Ret (fun v w2 => v = .bool r ∧ Sat [] w w2 [] []))) (w1_ : Has w0 k1_) (h1_ : Has w0 [(b1_, .cells #[.func (.func f1_) #[] c1_.toArray] 88 (0, 0))]) (r : Bool) (H : impl_areAll_string__c1.f x0 q1 = some r) :
    Calls Try.prog 121 #[.string x0, .pointer (some ⟨b1_, 0, none⟩)] w0 (Ret (fun v w => v = .bool r ∧ Sat [] w0 w [] [])) := by
  have hs : Sat [] w0 w0 [(2, k1_), (1, [(b1_, .cells #[.func (.func f1_) #[] c1_.toArray] 88 (0, 0))])] [] := Sat.init w0 [(2, k1_), (1, [(b1_, .cells #[.func (.func f1_) #[] c1_.toArray] 88 (0, 0))])] [] (by simp only [List.mem_cons, List.not_mem_nil, or_false]; rintro x (rfl | rfl) <;> assumption) (by simp) List.nodup_nil (by simp [blks])
  unfold impl_areAll_string__c1.f at H
  refine enter Try.func121 rfl Try.ntmps121 rfl fun a hk => ?_
  apply wp_seq_k; intro K1 hK1
  apply wp_region_lit
  refine sa _ rfl hk rfl rfl rfl fun a hk => ?_
  show wpList _ _ _ [] _ _
  refine wpList_nil ?_
  refine hK1 _ _ ?_
  apply wp_seq_k; intro K2 hK2
  apply wp_region_lit
  refine sl rfl hk rfl rfl rfl ag88 (box_cellD hs (k := 1) rfl rfl) fun a hk => ?_
  refine sm _ rfl hk rfl rfl rfl fun a hk => ?_
  obtain ⟨y3, h4, H⟩ := bind_some H
  refine scv (vs := ([(.string x0)] : List Value) ++ c1_) rfl rfl e1_ hk rfl rfl rfl (t1_ _ (hs.hasD (k := 2) rfl) x0 _ h4) ?_
  rintro _ w ⟨rfl, hG⟩ a hk
  have hs := hs.call0 hG
  refine sv (.bool (!y3)) hk rfl rfl rfl fun a hk => ?_
  refine sa _ rfl hk rfl rfl rfl fun a hk => ?_
  show wpList _ _ _ [] _ _
  refine wpList_nil ?_
  refine hK2 _ _ ?_
  refine wp_ret ?_
  obtain rfl := Option.some.inj H
  exact fin hk _ [(.bool (!y3))] rfl ⟨rfl, trivial⟩ ⟨rfl, (hs.pick [] rfl).dnil⟩

noncomputable def impl_areAll_string.f (l0 : List ByteArray) (q1 : ByteArray → Option (Bool)) : Option (Bool) :=
  ((slices_ContainsFunc_string_string.f l0 (fun z0 => impl_areAll_string__c1.f z0 q1)).bind fun y4 => (some (!y4)))
set_option maxRecDepth 100000 in
set_option maxHeartbeats 0 in
theorem impl_areAll_string_t (w0 : World) (A0_ : Option Addr) (p0_ : Nat) (l0 : List ByteArray) (k0_ : Chunk) (v0_ : View Lay.str A0_ p0_ l0 k0_) (w0_ : Has w0 k0_) (f1_ : FuncId) (c1_ : List Value) (e1_ : Enters Try.prog f1_) (q1 : ByteArray → Option (Bool)) (k1_ : Chunk) (t1_ : ∀ w, Has w k1_ → ∀ (z0 : ByteArray) (r : Bool), q1 z0 = some r → Calls Try.prog f1_ (([.string z0] : List Value) ++ c1_).toArray w (Ret (fun v w2 => v = .bool r ∧ Sat [] w w2 [] []))) (w1_ : Has w0 k1_) (r : Bool) (H : impl_areAll_string.f l0 q1 = some r) :
    Calls Try.prog 87 #[.slice A0_ l0.length p0_, .func (.func f1_) #[] c1_.toArray] w0 (Ret (fun v w => v = .bool r ∧ Sat [] w0 w [] [])) := by
  have hs : Sat [] w0 w0 [(1, k0_), (2, k1_)] [] := Sat.init w0 [(1, k0_), (2, k1_)] [] (by simp only [List.mem_cons, List.not_mem_nil, or_false]; rintro x (rfl | rfl) <;> assumption) (by simp) List.nodup_nil (by simp [blks])
  unfold impl_areAll_string.f at H
  refine enter Try.func87 rfl Try.ntmps87 rfl fun a hk => ?_
  apply wp_seq_k; intro K1 hK1
  apply wp_region_lit
  refine sbx 3 hs rfl hk rfl rfl rfl rfl fun b2 w a hk hs => ?_
  refine sa _ rfl hk rfl rfl rfl fun a hk => ?_
  show wpList _ _ _ [] _ _
  refine wpList_nil ?_
  refine hK1 _ _ ?_
  apply wp_seq_k; intro K3 hK3
  apply wp_region_lit
  refine sm _ rfl hk rfl rfl rfl fun a hk => ?_
  refine smf (cs := [.pointer (some ⟨b2, 0, none⟩)]) rfl hk rfl rfl rfl fun a hk => ?_
  obtain ⟨y4, h5, H⟩ := bind_some H
  refine sc rfl en120 hk rfl rfl rfl (slices_ContainsFunc_string_string_t _ A0_ p0_ l0 _ v0_ (hs.hasD (k := 1) rfl) 121 [.pointer (some ⟨b2, 0, none⟩)] en121 (fun z0 => impl_areAll_string__c1.f z0 q1) ([(b2, .cells #[.func (.func f1_) #[] c1_.toArray] 88 (0, 0))] ++ k1_) (fun w hz z0 r h => impl_areAll_string__c1_t w z0 _ f1_ c1_ e1_ q1 k1_ t1_ (Has.right hz) (Has.left hz) r h) (Has.app (hs.hasG (k := 3) rfl) (hs.hasD (k := 2) rfl)) _ h5) ?_
  rintro _ w ⟨rfl, hG⟩ a hk
  have hs := hs.call0 hG
  refine sv (.bool (!y4)) hk rfl rfl rfl fun a hk => ?_
  refine sa _ rfl hk rfl rfl rfl fun a hk => ?_
  show wpList _ _ _ [] _ _
  refine wpList_nil ?_
  refine hK3 _ _ ?_
  refine wp_ret ?_
  obtain rfl := Option.some.inj H
  exact fin hk _ [(.bool (!y4))] rfl ⟨rfl, trivial⟩ ⟨rfl, (hs.pick [] rfl).dnil⟩

noncomputable def impl_areShort_c1.f (x0 : ByteArray) : Option (Bool) :=
  (some (decide ((x0.size : Int) ≤ 65536)))
set_option maxRecDepth 100000 in
set_option maxHeartbeats 0 in
theorem impl_areShort_c1_t (w0 : World) (x0 : ByteArray) (r : Bool) (H : impl_areShort_c1.f x0 = some r) :
    Calls Try.prog 88 #[.string x0] w0 (Ret (fun v w => v = .bool r ∧ Sat [] w0 w [] [])) := by
  have hs : Sat [] w0 w0 [] [] := Sat.init w0 [] [] (by simp) (by simp) List.nodup_nil (by simp [blks])
  unfold impl_areShort_c1.f at H
  refine enter Try.func88 rfl Try.ntmps88 rfl fun a hk => ?_
  apply wp_seq_k; intro K1 hK1
  apply wp_region_lit
  refine sa _ rfl hk rfl rfl rfl fun a hk => ?_
  show wpList _ _ _ [] _ _
  refine wpList_nil ?_
  refine hK1 _ _ ?_
  apply wp_seq_k; intro K2 hK2
  apply wp_region_lit
  refine sm _ rfl hk rfl rfl rfl fun a hk => ?_
  refine sles rfl hk rfl rfl rfl un9 fun a hk => ?_
  refine sv (.bool (decide ((x0.size : Int) ≤ 65536))) hk rfl rfl rfl fun a hk => ?_
  refine sa _ rfl hk rfl rfl rfl fun a hk => ?_
  show wpList _ _ _ [] _ _
  refine wpList_nil ?_
  refine hK2 _ _ ?_
  refine wp_ret ?_
  obtain rfl := Option.some.inj H
  exact fin hk _ [(.bool (decide ((x0.size : Int) ≤ 65536)))] rfl ⟨rfl, trivial⟩ ⟨rfl, (hs.pick [] rfl).dnil⟩

noncomputable def impl_areShort.f (l0 : List ByteArray) : Option (Bool) :=
  ((impl_areAll_string.f l0 impl_areShort_c1.f).bind fun y3 => (some y3))
set_option maxRecDepth 100000 in
set_option maxHeartbeats 0 in
theorem impl_areShort_t (w0 : World) (A0_ : Option Addr) (p0_ : Nat) (l0 : List ByteArray) (k0_ : Chunk) (v0_ : View Lay.str A0_ p0_ l0 k0_) (w0_ : Has w0 k0_) (r : Bool) (H : impl_areShort.f l0 = some r) :
    Calls Try.prog 45 #[.slice A0_ l0.length p0_] w0 (Ret (fun v w => v = .bool r ∧ Sat [] w0 w [] [])) := by
  have hs : Sat [] w0 w0 [(1, k0_)] [] := Sat.init w0 [(1, k0_)] [] (by simp only [List.mem_cons, List.not_mem_nil, or_false]; rintro x (rfl) <;> assumption) (by simp) List.nodup_nil (by simp [blks])
  unfold impl_areShort.f at H
  refine enter Try.func45 rfl Try.ntmps45 rfl fun a hk => ?_
  apply wp_seq_k; intro K1 hK1
  apply wp_region_lit
  refine sa _ rfl hk rfl rfl rfl fun a hk => ?_
  show wpList _ _ _ [] _ _
  refine wpList_nil ?_
  refine hK1 _ _ ?_
  apply wp_seq_k; intro K2 hK2
  apply wp_region_lit
  refine sm _ rfl hk rfl rfl rfl fun a hk => ?_
  obtain ⟨y3, h4, H⟩ := bind_some H
  refine sc rfl en87 hk rfl rfl rfl (impl_areAll_string_t _ A0_ p0_ l0 _ v0_ (hs.hasD (k := 1) rfl) 88 [] en88 impl_areShort_c1.f [] (fun w _ z0 r h => impl_areShort_c1_t w z0 r h) (Has.nil _) _ h4) ?_
  rintro _ w ⟨rfl, hG⟩ a hk
  have hs := hs.call0 hG
  refine sa _ rfl hk rfl rfl rfl fun a hk => ?_
  show wpList _ _ _ [] _ _
  refine wpList_nil ?_
  refine hK2 _ _ ?_
  refine wp_ret ?_
  obtain rfl := Option.some.inj H
  exact fin hk _ [(.bool y3)] rfl ⟨rfl, trivial⟩ ⟨rfl, (hs.pick [] rfl).dnil⟩

noncomputable def impl_within.f (x0 : Int) (x1 : Int) (x2 : Int) : Option (Bool) :=
  (((bif (decide (x1 ≤ x0)) then (some (decide (x0 ≤ x2))) else (some false)) : Option (Bool)).bind fun u4 => (some u4))
set_option maxRecDepth 100000 in
set_option maxHeartbeats 0 in
theorem impl_within_t (w0 : World) (x0 : Int) (x1 : Int) (x2 : Int) (r : Bool) (H : impl_within.f x0 x1 x2 = some r) :
    Calls Try.prog 50 #[.int .i64 x0, .int .i64 x1, .int .i64 x2] w0 (Ret (fun v w => v = .bool r ∧ Sat [] w0 w [] [])) := by
  have hs : Sat [] w0 w0 [] [] := Sat.init w0 [] [] (by simp) (by simp) List.nodup_nil (by simp [blks])
  unfold impl_within.f at H
  refine enter Try.func50 rfl Try.ntmps50 rfl fun a hk => ?_
  apply wp_seq_k; intro K1 hK1
  apply wp_region_lit
  refine sa _ rfl hk rfl rfl rfl fun a hk => ?_
  show wpList _ _ _ [] _ _
  refine wpList_nil ?_
  refine hK1 _ _ ?_
  apply wp_seq_k; intro K2 hK2
  obtain ⟨o5, h6, HL7⟩ := bind_some H
  clear H
  obtain ⟨R8, hR8⟩ : ∃ R : Act → World → Prop, R = fun a w => ∃ (u4 : Bool), u4 = o5 ∧ Kn [(6, (.bool u4))] 15 a ∧ Sat [] w0 w [] [] := ⟨_, rfl⟩
  refine wp_cutq R8 ?_ ?_
  ·have H := h6
   apply wp_region_lit
   refine sm _ rfl hk rfl rfl rfl fun a hk => ?_
   refine sm _ rfl hk rfl rfl rfl fun a hk => ?_
   refine sv (.bool (decide (x1 ≤ x0))) hk rfl rfl rfl fun a hk => ?_
   refine sm _ rfl hk rfl rfl rfl fun a hk => ?_
   rcases cond_some H with ⟨c9, H⟩ | ⟨c9, H⟩
   ·have hk := hk.lit 10 c9 rfl
    refine sm _ rfl hk rfl rfl rfl fun a hk => ?_
    refine sm _ rfl hk rfl rfl rfl fun a hk => ?_
    refine sv (.bool (decide (x0 ≤ x2))) hk rfl rfl rfl fun a hk => ?_
    refine sv (.bool (decide (x0 ≤ x2))) hk rfl rfl rfl fun a hk => ?_
    refine sa _ rfl hk rfl rfl rfl fun a hk => ?_
    show wpList _ _ _ [] _ _
    refine wpList_nil ?_
    obtain rfl := Option.some.inj H
    show R8 _ _
    rw [hR8]
    exact ⟨(decide (x0 ≤ x2)), rfl, (hk.c 6 rfl hk.k), (hs.pick [] rfl)⟩
   ·have hk := hk.lit 10 c9 rfl
    refine sk hk rfl rfl rfl fun a hk => ?_
    refine sk hk rfl rfl rfl fun a hk => ?_
    refine sk hk rfl rfl rfl fun a hk => ?_
    refine sv (.bool false) hk rfl rfl rfl fun a hk => ?_
    refine sa _ rfl hk rfl rfl rfl fun a hk => ?_
    show wpList _ _ _ [] _ _
    refine wpList_nil ?_
    obtain rfl := Option.some.inj H
    show R8 _ _
    rw [hR8]
    exact ⟨false, rfl, (hk.c 6 rfl hk.k), (hs.pick [] rfl)⟩
  ·intro a w hR0
   rw [hR8] at hR0
   obtain ⟨u4, rfl, hk, hs⟩ := hR0
   have H := HL7
   try dsimp only at H
   refine hK2 _ _ ?_
   refine wp_ret ?_
   obtain rfl := Option.some.inj H
   exact fin hk _ [(.bool u4)] rfl ⟨rfl, trivial⟩ ⟨rfl, (hs.pick [] rfl).dnil⟩

noncomputable def impl_isSector.f (x0 : Int) : Option (Bool) :=
  ((impl_within.f x0 0 39).bind fun y3 => (some y3))
set_option maxRecDepth 100000 in
set_option maxHeartbeats 0 in
theorem impl_isSector_t (w0 : World) (x0 : Int) (r : Bool) (H : impl_isSector.f x0 = some r) :
    Calls Try.prog 118 #[.int .i64 x0] w0 (Ret (fun v w => v = .bool r ∧ Sat [] w0 w [] [])) := by
  have hs : Sat [] w0 w0 [] [] := Sat.init w0 [] [] (by simp) (by simp) List.nodup_nil (by simp [blks])
  unfold impl_isSector.f at H
  refine enter Try.func118 rfl Try.ntmps118 rfl fun a hk => ?_
  apply wp_seq_k; intro K1 hK1
  apply wp_region_lit
  refine sa _ rfl hk rfl rfl rfl fun a hk => ?_
  show wpList _ _ _ [] _ _
  refine wpList_nil ?_
  refine hK1 _ _ ?_
  apply wp_seq_k; intro K2 hK2
  apply wp_region_lit
  refine sm _ rfl hk rfl rfl rfl fun a hk => ?_
  obtain ⟨y3, h4, H⟩ := bind_some H
  refine sc rfl en50 hk rfl rfl rfl (impl_within_t _ x0 0 39 _ h4) ?_
  rintro _ w ⟨rfl, hG⟩ a hk
  have hs := hs.call0 hG
  refine sa _ rfl hk rfl rfl rfl fun a hk => ?_
  show wpList _ _ _ [] _ _
  refine wpList_nil ?_
  refine hK2 _ _ ?_
  refine wp_ret ?_
  obtain rfl := Option.some.inj H
  exact fin hk _ [(.bool y3)] rfl ⟨rfl, trivial⟩ ⟨rfl, (hs.pick [] rfl).dnil⟩

noncomputable def impl_nonceCode.f (x0 : Int) (x1 : Int) (x2 : Int) : Option (Int) :=
  ((((impl_within.f x0 1 3).bind fun y10 => (bif (!y10) then (some true) else ((impl_isSector.f x1).bind fun y13 => (bif (!y13) then (some true) else ((impl_within.f x2 0 1099511627776).bind fun y16 => (some (!y16))))))) : Option (Bool)).bind fun u5 => (bif u5 then (some 4) else (some 0)))
set_option maxRecDepth 100000 in
set_option maxHeartbeats 0 in
theorem impl_nonceCode_t (w0 : World) (x0 : Int) (x1 : Int) (x2 : Int) (r : Int) (H : impl_nonceCode.f x0 x1 x2 = some r) :
    Calls Try.prog 81 #[.int .i64 x0, .int .i64 x1, .int .i64 x2] w0 (Ret (fun v w => v = .int .i64 r ∧ Sat [] w0 w [] [])) := by
  have hs : Sat [] w0 w0 [] [] := Sat.init w0 [] [] (by simp) (by simp) List.nodup_nil (by simp [blks])
  unfold impl_nonceCode.f at H
  refine enter Try.func81 rfl Try.ntmps81 rfl fun a hk => ?_
  apply wp_seq_k; intro K1 hK1
  apply wp_region_lit
  refine sa _ rfl hk rfl rfl rfl fun a hk => ?_
  show wpList _ _ _ [] _ _
  refine wpList_nil ?_
  refine hK1 _ _ ?_
  apply wp_seq_k; intro K2 hK2
  apply wp_seq_k; intro K3 hK3
  obtain ⟨o6, h7, HL8⟩ := bind_some H
  clear H
  obtain ⟨R9, hR9⟩ : ∃ R : Act → World → Prop, R = fun a w => ∃ (u5 : Bool), u5 = o6 ∧ Kn [(19, (.bool u5))] 20 a ∧ Sat [] w0 w [] [] := ⟨_, rfl⟩
  refine wp_cutq R9 ?_ ?_
  ·have H := h7
   apply wp_region_lit
   refine sm _ rfl hk rfl rfl rfl fun a hk => ?_
   obtain ⟨y10, h11, H⟩ := bind_some H
   refine sc rfl en50 hk rfl rfl rfl (impl_within_t _ x0 1 3 _ h11) ?_
   rintro _ w ⟨rfl, hG⟩ a hk
   have hs := hs.call0 hG
   refine sv (.bool (!y10)) hk rfl rfl rfl fun a hk => ?_
   refine sm _ rfl hk rfl rfl rfl fun a hk => ?_
   rcases cond_some H with ⟨c12, H⟩ | ⟨c12, H⟩
   ·have hk := hk.lit 10 c12 rfl
    refine sk hk rfl rfl rfl fun a hk => ?_
    refine sk hk rfl rfl rfl fun a hk => ?_
    refine sk hk rfl rfl rfl fun a hk => ?_
    refine sv (.bool true) hk rfl rfl rfl fun a hk => ?_
    refine sm _ rfl hk rfl rfl rfl fun a hk => ?_
    refine sk hk rfl rfl rfl fun a hk => ?_
    refine sk hk rfl rfl rfl fun a hk => ?_
    refine sk hk rfl rfl rfl fun a hk => ?_
    refine sv (.bool true) hk rfl rfl rfl fun a hk => ?_
    show wpList _ _ _ [] _ _
    refine wpList_nil ?_
    obtain rfl := Option.some.inj H
    show R9 _ _
    rw [hR9]
    exact ⟨true, rfl, (hk.c 19 rfl hk.k), (hs.pick [] rfl)⟩
   ·have hk := hk.lit 10 c12 rfl
    refine sm _ rfl hk rfl rfl rfl fun a hk => ?_
    obtain ⟨y13, h14, H⟩ := bind_some H
    refine sc rfl en118 hk rfl rfl rfl (impl_isSector_t _ x1 _ h14) ?_
    rintro _ w ⟨rfl, hG⟩ a hk
    have hs := hs.call0 hG
    refine sv (.bool (!y13)) hk rfl rfl rfl fun a hk => ?_
    refine sv (.bool (!y13)) hk rfl rfl rfl fun a hk => ?_
    refine sm _ rfl hk rfl rfl rfl fun a hk => ?_
    rcases cond_some H with ⟨c15, H⟩ | ⟨c15, H⟩
    ·have hk := hk.lit 15 c15 rfl
     refine sk hk rfl rfl rfl fun a hk => ?_
     refine sk hk rfl rfl rfl fun a hk => ?_
     refine sk hk rfl rfl rfl fun a hk => ?_
     refine sv (.bool true) hk rfl rfl rfl fun a hk => ?_
     show wpList _ _ _ [] _ _
     refine wpList_nil ?_
     obtain rfl := Option.some.inj H
     show R9 _ _
     rw [hR9]
     exact ⟨true, rfl, (hk.c 19 rfl hk.k), (hs.pick [] rfl)⟩
    ·have hk := hk.lit 15 c15 rfl
     refine sm _ rfl hk rfl rfl rfl fun a hk => ?_
     obtain ⟨y16, h17, H⟩ := bind_some H
     refine sc rfl en50 hk rfl rfl rfl (impl_within_t _ x2 0 1099511627776 _ h17) ?_
     rintro _ w ⟨rfl, hG⟩ a hk
     have hs := hs.call0 hG
     refine sv (.bool (!y16)) hk rfl rfl rfl fun a hk => ?_
     refine sv (.bool (!y16)) hk rfl rfl rfl fun a hk => ?_
     show wpList _ _ _ [] _ _
     refine wpList_nil ?_
     obtain rfl := Option.some.inj H
     show R9 _ _
     rw [hR9]
     exact ⟨(!y16), rfl, (hk.c 19 rfl hk.k), (hs.pick [] rfl)⟩
  ·intro a w hR0
   rw [hR9] at hR0
   obtain ⟨u5, rfl, hk, hs⟩ := hR0
   have H := HL8
   try dsimp only at H
   refine hK3 _ _ ?_
   rcases cond_some H with ⟨c18, H⟩ | ⟨c18, H⟩
   ·have hk := hk.lit 19 c18 rfl
    refine cnd_true hk rfl rfl ?_
    apply wp_seq_k; intro K19 hK19
    apply wp_region_lit
    refine sa _ rfl hk rfl rfl rfl fun a hk => ?_
    show wpList _ _ _ [] _ _
    refine wpList_nil ?_
    refine hK19 _ _ ?_
    refine wp_ret ?_
    obtain rfl := Option.some.inj H
    exact fin hk _ [(.int .i64 4)] rfl ⟨rfl, trivial⟩ ⟨rfl, (hs.pick [] rfl).dnil⟩
   ·have hk := hk.lit 19 c18 rfl
    refine cnd_false hk rfl rfl ?_
    refine wp_skip ?_
    refine hK2 _ _ ?_
    apply wp_seq_k; intro K20 hK20
    apply wp_region_lit
    refine sa _ rfl hk rfl rfl rfl fun a hk => ?_
    show wpList _ _ _ [] _ _
    refine wpList_nil ?_
    refine hK20 _ _ ?_
    have hs := hs.pick [] rfl
    refine wp_ret ?_
    obtain rfl := Option.some.inj H
    exact fin hk _ [(.int .i64 0)] rfl ⟨rfl, trivial⟩ ⟨rfl, (hs.pick [] rfl).dnil⟩

noncomputable def impl_blockCode.f (x0 : ByteArray) (x1 : Int) (x2 : Int) (x3 : Int) (x4 : ByteArray) : Option (Int) :=
  ((impl_areShort.f ([x0, x4])).bind fun y7 => (bif (!y7) then (some 2) else (bif ((x0.size : Int) != 32) then (some 8) else ((impl_nonceCode.f x1 x2 x3).bind fun y15 => (some y15)))))
set_option maxRecDepth 100000 in
set_option maxHeartbeats 0 in
theorem impl_blockCode_t (w0 : World) (x0 : ByteArray) (x1 : Int) (x2 : Int) (x3 : Int) (x4 : ByteArray) (r : Int) (H : impl_blockCode.f x0 x1 x2 x3 x4 = some r) :
    Calls Try.prog 76 #[.string x0, .int .i64 x1, .int .i64 x2, .int .i64 x3, .string x4] w0 (Ret (fun v w => v = .int .i64 r ∧ Sat [] w0 w [] [])) := by
  have hs : Sat [] w0 w0 [] [] := Sat.init w0 [] [] (by simp) (by simp) List.nodup_nil (by simp [blks])
  unfold impl_blockCode.f at H
  refine enter Try.func76 rfl Try.ntmps76 rfl fun a hk => ?_
  apply wp_seq_k; intro K1 hK1
  apply wp_region_lit
  refine sa _ rfl hk rfl rfl rfl fun a hk => ?_
  show wpList _ _ _ [] _ _
  refine wpList_nil ?_
  refine hK1 _ _ ?_
  apply wp_seq_k; intro K2 hK2
  refine wp_block ?_
  apply wp_seq_k; intro K3 hK3
  apply wp_region_lit
  refine sm _ rfl hk rfl rfl rfl fun a hk => ?_
  refine sm _ rfl hk rfl rfl rfl fun a hk => ?_
  refine sbs (L := Lay.str) (pv := [(0, (.string x0)), (1, (.string x4))]) (xs := [x0, x4]) (ess := [[.string x0], [.string x4]]) 1 hs rfl hk rfl rfl rfl un86 (bs9_3 x0 x4) (AllOwn.cons0 ⟨rfl, rfl⟩ (AllOwn.cons0 ⟨rfl, rfl⟩ AllOwn.nil)) rfl rfl rfl fun b4 k5 w a hk o6 hs => ?_
  obtain ⟨y7, h8, H⟩ := bind_some H
  refine sc rfl en45 hk rfl rfl rfl (impl_areShort_t _ (some ⟨b4, 0, none⟩) 2 ([x0, x4]) _ o6.view (hs.hasG (k := 1) rfl) _ h8) ?_
  rintro _ w ⟨rfl, hG⟩ a hk
  have hs := hs.call0 hG
  refine sv (.bool (!y7)) hk rfl rfl rfl fun a hk => ?_
  refine sa _ rfl hk rfl rfl rfl fun a hk => ?_
  show wpList _ _ _ [] _ _
  refine wpList_nil ?_
  refine hK3 _ _ ?_
  rcases cond_some H with ⟨c9, H⟩ | ⟨c9, H⟩
  ·have hk := hk.lit 11 c9 rfl
   refine cnd_true hk rfl rfl ?_
   apply wp_seq_k; intro K10 hK10
   apply wp_region_lit
   refine sa _ rfl hk rfl rfl rfl fun a hk => ?_
   show wpList _ _ _ [] _ _
   refine wpList_nil ?_
   refine hK10 _ _ ?_
   refine wp_ret ?_
   obtain rfl := Option.some.inj H
   exact fin hk _ [(.int .i64 2)] rfl ⟨rfl, trivial⟩ ⟨rfl, (hs.pick [] rfl).dnil⟩
  ·have hk := hk.lit 11 c9 rfl
   refine cnd_false hk rfl rfl ?_
   apply wp_seq_k; intro K11 hK11
   apply wp_region_lit
   refine sm _ rfl hk rfl rfl rfl fun a hk => ?_
   refine sles rfl hk rfl rfl rfl un9 fun a hk => ?_
   refine sv (.bool ((x0.size : Int) != 32)) hk rfl rfl rfl fun a hk => ?_
   refine sa _ rfl hk rfl rfl rfl fun a hk => ?_
   show wpList _ _ _ [] _ _
   refine wpList_nil ?_
   refine hK11 _ _ ?_
   rcases cond_some H with ⟨c12, H⟩ | ⟨c12, H⟩
   ·have hk := hk.lit 17 c12 rfl
    refine cnd_true hk rfl rfl ?_
    apply wp_seq_k; intro K13 hK13
    apply wp_region_lit
    refine sa _ rfl hk rfl rfl rfl fun a hk => ?_
    show wpList _ _ _ [] _ _
    refine wpList_nil ?_
    refine hK13 _ _ ?_
    have hs := hs.pick [] rfl
    refine wp_ret ?_
    obtain rfl := Option.some.inj H
    exact fin hk _ [(.int .i64 8)] rfl ⟨rfl, trivial⟩ ⟨rfl, (hs.pick [] rfl).dnil⟩
   ·have hk := hk.lit 17 c12 rfl
    refine cnd_false hk rfl rfl ?_
    refine wp_skip ?_
    refine hK2 _ _ ?_
    have hs := hs.pick [] rfl
    apply wp_seq_k; intro K14 hK14
    apply wp_region_lit
    refine sm _ rfl hk rfl rfl rfl fun a hk => ?_
    refine sm _ rfl hk rfl rfl rfl fun a hk => ?_
    refine sm _ rfl hk rfl rfl rfl fun a hk => ?_
    obtain ⟨y15, h16, H⟩ := bind_some H
    refine sc rfl en81 hk rfl rfl rfl (impl_nonceCode_t _ x1 x2 x3 _ h16) ?_
    rintro _ w ⟨rfl, hG⟩ a hk
    have hs := hs.call0 hG
    refine sa _ rfl hk rfl rfl rfl fun a hk => ?_
    show wpList _ _ _ [] _ _
    refine wpList_nil ?_
    refine hK14 _ _ ?_
    refine wp_ret ?_
    obtain rfl := Option.some.inj H
    exact fin hk _ [(.int .i64 y15)] rfl ⟨rfl, trivial⟩ ⟨rfl, (hs.pick [] rfl).dnil⟩

noncomputable def math_bits_RotateLeft32.f (x0 : Int) (x1 : Int) : Option (Int) :=
  (if 0 ≤ (IntKind.wrap .u64 ((BitVec.ofInt 64 (IntKind.wrap .u64 x1) &&& BitVec.ofInt 64 31).toNat : Int)) then (if 0 ≤ (IntKind.wrap .u64 (32 - (IntKind.wrap .u64 ((BitVec.ofInt 64 (IntKind.wrap .u64 x1) &&& BitVec.ofInt 64 31).toNat : Int)))) then (some (IntKind.wrap .u32 ((BitVec.ofInt 32 (IntKind.wrap .u32 (x0 * 2 ^ min (IntKind.wrap .u64 ((BitVec.ofInt 64 (IntKind.wrap .u64 x1) &&& BitVec.ofInt 64 31).toNat : Int)).toNat 32)) ||| BitVec.ofInt 32 (Int.fdiv x0 (2 ^ min (IntKind.wrap .u64 (32 - (IntKind.wrap .u64 ((BitVec.ofInt 64 (IntKind.wrap .u64 x1) &&& BitVec.ofInt 64 31).toNat : Int)))).toNat 32))).toNat : Int))) else none) else none)
set_option maxRecDepth 100000 in
set_option maxHeartbeats 0 in
theorem math_bits_RotateLeft32_t (w0 : World) (x0 : Int) (x1 : Int) (r : Int) (H : math_bits_RotateLeft32.f x0 x1 = some r) :
    Calls Try.prog 111 #[.int .u32 x0, .int .i64 x1] w0 (Ret (fun v w => v = .int .u32 r ∧ Sat [] w0 w [] [])) := by
  have hs : Sat [] w0 w0 [] [] := Sat.init w0 [] [] (by simp) (by simp) List.nodup_nil (by simp [blks])
  unfold math_bits_RotateLeft32.f at H
  refine enter Try.func111 rfl Try.ntmps111 rfl fun a hk => ?_
  apply wp_seq_k; intro K1 hK1
  apply wp_region_lit
  refine sa _ rfl hk rfl rfl rfl fun a hk => ?_
  show wpList _ _ _ [] _ _
  refine wpList_nil ?_
  refine hK1 _ _ ?_
  apply wp_seq_k; intro K2 hK2
  apply wp_region_lit
  refine sm _ rfl hk rfl rfl rfl fun a hk => ?_
  refine scn rfl hk rfl rfl rfl un96 un3 fun a hk => ?_
  refine sv (.int .u64 (IntKind.wrap .u64 ((BitVec.ofInt 64 (IntKind.wrap .u64 x1) &&& BitVec.ofInt 64 31).toNat : Int))) hk rfl rfl rfl fun a hk => ?_
  refine sa _ rfl hk rfl rfl rfl fun a hk => ?_
  show wpList _ _ _ [] _ _
  refine wpList_nil ?_
  refine hK2 _ _ ?_
  apply wp_seq_k; intro K3 hK3
  apply wp_region_lit
  refine sm _ rfl hk rfl rfl rfl fun a hk => ?_
  refine sm _ rfl hk rfl rfl rfl fun a hk => ?_
  rcases ite_some H with ⟨c4, H⟩ | ⟨_, H⟩
  rotate_left
  ·cases H
  refine ssh rfl hk rfl rfl rfl rfl c4 fun a hk => ?_
  refine sm _ rfl hk rfl rfl rfl fun a hk => ?_
  refine sm _ rfl hk rfl rfl rfl fun a hk => ?_
  refine sv (.int .u64 (IntKind.wrap .u64 (32 - (IntKind.wrap .u64 ((BitVec.ofInt 64 (IntKind.wrap .u64 x1) &&& BitVec.ofInt 64 31).toNat : Int))))) hk rfl rfl rfl fun a hk => ?_
  rcases ite_some H with ⟨c5, H⟩ | ⟨_, H⟩
  rotate_left
  ·cases H
  refine ssr rfl hk rfl rfl rfl rfl c5 fun a hk => ?_
  refine sv (.int .u32 (IntKind.wrap .u32 ((BitVec.ofInt 32 (IntKind.wrap .u32 (x0 * 2 ^ min (IntKind.wrap .u64 ((BitVec.ofInt 64 (IntKind.wrap .u64 x1) &&& BitVec.ofInt 64 31).toNat : Int)).toNat 32)) ||| BitVec.ofInt 32 (Int.fdiv x0 (2 ^ min (IntKind.wrap .u64 (32 - (IntKind.wrap .u64 ((BitVec.ofInt 64 (IntKind.wrap .u64 x1) &&& BitVec.ofInt 64 31).toNat : Int)))).toNat 32))).toNat : Int))) hk rfl rfl rfl fun a hk => ?_
  refine sa _ rfl hk rfl rfl rfl fun a hk => ?_
  show wpList _ _ _ [] _ _
  refine wpList_nil ?_
  refine hK3 _ _ ?_
  refine wp_ret ?_
  obtain rfl := Option.some.inj H
  exact fin hk _ [(.int .u32 (IntKind.wrap .u32 ((BitVec.ofInt 32 (IntKind.wrap .u32 (x0 * 2 ^ min (IntKind.wrap .u64 ((BitVec.ofInt 64 (IntKind.wrap .u64 x1) &&& BitVec.ofInt 64 31).toNat : Int)).toNat 32)) ||| BitVec.ofInt 32 (Int.fdiv x0 (2 ^ min (IntKind.wrap .u64 (32 - (IntKind.wrap .u64 ((BitVec.ofInt 64 (IntKind.wrap .u64 x1) &&& BitVec.ofInt 64 31).toNat : Int)))).toNat 32))).toNat : Int)))] rfl ⟨rfl, trivial⟩ ⟨rfl, (hs.pick [] rfl).dnil⟩

noncomputable def impl_quarter.s0  (u8 : Int) (u9 : Int) (u10 : Int) (u11 : Int) (u12 : Int) : Option ((Int × Int × Int × Int × Int) ⊕ Ex (Int × Int × Int × Int) (Int × Int × Int × Int)) :=
  (bif (decide (u12 < 2)) then (if 0 ≤ u12 ∧ u12 < (2 : Int) then (if 0 ≤ (0 : Int) ∧ (0 : Int) < (2 : Int) then ((math_bits_RotateLeft32.f (IntKind.wrap .u32 ((BitVec.ofInt 32 u11 ^^^ BitVec.ofInt 32 (IntKind.wrap .u32 (u8 + u9))).toNat : Int)) ((([[16, 12], [8, 7]] : List (List Int)).getD u12.toNat []).getD (0 : Int).toNat 0)).bind fun y44 => (if 0 ≤ (1 : Int) ∧ (1 : Int) < (2 : Int) then ((math_bits_RotateLeft32.f (IntKind.wrap .u32 ((BitVec.ofInt 32 u9 ^^^ BitVec.ofInt 32 (IntKind.wrap .u32 (u10 + y44))).toNat : Int)) ((([[16, 12], [8, 7]] : List (List Int)).getD u12.toNat []).getD (1 : Int).toNat 0)).bind fun y51 => (some (.inl ((IntKind.wrap .u32 (u8 + u9)), y51, (IntKind.wrap .u32 (u10 + y44)), y44, (w64 (u12 + 1)))))) else none)) else none) else none) else (some (.inr (.out (u8, u9, u10, u11)))))
noncomputable def impl_quarter.f (x0 : Int) (x1 : Int) (x2 : Int) (x3 : Int) : Option (Int × Int × Int × Int) :=
  ((loopO (fun s => impl_quarter.s0  s.1 s.2.1 s.2.2.1 s.2.2.2.1 s.2.2.2.2) (x0, x1, x2, x3, 0)).bind fun o => match o with | .out (u13, u14, u15, u16) => (some (u13, u14, u15, u16)) | .ret r => (some r))
set_option maxRecDepth 100000 in
set_option maxHeartbeats 0 in
theorem impl_quarter_t (w0 : World) (x0 : Int) (x1 : Int) (x2 : Int) (x3 : Int) (r : Int × Int × Int × Int) (H : impl_quarter.f x0 x1 x2 x3 = some r) :
    Calls Try.prog 66 #[.int .u32 x0, .int .u32 x1, .int .u32 x2, .int .u32 x3] w0 (Ret (fun v w => v = .tuple #[.int .u32 r.1, .int .u32 r.2.1, .int .u32 r.2.2.1, .int .u32 r.2.2.2] ∧ Sat [] w0 w [] [])) := by
  have hs : Sat [] w0 w0 [] [] := Sat.init w0 [] [] (by simp) (by simp) List.nodup_nil (by simp [blks])
  unfold impl_quarter.f at H
  refine enter Try.func66 rfl Try.ntmps66 rfl fun a hk => ?_
  apply wp_seq_k; intro K1 hK1
  apply wp_region_lit
  refine sa _ rfl hk rfl rfl rfl fun a hk => ?_
  refine sa _ rfl hk rfl rfl rfl fun a hk => ?_
  refine sa _ rfl hk rfl rfl rfl fun a hk => ?_
  refine sa _ rfl hk rfl rfl rfl fun a hk => ?_
  show wpList _ _ _ [] _ _
  refine wpList_nil ?_
  refine hK1 _ _ ?_
  apply wp_seq_k; intro K2 hK2
  apply wp_seq_k; intro K3 hK3
  apply wp_region_lit
  refine sbd (pv := [(0, (.int .i64 16)), (1, (.int .i64 12))]) rfl hk rfl rfl rfl (bd117_4 16 12) fun a hk => ?_
  have lh4 : ([16, 12] : List Int).length = 2 := rfl
  refine sbd (pv := [(0, (.int .i64 8)), (1, (.int .i64 7))]) rfl hk rfl rfl rfl (bd117_4 8 7) fun a hk => ?_
  have lh5 : ([8, 7] : List Int).length = 2 := rfl
  refine sbd (pv := [(0, (aggI .i64 ([16, 12] : List Int))), (1, (aggI .i64 ([8, 7] : List Int)))]) rfl hk rfl rfl rfl (bd118_5 16 12 8 7) fun a hk => ?_
  refine sm _ rfl hk rfl rfl rfl fun a hk => ?_
  show wpList _ _ _ [] _ _
  refine wpList_nil ?_
  refine hK3 _ _ ?_
  obtain ⟨o17, h18, HL19⟩ := bind_some H
  clear H
  obtain ⟨R20, hR20⟩ : ∃ R : Act → World → Prop, R = fun a w => ∃ (u13 : Int) (u14 : Int) (u15 : Int) (u16 : Int), o17 = .out (u13, u14, u15, u16) ∧ Kn [(0, (.int .u32 u13)), (1, (.int .u32 u14)), (2, (.int .u32 u15)), (3, (.int .u32 u16))] 43 a ∧ Sat [] w0 w [] [] := ⟨_, rfl⟩
  refine wp_cutq R20 ?_ ?_
  ·refine wp_block ?_
   obtain ⟨fu22, h18⟩ := loopO_some h18
   obtain ⟨I21, hI21⟩ : ∃ I : Nat → Act → World → Prop, I = fun fu a w => ∃ (u8 : Int) (u9 : Int) (u10 : Int) (u11 : Int) (u12 : Int), loopN (fun s => impl_quarter.s0  s.1 s.2.1 s.2.2.1 s.2.2.2.1 s.2.2.2.2) fu (u8, u9, u10, u11, u12) = some o17 ∧ Kn [(0, (.int .u32 u8)), (1, (.int .u32 u9)), (2, (.int .u32 u10)), (3, (.int .u32 u11)), (16, (.agg #[.int .i64 16, .int .i64 12, .int .i64 8, .int .i64 7])), (17, (.int .i64 u12))] 43 a ∧ Sat [] w0 w [] [] := ⟨_, rfl⟩
   refine wp_loop_ghost I21 fu22 ?_ ?_
   ·rw [hI21]
    exact ⟨x0, x1, x2, x3, 0, h18, (hk.c 0 rfl (hk.c 1 rfl (hk.c 2 rfl (hk.c 3 rfl (hk.c 16 rfl (hk.c 17 rfl hk.k)))))), (hs.pick [] rfl)⟩
   ·clear h18 hk hs
    intro fu22 a w hI0
    rw [hI21] at hI0
    obtain ⟨u8, u9, u10, u11, u12, hi, hk, hs⟩ := hI0
    obtain ⟨x23, H, h24⟩ := loop_round hi
    try dsimp only at H
    unfold impl_quarter.s0 at H
    apply wp_seq_k; intro K25 hK25
    apply wp_region_lit
    refine sv (.bool (decide (u12 < 2))) hk rfl rfl rfl fun a hk => ?_
    show wpList _ _ _ [] _ _
    refine wpList_nil ?_
    refine hK25 _ _ ?_
    apply wp_seq_k; intro K26 hK26
    rcases cond_some H with ⟨c27, H⟩ | ⟨c27, H⟩
    ·have hk := hk.lit 18 c27 rfl
     refine cnd_true hk rfl rfl ?_
     refine wp_skip ?_
     refine hK26 _ _ ?_
     have hs := hs.pick [] rfl
     apply wp_seq_k; intro K28 hK28
     refine wp_block ?_
     apply wp_seq_k; intro K29 hK29
     apply wp_region_lit
     rcases ite_some H with ⟨c30, H⟩ | ⟨_, H⟩
     rotate_left
     ·cases H
     refine six2 (xss := ([[16, 12], [8, 7]] : List (List Int))) rfl hk rfl rfl rfl rfl rfl un118 sz117 ag117 (by simp) rfl c30.1 c30.2 fun a hk => ?_
     have lh31 : (([[16, 12], [8, 7]] : List (List Int)).getD u12.toNat []).length = 2 := row_len (by simp) rfl c30.1 c30.2
     refine sala 2 ((Lay.int .i64)) (m := 2) (z := 0) (zc := [.int .i64 0]) hs rfl hk rfl rfl ze117 (by exact ⟨rfl, rfl⟩) rfl rfl rfl fun b32 k33 w a hk o34 hs => ?_
     have lh35 : (List.replicate 2 (0 : Int)).length = 2 := List.length_replicate
     refine sswa 2 (([[16, 12], [8, 7]] : List (List Int)).getD u12.toNat []) hs rfl o34 lh35 lh31 rfl rfl hk rfl rfl rfl rfl sz117 fun k36 w a hk o37 hs => ?_
     show wpList _ _ _ [] _ _
     refine wpList_nil ?_
     refine hK29 _ _ ?_
     apply wp_seq_k; intro K38 hK38
     apply wp_region_lit
     refine sm _ rfl hk rfl rfl rfl fun a hk => ?_
     refine sm _ rfl hk rfl rfl rfl fun a hk => ?_
     refine sv (.int .u32 (IntKind.wrap .u32 (u8 + u9))) hk rfl rfl rfl fun a hk => ?_
     refine sa _ rfl hk rfl rfl rfl fun a hk => ?_
     show wpList _ _ _ [] _ _
     refine wpList_nil ?_
     refine hK38 _ _ ?_
     apply wp_seq_k; intro K39 hK39
     apply wp_region_lit
     refine sm _ rfl hk rfl rfl rfl fun a hk => ?_
     refine sm _ rfl hk rfl rfl rfl fun a hk => ?_
     refine sv (.int .u32 (IntKind.wrap .u32 ((BitVec.ofInt 32 u11 ^^^ BitVec.ofInt 32 (IntKind.wrap .u32 (u8 + u9))).toNat : Int))) hk rfl rfl rfl fun a hk => ?_
     rcases ite_some H with ⟨c40, H⟩ | ⟨_, H⟩
     rotate_left
     ·cases H
     obtain ⟨b41, q42, hAc40⟩ := (o37.view).some_ (0 : Int) c40.1 (by rw [lh31]; exact c40.2)
     refine sia rfl hk rfl rfl rfl rfl un117 sz3 c40.1 c40.2 hAc40 fun a hk => ?_
     obtain ⟨_, rfl, e43⟩ := (o37.view).at_ 0 (0 : Int) c40.1 (by rw [lh31]; exact c40.2)
     refine sl (v := (.int .i64 ((([[16, 12], [8, 7]] : List (List Int)).getD u12.toNat []).getD (0 : Int).toNat 0))) rfl hk rfl rfl rfl ag3 ((e43 0 _ rfl).cell (hs.hasG (k := 2) rfl)) fun a hk => ?_
     obtain ⟨y44, h45, H⟩ := bind_some H
     refine sc rfl en111 hk rfl rfl rfl (math_bits_RotateLeft32_t _ (IntKind.wrap .u32 ((BitVec.ofInt 32 u11 ^^^ BitVec.ofInt 32 (IntKind.wrap .u32 (u8 + u9))).toNat : Int)) ((([[16, 12], [8, 7]] : List (List Int)).getD u12.toNat []).getD (0 : Int).toNat 0) _ h45) ?_
     rintro _ w ⟨rfl, hG⟩ a hk
     have hs := hs.call0 hG
     refine sa _ rfl hk rfl rfl rfl fun a hk => ?_
     show wpList _ _ _ [] _ _
     refine wpList_nil ?_
     refine hK39 _ _ ?_
     apply wp_seq_k; intro K46 hK46
     apply wp_region_lit
     refine sm _ rfl hk rfl rfl rfl fun a hk => ?_
     refine sm _ rfl hk rfl rfl rfl fun a hk => ?_
     refine sv (.int .u32 (IntKind.wrap .u32 (u10 + y44))) hk rfl rfl rfl fun a hk => ?_
     refine sa _ rfl hk rfl rfl rfl fun a hk => ?_
     show wpList _ _ _ [] _ _
     refine wpList_nil ?_
     refine hK46 _ _ ?_
     have hs := hs.pick [(2, 2)] rfl
     apply wp_region_lit
     refine sm _ rfl hk rfl rfl rfl fun a hk => ?_
     refine sm _ rfl hk rfl rfl rfl fun a hk => ?_
     refine sv (.int .u32 (IntKind.wrap .u32 ((BitVec.ofInt 32 u9 ^^^ BitVec.ofInt 32 (IntKind.wrap .u32 (u10 + y44))).toNat : Int))) hk rfl rfl rfl fun a hk => ?_
     rcases ite_some H with ⟨c47, H⟩ | ⟨_, H⟩
     rotate_left
     ·cases H
     obtain ⟨b48, q49, hAc47⟩ := (o37.view).some_ (1 : Int) c47.1 (by rw [lh31]; exact c47.2)
     refine sia rfl hk rfl rfl rfl rfl un117 sz3 c47.1 c47.2 hAc47 fun a hk => ?_
     obtain ⟨_, rfl, e50⟩ := (o37.view).at_ 0 (1 : Int) c47.1 (by rw [lh31]; exact c47.2)
     refine sl (v := (.int .i64 ((([[16, 12], [8, 7]] : List (List Int)).getD u12.toNat []).getD (1 : Int).toNat 0))) rfl hk rfl rfl rfl ag3 ((e50 0 _ rfl).cell (hs.hasG (k := 2) rfl)) fun a hk => ?_
     obtain ⟨y51, h52, H⟩ := bind_some H
     refine sc rfl en111 hk rfl rfl rfl (math_bits_RotateLeft32_t _ (IntKind.wrap .u32 ((BitVec.ofInt 32 u9 ^^^ BitVec.ofInt 32 (IntKind.wrap .u32 (u10 + y44))).toNat : Int)) ((([[16, 12], [8, 7]] : List (List Int)).getD u12.toNat []).getD (1 : Int).toNat 0) _ h52) ?_
     rintro _ w ⟨rfl, hG⟩ a hk
     have hs := hs.call0 hG
     refine sa _ rfl hk rfl rfl rfl fun a hk => ?_
     show wpList _ _ _ [] _ _
     refine wpList_nil ?_
     refine hK28 _ _ ?_
     apply wp_region_lit
     refine sv (.int .i64 (w64 (u12 + 1))) hk rfl rfl rfl fun a hk => ?_
     refine sm _ rfl hk rfl rfl rfl fun a hk => ?_
     show wpList _ _ _ [] _ _
     refine wpList_nil ?_
     obtain rfl := Option.some.inj H
     obtain ⟨m53, hmm53, h24⟩ := h24
     show ∃ n', n' < _ ∧ I21 n' _ _
     refine ⟨m53, hmm53, ?_⟩
     rw [hI21]
     exact ⟨(IntKind.wrap .u32 (u8 + u9)), y51, (IntKind.wrap .u32 (u10 + y44)), y44, (w64 (u12 + 1)), h24, (hk.c 0 rfl (hk.c 1 rfl (hk.c 2 rfl (hk.c 3 rfl (hk.c 16 rfl (hk.c 17 rfl hk.k)))))), (hs.pick [] rfl)⟩
    ·have hk := hk.lit 18 c27 rfl
     refine cnd_false hk rfl rfl ?_
     refine wp_exit ?_
     obtain rfl := Option.some.inj H
     show R20 _ _
     rw [hR20]
     exact ⟨u8, u9, u10, u11, h24.symm, (hk.c 0 rfl (hk.c 1 rfl (hk.c 2 rfl (hk.c 3 rfl hk.k)))), (hs.pick [] rfl)⟩
  ·intro a w hR0
   rw [hR20] at hR0
   obtain ⟨u13, u14, u15, u16, rfl, hk, hs⟩ := hR0
   have H := HL19
   try dsimp only at H
   refine hK2 _ _ ?_
   apply wp_seq_k; intro K54 hK54
   apply wp_region_lit
   refine sm _ rfl hk rfl rfl rfl fun a hk => ?_
   refine sm _ rfl hk rfl rfl rfl fun a hk => ?_
   refine sm _ rfl hk rfl rfl rfl fun a hk => ?_
   refine sm _ rfl hk rfl rfl rfl fun a hk => ?_
   refine sa _ rfl hk rfl rfl rfl fun a hk => ?_
   refine sa _ rfl hk rfl rfl rfl fun a hk => ?_
   refine sa _ rfl hk rfl rfl rfl fun a hk => ?_
   refine sa _ rfl hk rfl rfl rfl fun a hk => ?_
   show wpList _ _ _ [] _ _
   refine wpList_nil ?_
   refine hK54 _ _ ?_
   have hs := hs.pick [] rfl
   refine wp_ret ?_
   obtain rfl := Option.some.inj H
   exact fin hk _ [(.int .u32 u13), (.int .u32 u14), (.int .u32 u15), (.int .u32 u16)] rfl ⟨rfl, ⟨rfl, ⟨rfl, ⟨rfl, trivial⟩⟩⟩⟩ ⟨rfl, (hs.pick [] rfl).dnil⟩

noncomputable def impl_little.s0 (x0 : Int) (x1 : Int) (u13 : List Int) (u12 : Int) : Option (((List Int) × Int) ⊕ Ex ((List Int)) (ByteArray)) :=
  (bif (decide (u12 < x1)) then (if 0 ≤ (w64 (8 * u12)) then (if u13.length + ([(IntKind.wrap .u8 (Int.fdiv x0 (2 ^ min (w64 (8 * u12)).toNat 64)))]).length ≤ 1073741824 then (some (.inl ((u13 ++ ([(IntKind.wrap .u8 (Int.fdiv x0 (2 ^ min (w64 (8 * u12)).toNat 64)))])), (w64 (u12 + 1))))) else none) else none) else (some (.inr (.out u13))))
noncomputable def impl_little.f (x0 : Int) (x1 : Int) : Option (ByteArray) :=
  ((loopO (fun s => impl_little.s0 x0 x1 s.1 s.2) (([] : List Int), 0)).bind fun o => match o with | .out u18 => (some (strOfNums u18)) | .ret r => (some r))
set_option maxRecDepth 100000 in
set_option maxHeartbeats 0 in
theorem impl_little_t (w0 : World) (x0 : Int) (x1 : Int) (r : ByteArray) (H : impl_little.f x0 x1 = some r) :
    Calls Try.prog 109 #[.int .i64 x0, .int .i64 x1] w0 (Ret (fun v w => v = .string r ∧ Sat [] w0 w [] [])) := by
  have hs : Sat [] w0 w0 [] [] := Sat.init w0 [] [] (by simp) (by simp) List.nodup_nil (by simp [blks])
  unfold impl_little.f at H
  refine enter Try.func109 rfl Try.ntmps109 rfl fun a hk => ?_
  apply wp_seq_k; intro K1 hK1
  apply wp_region_lit
  refine sa _ rfl hk rfl rfl rfl fun a hk => ?_
  show wpList _ _ _ [] _ _
  refine wpList_nil ?_
  refine hK1 _ _ ?_
  apply wp_seq_k; intro K2 hK2
  apply wp_region_lit
  refine sa _ rfl hk rfl rfl rfl fun a hk => ?_
  show wpList _ _ _ [] _ _
  refine wpList_nil ?_
  refine hK2 _ _ ?_
  apply wp_seq_k; intro K3 hK3
  apply wp_seq_k; intro K4 hK4
  apply wp_region_lit
  refine sm _ rfl hk rfl rfl rfl fun a hk => ?_
  refine sm _ rfl hk rfl rfl rfl fun a hk => ?_
  show wpList _ _ _ [] _ _
  refine wpList_nil ?_
  refine hK4 _ _ ?_
  obtain ⟨o23, h24, HL25⟩ := bind_some H
  clear H
  obtain ⟨R26, hR26⟩ : ∃ R : Act → World → Prop, R = fun a w => ∃ (u18 : List Int) (A21 : Option Addr) (p22 : Nat) (k19 : Chunk), o23 = .out u18 ∧ Kn [(5, (.slice A21 u18.length p22))] 22 a ∧ Sat [] w0 w [] [(3, k19)] ∧ Own (Lay.int .u8) 5 A21 p22 u18 k19 := ⟨_, rfl⟩
  refine wp_cutq R26 ?_ ?_
  ·refine wp_block ?_
   obtain ⟨fu28, h24⟩ := loopO_some h24
   obtain ⟨I27, hI27⟩ : ∃ I : Nat → Act → World → Prop, I = fun fu a w => ∃ (u13 : List Int) (u12 : Int) (A16 : Option Addr) (p17 : Nat) (k14 : Chunk), loopN (fun s => impl_little.s0 x0 x1 s.1 s.2) fu (u13, u12) = some o23 ∧ Kn [(0, (.int .i64 x0)), (5, (.slice A16 u13.length p17)), (7, (.int .i64 x1)), (8, (.int .i64 u12))] 22 a ∧ Sat [] w0 w [] [(3, k14)] ∧ Own (Lay.int .u8) 5 A16 p17 u13 k14 := ⟨_, rfl⟩
   refine wp_loop_ghost I27 fu28 ?_ ?_
   ·rw [hI27]
    exact ⟨([] : List Int), 0, none, 0, _, h24, (hk.c 0 rfl (hk.c 5 rfl (hk.c 7 rfl (hk.c 8 rfl hk.k)))), ((hs.addNil 1003).pick [(3, 1003)] rfl), Own.nil _ _⟩
   ·clear h24 hk hs
    intro fu28 a w hI0
    rw [hI27] at hI0
    obtain ⟨u13, u12, A16, p17, k14, hi, hk, hs, o15⟩ := hI0
    obtain ⟨x29, H, h30⟩ := loop_round hi
    try dsimp only at H
    unfold impl_little.s0 at H
    apply wp_seq_k; intro K31 hK31
    apply wp_region_lit
    refine sv (.bool (decide (u12 < x1))) hk rfl rfl rfl fun a hk => ?_
    show wpList _ _ _ [] _ _
    refine wpList_nil ?_
    refine hK31 _ _ ?_
    have hs := hs.pick [(3, 3)] rfl
    apply wp_seq_k; intro K32 hK32
    rcases cond_some H with ⟨c33, H⟩ | ⟨c33, H⟩
    ·have hk := hk.lit 9 c33 rfl
     refine cnd_true hk rfl rfl ?_
     refine wp_skip ?_
     refine hK32 _ _ ?_
     apply wp_seq_k; intro K34 hK34
     refine wp_block ?_
     apply wp_seq_k; intro K35 hK35
     apply wp_region_lit
     refine sm _ rfl hk rfl rfl rfl fun a hk => ?_
     refine sa _ rfl hk rfl rfl rfl fun a hk => ?_
     show wpList _ _ _ [] _ _
     refine wpList_nil ?_
     refine hK35 _ _ ?_
     apply wp_region_lit
     refine sm _ rfl hk rfl rfl rfl fun a hk => ?_
     refine sm _ rfl hk rfl rfl rfl fun a hk => ?_
     refine sm _ rfl hk rfl rfl rfl fun a hk => ?_
     refine sv (.int .i64 (w64 (8 * u12))) hk rfl rfl rfl fun a hk => ?_
     rcases ite_some H with ⟨c36, H⟩ | ⟨_, H⟩
     rotate_left
     ·cases H
     refine ssr rfl hk rfl rfl rfl rfl c36 fun a hk => ?_
     refine scn rfl hk rfl rfl rfl un5 un3 fun a hk => ?_
     refine sbs (L := (Lay.int .u8)) (pv := [(0, (.int .u8 (IntKind.wrap .u8 (Int.fdiv x0 (2 ^ min (w64 (8 * u12)).toNat 64)))))]) (xs := [(IntKind.wrap .u8 (Int.fdiv x0 (2 ^ min (w64 (8 * u12)).toNat 64)))]) (ess := [[.int .u8 (IntKind.wrap .u8 (Int.fdiv x0 (2 ^ min (w64 (8 * u12)).toNat 64)))]]) 4 hs rfl hk rfl rfl rfl un22 (bs5_1 (IntKind.wrap .u8 (Int.fdiv x0 (2 ^ min (w64 (8 * u12)).toNat 64)))) (AllOwn.cons0 ⟨rfl, rfl⟩ AllOwn.nil) rfl rfl rfl fun b37 k38 w a hk o39 hs => ?_
     rcases ite_some H with ⟨c40, H⟩ | ⟨_, H⟩
     rotate_left
     ·cases H
     refine sap 3 (xs := u13) (ys := [(IntKind.wrap .u8 (Int.fdiv x0 (2 ^ min (w64 (8 * u12)).toNat 64)))]) (flat_flat : ((Lay.int .u8)).Flat) hs rfl o15 o39.view (hs.hasG (k := 4) rfl) rfl hk rfl rfl rfl rfl rfl rfl un22 mk5 rfl rfl rfl c40 fun A41 p42 k43 w a hk o44 hs => ?_
     refine sa _ rfl hk rfl rfl rfl fun a hk => ?_
     show wpList _ _ _ [] _ _
     refine wpList_nil ?_
     refine hK34 _ _ ?_
     apply wp_region_lit
     refine sv (.int .i64 (w64 (u12 + 1))) hk rfl rfl rfl fun a hk => ?_
     refine sm _ rfl hk rfl rfl rfl fun a hk => ?_
     show wpList _ _ _ [] _ _
     refine wpList_nil ?_
     obtain rfl := Option.some.inj H
     obtain ⟨m45, hmm45, h30⟩ := h30
     show ∃ n', n' < _ ∧ I27 n' _ _
     refine ⟨m45, hmm45, ?_⟩
     rw [hI27]
     exact ⟨(u13 ++ ([(IntKind.wrap .u8 (Int.fdiv x0 (2 ^ min (w64 (8 * u12)).toNat 64)))])), (w64 (u12 + 1)), A41, p42, _, h30, (hk.c 0 rfl (hk.c 5 rfl (hk.c 7 rfl (hk.c 8 rfl hk.k)))), (hs.pick [(3, 3)] rfl), o44⟩
    ·have hk := hk.lit 9 c33 rfl
     refine cnd_false hk rfl rfl ?_
     refine wp_exit ?_
     obtain rfl := Option.some.inj H
     show R26 _ _
     rw [hR26]
     exact ⟨u13, A16, p17, _, h30.symm, (hk.c 5 rfl hk.k), (hs.pick [(3, 3)] rfl), o15⟩
  ·intro a w hR0
   rw [hR26] at hR0
   obtain ⟨u18, A21, p22, k19, rfl, hk, hs, o20⟩ := hR0
   have H := HL25
   try dsimp only at H
   refine hK3 _ _ ?_
   have hs := hs.pick [(3, 3)] rfl
   apply wp_seq_k; intro K46 hK46
   apply wp_region_lit
   refine sm _ rfl hk rfl rfl rfl fun a hk => ?_
   refine sbt (xs := u18) rfl hk rfl rfl rfl rfl un22 un5 un9 o20.view (hs.hasG (k := 3) rfl) fun a hk => ?_
   refine sa _ rfl hk rfl rfl rfl fun a hk => ?_
   show wpList _ _ _ [] _ _
   refine wpList_nil ?_
   refine hK46 _ _ ?_
   refine wp_ret ?_
   obtain rfl := Option.some.inj H
   exact fin hk _ [(.string (strOfNums u18))] rfl ⟨rfl, trivial⟩ ⟨rfl, (hs.pick [] rfl).dnil⟩

noncomputable def impl_littleWord.f (x0 : ByteArray) : Option (Int) :=
  (if 0 ≤ (0 : Int) ∧ (0 : Int) < (x0.size : Int) then (if 0 ≤ (1 : Int) ∧ (1 : Int) < (x0.size : Int) then (if 0 ≤ (2 : Int) ∧ (2 : Int) < (x0.size : Int) then (if 0 ≤ (3 : Int) ∧ (3 : Int) < (x0.size : Int) then (some (IntKind.wrap .u32 ((BitVec.ofInt 32 (IntKind.wrap .u32 ((BitVec.ofInt 32 (IntKind.wrap .u32 ((BitVec.ofInt 32 (IntKind.wrap .u32 (byteAt x0 (0 : Int))) ||| BitVec.ofInt 32 (IntKind.wrap .u32 ((IntKind.wrap .u32 (byteAt x0 (1 : Int))) * 2 ^ 8))).toNat : Int)) ||| BitVec.ofInt 32 (IntKind.wrap .u32 ((IntKind.wrap .u32 (byteAt x0 (2 : Int))) * 2 ^ 16))).toNat : Int)) ||| BitVec.ofInt 32 (IntKind.wrap .u32 ((IntKind.wrap .u32 (byteAt x0 (3 : Int))) * 2 ^ 24))).toNat : Int))) else none) else none) else none) else none)
set_option maxRecDepth 100000 in
set_option maxHeartbeats 0 in
theorem impl_littleWord_t (w0 : World) (x0 : ByteArray) (r : Int) (H : impl_littleWord.f x0 = some r) :
    Calls Try.prog 110 #[.string x0] w0 (Ret (fun v w => v = .int .u32 r ∧ Sat [] w0 w [] [])) := by
  have hs : Sat [] w0 w0 [] [] := Sat.init w0 [] [] (by simp) (by simp) List.nodup_nil (by simp [blks])
  unfold impl_littleWord.f at H
  refine enter Try.func110 rfl Try.ntmps110 rfl fun a hk => ?_
  apply wp_seq_k; intro K1 hK1
  apply wp_region_lit
  refine sa _ rfl hk rfl rfl rfl fun a hk => ?_
  show wpList _ _ _ [] _ _
  refine wpList_nil ?_
  refine hK1 _ _ ?_
  apply wp_seq_k; intro K2 hK2
  refine wp_region_tree (.q 0 (.q 1 (.q 2 (.q 3 (.q 4 (.q 5 (.q 6 (.q 7 (.q 8 (.q 9 (.q 10 (.q 11 (.q 12 (.alt 13 (.alt 14 (.alt 15 (.alt 16 (.alt 17 (.last 18) .stop) .stop) .stop) .stop) .stop)))))))))))))) mo (by kernel_rfl) (hs.pick [] rfl) fun _ => ?_
  have hs := hs.drew
  refine tqst (.string x0) hk rfl rfl rfl rfl (fun w hs => sm _ rfl hk rfl rfl rfl fun a hk => qe hk) fun a hk => ?_
  rcases ite_some H with ⟨c4, H⟩ | ⟨_, H⟩
  rotate_left
  ·cases H
  refine tqst (.int .u8 (byteAt x0 (0 : Int))) hk rfl rfl rfl rfl (fun w hs => six rfl hk rfl rfl rfl rfl un9 c4.1 c4.2 fun a hk => qe hk) fun a hk => ?_
  refine tqst (.int .u32 (IntKind.wrap .u32 (byteAt x0 (0 : Int)))) hk rfl rfl rfl rfl (fun w hs => scn rfl hk rfl rfl rfl un67 un5 fun a hk => qe hk) fun a hk => ?_
  refine tqst (.string x0) hk rfl rfl rfl rfl (fun w hs => sm _ rfl hk rfl rfl rfl fun a hk => qe hk) fun a hk => ?_
  rcases ite_some H with ⟨c5, H⟩ | ⟨_, H⟩
  rotate_left
  ·cases H
  refine tqst (.int .u8 (byteAt x0 (1 : Int))) hk rfl rfl rfl rfl (fun w hs => six rfl hk rfl rfl rfl rfl un9 c5.1 c5.2 fun a hk => qe hk) fun a hk => ?_
  refine tqst (.int .u32 (IntKind.wrap .u32 (byteAt x0 (1 : Int)))) hk rfl rfl rfl rfl (fun w hs => scn rfl hk rfl rfl rfl un67 un5 fun a hk => qe hk) fun a hk => ?_
  refine tqst (.int .u32 (IntKind.wrap .u32 ((IntKind.wrap .u32 (byteAt x0 (1 : Int))) * 2 ^ 8))) hk rfl rfl rfl rfl (fun w hs => sv (.int .u32 (IntKind.wrap .u32 ((IntKind.wrap .u32 (byteAt x0 (1 : Int))) * 2 ^ 8))) hk rfl rfl rfl fun a hk => qe hk) fun a hk => ?_
  refine tqst (.int .u32 (IntKind.wrap .u32 ((BitVec.ofInt 32 (IntKind.wrap .u32 (byteAt x0 (0 : Int))) ||| BitVec.ofInt 32 (IntKind.wrap .u32 ((IntKind.wrap .u32 (byteAt x0 (1 : Int))) * 2 ^ 8))).toNat : Int))) hk rfl rfl rfl rfl (fun w hs => sv (.int .u32 (IntKind.wrap .u32 ((BitVec.ofInt 32 (IntKind.wrap .u32 (byteAt x0 (0 : Int))) ||| BitVec.ofInt 32 (IntKind.wrap .u32 ((IntKind.wrap .u32 (byteAt x0 (1 : Int))) * 2 ^ 8))).toNat : Int))) hk rfl rfl rfl fun a hk => qe hk) fun a hk => ?_
  refine tqst (.string x0) hk rfl rfl rfl rfl (fun w hs => sm _ rfl hk rfl rfl rfl fun a hk => qe hk) fun a hk => ?_
  rcases ite_some H with ⟨c6, H⟩ | ⟨_, H⟩
  rotate_left
  ·cases H
  refine tqst (.int .u8 (byteAt x0 (2 : Int))) hk rfl rfl rfl rfl (fun w hs => six rfl hk rfl rfl rfl rfl un9 c6.1 c6.2 fun a hk => qe hk) fun a hk => ?_
  refine tqst (.int .u32 (IntKind.wrap .u32 (byteAt x0 (2 : Int)))) hk rfl rfl rfl rfl (fun w hs => scn rfl hk rfl rfl rfl un67 un5 fun a hk => qe hk) fun a hk => ?_
  refine tqst (.int .u32 (IntKind.wrap .u32 ((IntKind.wrap .u32 (byteAt x0 (2 : Int))) * 2 ^ 16))) hk rfl rfl rfl rfl (fun w hs => sv (.int .u32 (IntKind.wrap .u32 ((IntKind.wrap .u32 (byteAt x0 (2 : Int))) * 2 ^ 16))) hk rfl rfl rfl fun a hk => qe hk) fun a hk => ?_
  refine tqst (.int .u32 (IntKind.wrap .u32 ((BitVec.ofInt 32 (IntKind.wrap .u32 ((BitVec.ofInt 32 (IntKind.wrap .u32 (byteAt x0 (0 : Int))) ||| BitVec.ofInt 32 (IntKind.wrap .u32 ((IntKind.wrap .u32 (byteAt x0 (1 : Int))) * 2 ^ 8))).toNat : Int)) ||| BitVec.ofInt 32 (IntKind.wrap .u32 ((IntKind.wrap .u32 (byteAt x0 (2 : Int))) * 2 ^ 16))).toNat : Int))) hk rfl rfl rfl rfl (fun w hs => sv (.int .u32 (IntKind.wrap .u32 ((BitVec.ofInt 32 (IntKind.wrap .u32 ((BitVec.ofInt 32 (IntKind.wrap .u32 (byteAt x0 (0 : Int))) ||| BitVec.ofInt 32 (IntKind.wrap .u32 ((IntKind.wrap .u32 (byteAt x0 (1 : Int))) * 2 ^ 8))).toNat : Int)) ||| BitVec.ofInt 32 (IntKind.wrap .u32 ((IntKind.wrap .u32 (byteAt x0 (2 : Int))) * 2 ^ 16))).toNat : Int))) hk rfl rfl rfl fun a hk => qe hk) fun a hk => ?_
  refine tsst hk rfl rfl (fun K_r3_13 hK_r3_13 w hF => ?_) wt_stop
  have hs := hs.f hF
  refine sm _ rfl hk rfl rfl rfl fun a hk => ?_
  refine se (hs.pick [] rfl) hk (hK_r3_13 _ _ ?_)
  refine tsst hk rfl rfl (fun K_r3_14 hK_r3_14 w hF => ?_) wt_stop
  have hs := hs.f hF
  rcases ite_some H with ⟨c7, H⟩ | ⟨_, H⟩
  rotate_left
  ·cases H
  refine six rfl hk rfl rfl rfl rfl un9 c7.1 c7.2 fun a hk => ?_
  refine se (hs.pick [] rfl) hk (hK_r3_14 _ _ ?_)
  refine tsst hk rfl rfl (fun K_r3_15 hK_r3_15 w hF => ?_) wt_stop
  have hs := hs.f hF
  refine scn rfl hk rfl rfl rfl un67 un5 fun a hk => ?_
  refine se (hs.pick [] rfl) hk (hK_r3_15 _ _ ?_)
  refine tsst hk rfl rfl (fun K_r3_16 hK_r3_16 w hF => ?_) wt_stop
  have hs := hs.f hF
  refine sv (.int .u32 (IntKind.wrap .u32 ((IntKind.wrap .u32 (byteAt x0 (3 : Int))) * 2 ^ 24))) hk rfl rfl rfl fun a hk => ?_
  refine se (hs.pick [] rfl) hk (hK_r3_16 _ _ ?_)
  refine tsst hk rfl rfl (fun K_r3_17 hK_r3_17 w hF => ?_) wt_stop
  have hs := hs.f hF
  refine sv (.int .u32 (IntKind.wrap .u32 ((BitVec.ofInt 32 (IntKind.wrap .u32 ((BitVec.ofInt 32 (IntKind.wrap .u32 ((BitVec.ofInt 32 (IntKind.wrap .u32 (byteAt x0 (0 : Int))) ||| BitVec.ofInt 32 (IntKind.wrap .u32 ((IntKind.wrap .u32 (byteAt x0 (1 : Int))) * 2 ^ 8))).toNat : Int)) ||| BitVec.ofInt 32 (IntKind.wrap .u32 ((IntKind.wrap .u32 (byteAt x0 (2 : Int))) * 2 ^ 16))).toNat : Int)) ||| BitVec.ofInt 32 (IntKind.wrap .u32 ((IntKind.wrap .u32 (byteAt x0 (3 : Int))) * 2 ^ 24))).toNat : Int))) hk rfl rfl rfl fun a hk => ?_
  refine se (hs.pick [] rfl) hk (hK_r3_17 _ _ ?_)
  refine tlst hk rfl rfl fun K_r3_18 hK_r3_18 w hF => ?_
  have hs := hs.f hF
  refine sa _ rfl hk rfl rfl rfl fun a hk => ?_
  refine se trivial hk (hK_r3_18 _ _ fun w hF => ?_)
  have hs := hs.f hF
  refine hK2 _ _ ?_
  refine wp_ret ?_
  obtain rfl := Option.some.inj H
  exact fin hk _ [(.int .u32 (IntKind.wrap .u32 ((BitVec.ofInt 32 (IntKind.wrap .u32 ((BitVec.ofInt 32 (IntKind.wrap .u32 ((BitVec.ofInt 32 (IntKind.wrap .u32 (byteAt x0 (0 : Int))) ||| BitVec.ofInt 32 (IntKind.wrap .u32 ((IntKind.wrap .u32 (byteAt x0 (1 : Int))) * 2 ^ 8))).toNat : Int)) ||| BitVec.ofInt 32 (IntKind.wrap .u32 ((IntKind.wrap .u32 (byteAt x0 (2 : Int))) * 2 ^ 16))).toNat : Int)) ||| BitVec.ofInt 32 (IntKind.wrap .u32 ((IntKind.wrap .u32 (byteAt x0 (3 : Int))) * 2 ^ 24))).toNat : Int)))] rfl ⟨rfl, trivial⟩ ⟨rfl, (hs.pick [] rfl).dnil⟩

noncomputable def impl_stream.s0 (x0 : ByteArray) (x1 : ByteArray) (y4 : ByteArray) (u21 : List Int) (u25 : List Int) (u29 : Int) : Option (((List Int) × (List Int) × Int) ⊕ Ex ((List Int) × (List Int)) (ByteArray)) :=
  (bif (decide (u29 < 16)) then (if 0 ≤ (w64 (4 * u29)) ∧ (w64 (4 * u29)) ≤ (((((⟨#[101, 120, 112, 97, 110, 100, 32, 51, 50, 45, 98, 121, 116, 101, 32, 107]⟩ : ByteArray) ++ x0) ++ y4) ++ x1).size : Int) then ((impl_littleWord.f (((((⟨#[101, 120, 112, 97, 110, 100, 32, 51, 50, 45, 98, 121, 116, 101, 32, 107]⟩ : ByteArray) ++ x0) ++ y4) ++ x1).extract (w64 (4 * u29)).toNat ((((⟨#[101, 120, 112, 97, 110, 100, 32, 51, 50, 45, 98, 121, 116, 101, 32, 107]⟩ : ByteArray) ++ x0) ++ y4) ++ x1).size)).bind fun y53 => (if 0 ≤ u29 ∧ u29 < (16 : Int) then (if 0 ≤ u29 ∧ u29 < (16 : Int) then (if 0 ≤ u29 ∧ u29 < (16 : Int) then (some (.inl ((u21.set u29.toNat y53), (u25.set u29.toNat ((u21.set u29.toNat y53).getD u29.toNat 0)), (w64 (u29 + 1))))) else none) else none) else none)) else none) else (some (.inr (.out (u21, u25)))))
noncomputable def impl_stream.s3 (u104 : Int) (u125 : List Int) (u129 : Int) : Option (((List Int) × Int) ⊕ Ex ((List Int)) (ByteArray)) :=
  (bif (decide (u129 < 4)) then (if 0 ≤ u129 ∧ u129 < (16 : Int) then (if 0 ≤ (w64 (4 + (Int.tmod (w64 (u129 + u104)) 4))) ∧ (w64 (4 + (Int.tmod (w64 (u129 + u104)) 4))) < (16 : Int) then (if 0 ≤ (w64 (8 + (Int.tmod (w64 (u129 + (w64 (2 * u104)))) 4))) ∧ (w64 (8 + (Int.tmod (w64 (u129 + (w64 (2 * u104)))) 4))) < (16 : Int) then (if 0 ≤ (w64 (12 + (Int.tmod (w64 (u129 + (w64 (3 * u104)))) 4))) ∧ (w64 (12 + (Int.tmod (w64 (u129 + (w64 (3 * u104)))) 4))) < (16 : Int) then ((impl_quarter.f (u125.getD u129.toNat 0) (u125.getD (w64 (4 + (Int.tmod (w64 (u129 + u104)) 4))).toNat 0) (u125.getD (w64 (8 + (Int.tmod (w64 (u129 + (w64 (2 * u104)))) 4))).toNat 0) (u125.getD (w64 (12 + (Int.tmod (w64 (u129 + (w64 (3 * u104)))) 4))).toNat 0)).bind fun y165 => (if 0 ≤ u129 ∧ u129 < (16 : Int) then (if 0 ≤ (w64 (4 + (Int.tmod (w64 (u129 + u104)) 4))) ∧ (w64 (4 + (Int.tmod (w64 (u129 + u104)) 4))) < (16 : Int) then (if 0 ≤ (w64 (8 + (Int.tmod (w64 (u129 + (w64 (2 * u104)))) 4))) ∧ (w64 (8 + (Int.tmod (w64 (u129 + (w64 (2 * u104)))) 4))) < (16 : Int) then (if 0 ≤ (w64 (12 + (Int.tmod (w64 (u129 + (w64 (3 * u104)))) 4))) ∧ (w64 (12 + (Int.tmod (w64 (u129 + (w64 (3 * u104)))) 4))) < (16 : Int) then (some (.inl (((((u125.set u129.toNat y165.1).set (w64 (4 + (Int.tmod (w64 (u129 + u104)) 4))).toNat y165.2.1).set (w64 (8 + (Int.tmod (w64 (u129 + (w64 (2 * u104)))) 4))).toNat y165.2.2.1).set (w64 (12 + (Int.tmod (w64 (u129 + (w64 (3 * u104)))) 4))).toNat y165.2.2.2), (w64 (u129 + 1))))) else none) else none) else none) else none)) else none) else none) else none) else none) else (some (.inr (.out u125))))
noncomputable def impl_stream.s2  (u100 : List Int) (u104 : Int) : Option (((List Int) × Int) ⊕ Ex ((List Int)) (ByteArray)) :=
  (bif (decide (u104 < 2)) then ((loopO (fun s => impl_stream.s3 u104 s.1 s.2) (u100, 0)).bind fun o => match o with | .out u130 => (some (.inl (u130, (w64 (u104 + 1))))) | .ret r => (some (.inr (.ret r)))) else (some (.inr (.out u100))))
noncomputable def impl_stream.s1  (u76 : List Int) (u80 : Int) : Option (((List Int) × Int) ⊕ Ex ((List Int)) (ByteArray)) :=
  (bif (decide (u80 < 10)) then ((loopO (fun s => impl_stream.s2  s.1 s.2) (u76, 0)).bind fun o => match o with | .out u105 => (some (.inl (u105, (w64 (u80 + 1))))) | .ret r => (some (.inr (.ret r)))) else (some (.inr (.out u76))))
noncomputable def impl_stream.s4 (u30 : List Int) (u81 : List Int) (u199 : ByteArray) (u200 : Int) : Option ((ByteArray × Int) ⊕ Ex (ByteArray) (ByteArray)) :=
  (bif (decide (u200 < 16)) then (if 0 ≤ u200 ∧ u200 < (16 : Int) then (if 0 ≤ u200 ∧ u200 < (16 : Int) then ((impl_little.f (IntKind.wrap .i64 (IntKind.wrap .u32 ((u81.getD u200.toNat 0) + (u30.getD u200.toNat 0)))) 4).bind fun y224 => (if u199.size + y224.size ≤ 1152921504606846976 then (some (.inl ((u199 ++ y224), (w64 (u200 + 1))))) else none)) else none) else none) else (some (.inr (.out u199))))
noncomputable def impl_stream.f (x0 : ByteArray) (x1 : ByteArray) (x2 : Int) : Option (ByteArray) :=
  (if (⟨#[101, 120, 112, 97, 110, 100, 32, 51, 50, 45, 98, 121, 116, 101, 32, 107]⟩ : ByteArray).size + x0.size ≤ 1152921504606846976 then ((impl_little.f x2 4).bind fun y4 => (if ((⟨#[101, 120, 112, 97, 110, 100, 32, 51, 50, 45, 98, 121, 116, 101, 32, 107]⟩ : ByteArray) ++ x0).size + y4.size ≤ 1152921504606846976 then (if (((⟨#[101, 120, 112, 97, 110, 100, 32, 51, 50, 45, 98, 121, 116, 101, 32, 107]⟩ : ByteArray) ++ x0) ++ y4).size + x1.size ≤ 1152921504606846976 then ((loopO (fun s => impl_stream.s0 x0 x1 y4 s.1 s.2.1 s.2.2) ((List.replicate 16 (0 : Int)), (List.replicate 16 (0 : Int)), 0)).bind fun o => match o with | .out (u30, u34) => ((loopO (fun s => impl_stream.s1  s.1 s.2) (u34, 0)).bind fun o => match o with | .out u81 => ((loopO (fun s => impl_stream.s4 u30 u81 s.1 s.2) ((⟨#[]⟩ : ByteArray), 0)).bind fun o => match o with | .out u201 => (some u201) | .ret r => (some r)) | .ret r => (some r)) | .ret r => (some r)) else none) else none)) else none)
set_option maxRecDepth 100000 in
set_option maxHeartbeats 0 in
theorem impl_stream_t (w0 : World) (x0 : ByteArray) (x1 : ByteArray) (x2 : Int) (r : ByteArray) (H : impl_stream.f x0 x1 x2 = some r) :
    Calls Try.prog 64 #[.string x0, .string x1, .int .i64 x2] w0 (Ret (fun v w => v = .string r ∧ Sat [] w0 w [] [])) := by
  have hs : Sat [] w0 w0 [] [] := Sat.init w0 [] [] (by simp) (by simp) List.nodup_nil (by simp [blks])
  unfold impl_stream.f at H
  refine enter Try.func64 rfl Try.ntmps64 rfl fun a hk => ?_
  apply wp_seq_k; intro K1 hK1
  apply wp_region_lit
  refine sa _ rfl hk rfl rfl rfl fun a hk => ?_
  show wpList _ _ _ [] _ _
  refine wpList_nil ?_
  refine hK1 _ _ ?_
  apply wp_seq_k; intro K2 hK2
  apply wp_region_lit
  refine sm _ rfl hk rfl rfl rfl fun a hk => ?_
  rcases ite_some H with ⟨c3, H⟩ | ⟨_, H⟩
  rotate_left
  ·cases H
  refine ssa rfl hk rfl rfl rfl rfl c3 fun a hk => ?_
  refine sm _ rfl hk rfl rfl rfl fun a hk => ?_
  obtain ⟨y4, h5, H⟩ := bind_some H
  refine sc rfl en109 hk rfl rfl rfl (impl_little_t _ x2 4 _ h5) ?_
  rintro _ w ⟨rfl, hG⟩ a hk
  have hs := hs.call0 hG
  rcases ite_some H with ⟨c6, H⟩ | ⟨_, H⟩
  rotate_left
  ·cases H
  refine ssa rfl hk rfl rfl rfl rfl c6 fun a hk => ?_
  refine sm _ rfl hk rfl rfl rfl fun a hk => ?_
  rcases ite_some H with ⟨c7, H⟩ | ⟨_, H⟩
  rotate_left
  ·cases H
  refine ssa rfl hk rfl rfl rfl rfl c7 fun a hk => ?_
  refine sa _ rfl hk rfl rfl rfl fun a hk => ?_
  show wpList _ _ _ [] _ _
  refine wpList_nil ?_
  refine hK2 _ _ ?_
  apply wp_seq_k; intro K8 hK8
  apply wp_region_lit
  refine sala 1 ((Lay.int .u32)) (m := 16) (z := 0) (zc := [.int .u32 0]) hs rfl hk rfl rfl ze115 (by exact ⟨rfl, rfl⟩) rfl rfl rfl fun b9 k10 w a hk o11 hs => ?_
  have lh12 : (List.replicate 16 (0 : Int)).length = 16 := List.length_replicate
  refine sala 2 ((Lay.int .u32)) (m := 16) (z := 0) (zc := [.int .u32 0]) hs rfl hk rfl rfl ze115 (by exact ⟨rfl, rfl⟩) rfl rfl rfl fun b13 k14 w a hk o15 hs => ?_
  have lh16 : (List.replicate 16 (0 : Int)).length = 16 := List.length_replicate
  show wpList _ _ _ [] _ _
  refine wpList_nil ?_
  refine hK8 _ _ ?_
  apply wp_seq_k; intro K17 hK17
  apply wp_seq_k; intro K18 hK18
  apply wp_region_lit
  refine sm _ rfl hk rfl rfl rfl fun a hk => ?_
  show wpList _ _ _ [] _ _
  refine wpList_nil ?_
  refine hK18 _ _ ?_
  have hs := hs.pick [(1, 1), (2, 2)] rfl
  obtain ⟨o38, h39, HL40⟩ := bind_some H
  clear H
  obtain ⟨R41, hR41⟩ : ∃ R : Act → World → Prop, R = fun a w => ∃ (u30 : List Int) (u34 : List Int) (k31 : Chunk) (k35 : Chunk), o38 = .out (u30, u34) ∧ Kn [(8, (.pointer (some ⟨b9, 0, none⟩))), (9, (.pointer (some ⟨b13, 0, none⟩)))] 111 a ∧ Sat [] w0 w [] [(1, k31), (2, k35)] ∧ Own (Lay.int .u32) 115 (some ⟨b9, 0, none⟩) 16 u30 k31 ∧ u30.length = 16 ∧ Own (Lay.int .u32) 115 (some ⟨b13, 0, none⟩) 16 u34 k35 ∧ u34.length = 16 := ⟨_, rfl⟩
  refine wp_cutq R41 ?_ ?_
  ·refine wp_block ?_
   obtain ⟨fu43, h39⟩ := loopO_some h39
   obtain ⟨I42, hI42⟩ : ∃ I : Nat → Act → World → Prop, I = fun fu a w => ∃ (u21 : List Int) (u25 : List Int) (u29 : Int) (k22 : Chunk) (k26 : Chunk), loopN (fun s => impl_stream.s0 x0 x1 y4 s.1 s.2.1 s.2.2) fu (u21, u25, u29) = some o38 ∧ Kn [(7, (.string ((((⟨#[101, 120, 112, 97, 110, 100, 32, 51, 50, 45, 98, 121, 116, 101, 32, 107]⟩ : ByteArray) ++ x0) ++ y4) ++ x1))), (8, (.pointer (some ⟨b9, 0, none⟩))), (9, (.pointer (some ⟨b13, 0, none⟩))), (25, (.int .i64 u29))] 111 a ∧ Sat [] w0 w [] [(1, k22), (2, k26)] ∧ Own (Lay.int .u32) 115 (some ⟨b9, 0, none⟩) 16 u21 k22 ∧ u21.length = 16 ∧ Own (Lay.int .u32) 115 (some ⟨b13, 0, none⟩) 16 u25 k26 ∧ u25.length = 16 := ⟨_, rfl⟩
   refine wp_loop_ghost I42 fu43 ?_ ?_
   ·rw [hI42]
    exact ⟨(List.replicate 16 (0 : Int)), (List.replicate 16 (0 : Int)), 0, _, _, h39, (hk.c 7 rfl (hk.c 8 rfl (hk.c 9 rfl (hk.c 25 rfl hk.k)))), (hs.pick [(1, 1), (2, 2)] rfl), o11, lh12, o15, lh16⟩
   ·clear h39 hk hs
    intro fu43 a w hI0
    rw [hI42] at hI0
    obtain ⟨u21, u25, u29, k22, k26, hi, hk, hs, o23, lh24, o27, lh28⟩ := hI0
    obtain ⟨x44, H, h45⟩ := loop_round hi
    try dsimp only at H
    unfold impl_stream.s0 at H
    apply wp_seq_k; intro K46 hK46
    apply wp_region_lit
    refine sv (.bool (decide (u29 < 16))) hk rfl rfl rfl fun a hk => ?_
    show wpList _ _ _ [] _ _
    refine wpList_nil ?_
    refine hK46 _ _ ?_
    apply wp_seq_k; intro K47 hK47
    rcases cond_some H with ⟨c48, H⟩ | ⟨c48, H⟩
    ·have hk := hk.lit 26 c48 rfl
     refine cnd_true hk rfl rfl ?_
     refine wp_skip ?_
     refine hK47 _ _ ?_
     apply wp_seq_k; intro K49 hK49
     refine wp_block ?_
     apply wp_seq_k; intro K50 hK50
     apply wp_region_lit
     refine sm _ rfl hk rfl rfl rfl fun a hk => ?_
     refine sa _ rfl hk rfl rfl rfl fun a hk => ?_
     show wpList _ _ _ [] _ _
     refine wpList_nil ?_
     refine hK50 _ _ ?_
     apply wp_seq_k; intro K51 hK51
     apply wp_region_lit
     refine sm _ rfl hk rfl rfl rfl fun a hk => ?_
     refine sm _ rfl hk rfl rfl rfl fun a hk => ?_
     refine sm _ rfl hk rfl rfl rfl fun a hk => ?_
     refine sv (.int .i64 (w64 (4 * u29))) hk rfl rfl rfl fun a hk => ?_
     rcases ite_some H with ⟨c52, H⟩ | ⟨_, H⟩
     rotate_left
     ·cases H
     refine ssl_l rfl hk rfl rfl rfl rfl un9 c52.1 c52.2 fun a hk => ?_
     obtain ⟨y53, h54, H⟩ := bind_some H
     refine sc rfl en110 hk rfl rfl rfl (impl_littleWord_t _ (((((⟨#[101, 120, 112, 97, 110, 100, 32, 51, 50, 45, 98, 121, 116, 101, 32, 107]⟩ : ByteArray) ++ x0) ++ y4) ++ x1).extract (w64 (4 * u29)).toNat ((((⟨#[101, 120, 112, 97, 110, 100, 32, 51, 50, 45, 98, 121, 116, 101, 32, 107]⟩ : ByteArray) ++ x0) ++ y4) ++ x1).size) _ h54) ?_
     rintro _ w ⟨rfl, hG⟩ a hk
     have hs := hs.call0 hG
     rcases ite_some H with ⟨c55, H⟩ | ⟨_, H⟩
     rotate_left
     ·cases H
     obtain ⟨b56, q57, hAc55⟩ := (o23.view).some_ u29 c55.1 (by rw [lh24]; exact c55.2)
     refine sia rfl hk rfl rfl rfl rfl un115 sz67 c55.1 c55.2 hAc55 fun a hk => ?_
     refine so (j := 0) 1 0 y53 hs rfl o23 c55.1 (by rw [lh24]; exact c55.2) rfl hk rfl rfl rfl rfl rfl sz67 (by simp [Value.cells, Value.oneCell']) (Nat.le_of_ble_eq_true rfl) (fun _ _ h => ⟨by rw [h.1]; rfl, h.2⟩) fun k58 w a hk o59 hs => ?_
     have lh60 : (u21.set u29.toNat y53).length = 16 := by rw [List.length_set]; exact lh24
     show wpList _ _ _ [] _ _
     refine wpList_nil ?_
     refine hK51 _ _ ?_
     have hs := hs.pick [(1, 1), (2, 2)] rfl
     apply wp_region_lit
     refine sm _ rfl hk rfl rfl rfl fun a hk => ?_
     refine sm _ rfl hk rfl rfl rfl fun a hk => ?_
     rcases ite_some H with ⟨c61, H⟩ | ⟨_, H⟩
     rotate_left
     ·cases H
     obtain ⟨b62, q63, hAc61⟩ := (o59.view).some_ u29 c61.1 (by rw [lh60]; exact c61.2)
     refine sia rfl hk rfl rfl rfl rfl un115 sz67 c61.1 c61.2 hAc61 fun a hk => ?_
     obtain ⟨_, rfl, e64⟩ := (o59.view).at_ 0 u29 c61.1 (by rw [lh60]; exact c61.2)
     refine sl (v := (.int .u32 ((u21.set u29.toNat y53).getD u29.toNat 0))) rfl hk rfl rfl rfl ag67 ((e64 0 _ rfl).cell (hs.hasG (k := 1) rfl)) fun a hk => ?_
     rcases ite_some H with ⟨c65, H⟩ | ⟨_, H⟩
     rotate_left
     ·cases H
     obtain ⟨b66, q67, hAc65⟩ := (o27.view).some_ u29 c65.1 (by rw [lh28]; exact c65.2)
     refine sia rfl hk rfl rfl rfl rfl un115 sz67 c65.1 c65.2 hAc65 fun a hk => ?_
     refine so (j := 0) 2 0 ((u21.set u29.toNat y53).getD u29.toNat 0) hs rfl o27 c65.1 (by rw [lh28]; exact c65.2) rfl hk rfl rfl rfl rfl rfl sz67 (by simp [Value.cells, Value.oneCell']) (Nat.le_of_ble_eq_true rfl) (fun _ _ h => ⟨by rw [h.1]; rfl, h.2⟩) fun k68 w a hk o69 hs => ?_
     have lh70 : (u25.set u29.toNat ((u21.set u29.toNat y53).getD u29.toNat 0)).length = 16 := by rw [List.length_set]; exact lh28
     show wpList _ _ _ [] _ _
     refine wpList_nil ?_
     refine hK49 _ _ ?_
     apply wp_region_lit
     refine sv (.int .i64 (w64 (u29 + 1))) hk rfl rfl rfl fun a hk => ?_
     refine sm _ rfl hk rfl rfl rfl fun a hk => ?_
     show wpList _ _ _ [] _ _
     refine wpList_nil ?_
     obtain rfl := Option.some.inj H
     obtain ⟨m71, hmm71, h45⟩ := h45
     show ∃ n', n' < _ ∧ I42 n' _ _
     refine ⟨m71, hmm71, ?_⟩
     rw [hI42]
     exact ⟨(u21.set u29.toNat y53), (u25.set u29.toNat ((u21.set u29.toNat y53).getD u29.toNat 0)), (w64 (u29 + 1)), _, _, h45, (hk.c 7 rfl (hk.c 8 rfl (hk.c 9 rfl (hk.c 25 rfl hk.k)))), (hs.pick [(1, 1), (2, 2)] rfl), o59, lh60, o69, lh70⟩
    ·have hk := hk.lit 26 c48 rfl
     refine cnd_false hk rfl rfl ?_
     refine wp_exit ?_
     obtain rfl := Option.some.inj H
     show R41 _ _
     rw [hR41]
     exact ⟨u21, u25, _, _, h45.symm, (hk.c 8 rfl (hk.c 9 rfl hk.k)), (hs.pick [(1, 1), (2, 2)] rfl), o23, lh24, o27, lh28⟩
  ·intro a w hR0
   rw [hR41] at hR0
   obtain ⟨u30, u34, k31, k35, rfl, hk, hs, o32, lh33, o36, lh37⟩ := hR0
   have H := HL40
   try dsimp only at H
   refine hK17 _ _ ?_
   apply wp_seq_k; intro K72 hK72
   apply wp_seq_k; intro K73 hK73
   apply wp_region_lit
   refine sm _ rfl hk rfl rfl rfl fun a hk => ?_
   show wpList _ _ _ [] _ _
   refine wpList_nil ?_
   refine hK73 _ _ ?_
   obtain ⟨o85, h86, HL87⟩ := bind_some H
   clear H
   obtain ⟨R88, hR88⟩ : ∃ R : Act → World → Prop, R = fun a w => ∃ (u81 : List Int) (k82 : Chunk), o85 = .out u81 ∧ Kn [(8, (.pointer (some ⟨b9, 0, none⟩))), (9, (.pointer (some ⟨b13, 0, none⟩)))] 111 a ∧ Sat [] w0 w [] [(1, k31), (2, k82)] ∧ Own (Lay.int .u32) 115 (some ⟨b13, 0, none⟩) 16 u81 k82 ∧ u81.length = 16 := ⟨_, rfl⟩
   refine wp_cutq R88 ?_ ?_
   ·refine wp_block ?_
    obtain ⟨fu90, h86⟩ := loopO_some h86
    obtain ⟨I89, hI89⟩ : ∃ I : Nat → Act → World → Prop, I = fun fu a w => ∃ (u76 : List Int) (u80 : Int) (k77 : Chunk), loopN (fun s => impl_stream.s1  s.1 s.2) fu (u76, u80) = some o85 ∧ Kn [(8, (.pointer (some ⟨b9, 0, none⟩))), (9, (.pointer (some ⟨b13, 0, none⟩))), (41, (.int .i64 u80))] 111 a ∧ Sat [] w0 w [] [(1, k31), (2, k77)] ∧ Own (Lay.int .u32) 115 (some ⟨b13, 0, none⟩) 16 u76 k77 ∧ u76.length = 16 := ⟨_, rfl⟩
    refine wp_loop_ghost I89 fu90 ?_ ?_
    ·rw [hI89]
     exact ⟨u34, 0, _, h86, (hk.c 8 rfl (hk.c 9 rfl (hk.c 41 rfl hk.k))), (hs.pick [(1, 1), (2, 2)] rfl), o36, lh37⟩
    ·clear h86 hk hs
     intro fu90 a w hI0
     rw [hI89] at hI0
     obtain ⟨u76, u80, k77, hi, hk, hs, o78, lh79⟩ := hI0
     obtain ⟨x91, H, h92⟩ := loop_round hi
     try dsimp only at H
     unfold impl_stream.s1 at H
     apply wp_seq_k; intro K93 hK93
     apply wp_region_lit
     refine sv (.bool (decide (u80 < 10))) hk rfl rfl rfl fun a hk => ?_
     show wpList _ _ _ [] _ _
     refine wpList_nil ?_
     refine hK93 _ _ ?_
     apply wp_seq_k; intro K94 hK94
     rcases cond_some H with ⟨c95, H⟩ | ⟨c95, H⟩
     ·have hk := hk.lit 42 c95 rfl
      refine cnd_true hk rfl rfl ?_
      refine wp_skip ?_
      refine hK94 _ _ ?_
      have hs := hs.pick [(1, 1), (2, 2)] rfl
      apply wp_seq_k; intro K96 hK96
      refine wp_block ?_
      apply wp_seq_k; intro K97 hK97
      apply wp_region_lit
      refine sm _ rfl hk rfl rfl rfl fun a hk => ?_
      show wpList _ _ _ [] _ _
      refine wpList_nil ?_
      refine hK97 _ _ ?_
      obtain ⟨o109, h110, HL111⟩ := bind_some H
      clear H
      obtain ⟨R112, hR112⟩ : ∃ R : Act → World → Prop, R = fun a w => ∃ (u105 : List Int) (k106 : Chunk), o109 = .out u105 ∧ Kn [(8, (.pointer (some ⟨b9, 0, none⟩))), (9, (.pointer (some ⟨b13, 0, none⟩))), (41, (.int .i64 u80))] 111 a ∧ Sat [] w0 w [] [(1, k31), (2, k106)] ∧ Own (Lay.int .u32) 115 (some ⟨b13, 0, none⟩) 16 u105 k106 ∧ u105.length = 16 := ⟨_, rfl⟩
      refine wp_cutq R112 ?_ ?_
      ·refine wp_block ?_
       obtain ⟨fu114, h110⟩ := loopO_some h110
       obtain ⟨I113, hI113⟩ : ∃ I : Nat → Act → World → Prop, I = fun fu a w => ∃ (u100 : List Int) (u104 : Int) (k101 : Chunk), loopN (fun s => impl_stream.s2  s.1 s.2) fu (u100, u104) = some o109 ∧ Kn [(8, (.pointer (some ⟨b9, 0, none⟩))), (9, (.pointer (some ⟨b13, 0, none⟩))), (41, (.int .i64 u80)), (43, (.int .i64 u104))] 111 a ∧ Sat [] w0 w [] [(1, k31), (2, k101)] ∧ Own (Lay.int .u32) 115 (some ⟨b13, 0, none⟩) 16 u100 k101 ∧ u100.length = 16 := ⟨_, rfl⟩
       refine wp_loop_ghost I113 fu114 ?_ ?_
       ·rw [hI113]
        exact ⟨u76, 0, _, h110, (hk.c 8 rfl (hk.c 9 rfl (hk.c 41 rfl (hk.c 43 rfl hk.k)))), (hs.pick [(1, 1), (2, 2)] rfl), o78, lh79⟩
       ·clear h110 hk hs
        intro fu114 a w hI0
        rw [hI113] at hI0
        obtain ⟨u100, u104, k101, hi, hk, hs, o102, lh103⟩ := hI0
        obtain ⟨x115, H, h116⟩ := loop_round hi
        try dsimp only at H
        unfold impl_stream.s2 at H
        apply wp_seq_k; intro K117 hK117
        apply wp_region_lit
        refine sv (.bool (decide (u104 < 2))) hk rfl rfl rfl fun a hk => ?_
        show wpList _ _ _ [] _ _
        refine wpList_nil ?_
        refine hK117 _ _ ?_
        apply wp_seq_k; intro K118 hK118
        rcases cond_some H with ⟨c119, H⟩ | ⟨c119, H⟩
        ·have hk := hk.lit 44 c119 rfl
         refine cnd_true hk rfl rfl ?_
         refine wp_skip ?_
         refine hK118 _ _ ?_
         apply wp_seq_k; intro K120 hK120
         refine wp_block ?_
         apply wp_seq_k; intro K121 hK121
         apply wp_region_lit
         refine sm _ rfl hk rfl rfl rfl fun a hk => ?_
         refine sa _ rfl hk rfl rfl rfl fun a hk => ?_
         show wpList _ _ _ [] _ _
         refine wpList_nil ?_
         refine hK121 _ _ ?_
         have hs := hs.pick [(1, 1), (2, 2)] rfl
         apply wp_seq_k; intro K122 hK122
         apply wp_region_lit
         refine sm _ rfl hk rfl rfl rfl fun a hk => ?_
         show wpList _ _ _ [] _ _
         refine wpList_nil ?_
         refine hK122 _ _ ?_
         obtain ⟨o134, h135, HL136⟩ := bind_some H
         clear H
         obtain ⟨R137, hR137⟩ : ∃ R : Act → World → Prop, R = fun a w => ∃ (u130 : List Int) (k131 : Chunk), o134 = .out u130 ∧ Kn [(8, (.pointer (some ⟨b9, 0, none⟩))), (9, (.pointer (some ⟨b13, 0, none⟩))), (41, (.int .i64 u80)), (43, (.int .i64 u104))] 111 a ∧ Sat [] w0 w [] [(1, k31), (2, k131)] ∧ Own (Lay.int .u32) 115 (some ⟨b13, 0, none⟩) 16 u130 k131 ∧ u130.length = 16 := ⟨_, rfl⟩
         refine wp_cutq R137 ?_ ?_
         ·refine wp_block ?_
          obtain ⟨fu139, h135⟩ := loopO_some h135
          obtain ⟨I138, hI138⟩ : ∃ I : Nat → Act → World → Prop, I = fun fu a w => ∃ (u125 : List Int) (u129 : Int) (k126 : Chunk), loopN (fun s => impl_stream.s3 u104 s.1 s.2) fu (u125, u129) = some o134 ∧ Kn [(8, (.pointer (some ⟨b9, 0, none⟩))), (9, (.pointer (some ⟨b13, 0, none⟩))), (11, (.int .i64 u104)), (41, (.int .i64 u80)), (43, (.int .i64 u104)), (46, (.int .i64 u129))] 111 a ∧ Sat [] w0 w [] [(1, k31), (2, k126)] ∧ Own (Lay.int .u32) 115 (some ⟨b13, 0, none⟩) 16 u125 k126 ∧ u125.length = 16 := ⟨_, rfl⟩
          refine wp_loop_ghost I138 fu139 ?_ ?_
          ·rw [hI138]
           exact ⟨u100, 0, _, h135, (hk.c 8 rfl (hk.c 9 rfl (hk.c 11 rfl (hk.c 41 rfl (hk.c 43 rfl (hk.c 46 rfl hk.k)))))), (hs.pick [(1, 1), (2, 2)] rfl), o102, lh103⟩
          ·clear h135 hk hs
           intro fu139 a w hI0
           rw [hI138] at hI0
           obtain ⟨u125, u129, k126, hi, hk, hs, o127, lh128⟩ := hI0
           obtain ⟨x140, H, h141⟩ := loop_round hi
           try dsimp only at H
           unfold impl_stream.s3 at H
           apply wp_seq_k; intro K142 hK142
           apply wp_region_lit
           refine sv (.bool (decide (u129 < 4))) hk rfl rfl rfl fun a hk => ?_
           show wpList _ _ _ [] _ _
           refine wpList_nil ?_
           refine hK142 _ _ ?_
           apply wp_seq_k; intro K143 hK143
           rcases cond_some H with ⟨c144, H⟩ | ⟨c144, H⟩
           ·have hk := hk.lit 47 c144 rfl
            refine cnd_true hk rfl rfl ?_
            refine wp_skip ?_
            refine hK143 _ _ ?_
            apply wp_seq_k; intro K145 hK145
            refine wp_block ?_
            apply wp_seq_k; intro K146 hK146
            apply wp_region_lit
            refine sm _ rfl hk rfl rfl rfl fun a hk => ?_
            refine sa _ rfl hk rfl rfl rfl fun a hk => ?_
            show wpList _ _ _ [] _ _
            refine wpList_nil ?_
            refine hK146 _ _ ?_
            have hs := hs.pick [(1, 1), (2, 2)] rfl
            apply wp_seq_k; intro K147 hK147
            apply wp_region_lit
            refine sm _ rfl hk rfl rfl rfl fun a hk => ?_
            refine sm _ rfl hk rfl rfl rfl fun a hk => ?_
            refine sv (.int .i64 (w64 (u129 + u104))) hk rfl rfl rfl fun a hk => ?_
            refine sv (.int .i64 (Int.tmod (w64 (u129 + u104)) 4)) hk rfl rfl rfl fun a hk => ?_
            refine sv (.int .i64 (w64 (4 + (Int.tmod (w64 (u129 + u104)) 4)))) hk rfl rfl rfl fun a hk => ?_
            refine sm _ rfl hk rfl rfl rfl fun a hk => ?_
            refine sm _ rfl hk rfl rfl rfl fun a hk => ?_
            refine sv (.int .i64 (w64 (2 * u104))) hk rfl rfl rfl fun a hk => ?_
            refine sv (.int .i64 (w64 (u129 + (w64 (2 * u104))))) hk rfl rfl rfl fun a hk => ?_
            refine sv (.int .i64 (Int.tmod (w64 (u129 + (w64 (2 * u104)))) 4)) hk rfl rfl rfl fun a hk => ?_
            refine sv (.int .i64 (w64 (8 + (Int.tmod (w64 (u129 + (w64 (2 * u104)))) 4)))) hk rfl rfl rfl fun a hk => ?_
            refine sm _ rfl hk rfl rfl rfl fun a hk => ?_
            refine sm _ rfl hk rfl rfl rfl fun a hk => ?_
            refine sv (.int .i64 (w64 (3 * u104))) hk rfl rfl rfl fun a hk => ?_
            refine sv (.int .i64 (w64 (u129 + (w64 (3 * u104))))) hk rfl rfl rfl fun a hk => ?_
            refine sv (.int .i64 (Int.tmod (w64 (u129 + (w64 (3 * u104)))) 4)) hk rfl rfl rfl fun a hk => ?_
            refine sv (.int .i64 (w64 (12 + (Int.tmod (w64 (u129 + (w64 (3 * u104)))) 4)))) hk rfl rfl rfl fun a hk => ?_
            refine sa _ rfl hk rfl rfl rfl fun a hk => ?_
            refine sa _ rfl hk rfl rfl rfl fun a hk => ?_
            refine sa _ rfl hk rfl rfl rfl fun a hk => ?_
            show wpList _ _ _ [] _ _
            refine wpList_nil ?_
            refine hK147 _ _ ?_
            refine wp_region_tree2 16 (.q 0 (.q 1 (.q 2 (.q 3 (.q 4 (.q 5 (.q 6 (.q 7 (.q 8 (.q 9 (.q 10 (.q 11 (.q 12 (.alt 13 (.alt 14 (.alt 15 (.alt 16 (.alt 17 (.q 18 (.q 19 (.q 20 (.q 21 (.alt 22 (.alt 23 (.alt 24 (.alt 25 (.alt 26 (.alt 27 (.alt 28 (.last 29) .stop) .stop) .stop) .stop) .stop) .stop) .stop))))) .stop) .stop) .stop) .stop) .stop)))))))))))))) mo (by kernel_rfl) (hs.pick [(1, 1), (2, 2)] rfl) (fun w hs => hs.pick [(1, 1)] rfl) fun _ => ?_
            have hs := hs.drew
            refine tq2 (.int .i64 u129) hk rfl rfl rfl rfl (fun w hs => sm _ rfl hk rfl rfl rfl fun a hk => qe hk) fun a hk => ?_
            refine tq2 (.int .i64 (w64 (4 + (Int.tmod (w64 (u129 + u104)) 4)))) hk rfl rfl rfl rfl (fun w hs => sm _ rfl hk rfl rfl rfl fun a hk => qe hk) fun a hk => ?_
            refine tq2 (.int .i64 (w64 (8 + (Int.tmod (w64 (u129 + (w64 (2 * u104)))) 4)))) hk rfl rfl rfl rfl (fun w hs => sm _ rfl hk rfl rfl rfl fun a hk => qe hk) fun a hk => ?_
            refine tq2 (.int .i64 (w64 (12 + (Int.tmod (w64 (u129 + (w64 (3 * u104)))) 4)))) hk rfl rfl rfl rfl (fun w hs => sm _ rfl hk rfl rfl rfl fun a hk => qe hk) fun a hk => ?_
            refine tq2 (.int .i64 u129) hk rfl rfl rfl rfl (fun w hs => sm _ rfl hk rfl rfl rfl fun a hk => qe hk) fun a hk => ?_
            rcases ite_some H with ⟨c149, H⟩ | ⟨_, H⟩
            rotate_left
            ·cases H
            obtain ⟨b150, q151, hAc149⟩ := (o127.view).some_ u129 c149.1 (by rw [lh128]; exact c149.2)
            refine tq2 (.pointer (some (padd (some ⟨b13, 0, none⟩) (u129.toNat * 1)))) hk rfl rfl rfl rfl (fun w hs => sia rfl hk rfl rfl rfl rfl un115 sz67 c149.1 c149.2 hAc149 fun a hk => qe hk) fun a hk => ?_
            obtain ⟨_, rfl, e152⟩ := (o127.view).at_ 0 u129 c149.1 (by rw [lh128]; exact c149.2)
            refine tq1 (hdep := by kernel_rfl) (.int .u32 (u125.getD u129.toNat 0)) hk rfl rfl rfl rfl (fun w hs => sl (v := (.int .u32 (u125.getD u129.toNat 0))) rfl hk rfl rfl rfl ag67 ((e152 0 _ rfl).cell (hs.hasG (k := 2) rfl)) fun a hk => qe hk) fun a hk => ?_
            refine tq2 (.int .i64 (w64 (4 + (Int.tmod (w64 (u129 + u104)) 4)))) hk rfl rfl rfl rfl (fun w hs => sm _ rfl hk rfl rfl rfl fun a hk => qe hk) fun a hk => ?_
            rcases ite_some H with ⟨c153, H⟩ | ⟨_, H⟩
            rotate_left
            ·cases H
            obtain ⟨b154, q155, hAc153⟩ := (o127.view).some_ (w64 (4 + (Int.tmod (w64 (u129 + u104)) 4))) c153.1 (by rw [lh128]; exact c153.2)
            refine tq2 (.pointer (some (padd (some ⟨b13, 0, none⟩) ((w64 (4 + (Int.tmod (w64 (u129 + u104)) 4))).toNat * 1)))) hk rfl rfl rfl rfl (fun w hs => sia rfl hk rfl rfl rfl rfl un115 sz67 c153.1 c153.2 hAc153 fun a hk => qe hk) fun a hk => ?_
            obtain ⟨_, rfl, e156⟩ := (o127.view).at_ 0 (w64 (4 + (Int.tmod (w64 (u129 + u104)) 4))) c153.1 (by rw [lh128]; exact c153.2)
            refine tq1 (hdep := by kernel_rfl) (.int .u32 (u125.getD (w64 (4 + (Int.tmod (w64 (u129 + u104)) 4))).toNat 0)) hk rfl rfl rfl rfl (fun w hs => sl (v := (.int .u32 (u125.getD (w64 (4 + (Int.tmod (w64 (u129 + u104)) 4))).toNat 0))) rfl hk rfl rfl rfl ag67 ((e156 0 _ rfl).cell (hs.hasG (k := 2) rfl)) fun a hk => qe hk) fun a hk => ?_
            refine tq2 (.int .i64 (w64 (8 + (Int.tmod (w64 (u129 + (w64 (2 * u104)))) 4)))) hk rfl rfl rfl rfl (fun w hs => sm _ rfl hk rfl rfl rfl fun a hk => qe hk) fun a hk => ?_
            rcases ite_some H with ⟨c157, H⟩ | ⟨_, H⟩
            rotate_left
            ·cases H
            obtain ⟨b158, q159, hAc157⟩ := (o127.view).some_ (w64 (8 + (Int.tmod (w64 (u129 + (w64 (2 * u104)))) 4))) c157.1 (by rw [lh128]; exact c157.2)
            refine tq2 (.pointer (some (padd (some ⟨b13, 0, none⟩) ((w64 (8 + (Int.tmod (w64 (u129 + (w64 (2 * u104)))) 4))).toNat * 1)))) hk rfl rfl rfl rfl (fun w hs => sia rfl hk rfl rfl rfl rfl un115 sz67 c157.1 c157.2 hAc157 fun a hk => qe hk) fun a hk => ?_
            obtain ⟨_, rfl, e160⟩ := (o127.view).at_ 0 (w64 (8 + (Int.tmod (w64 (u129 + (w64 (2 * u104)))) 4))) c157.1 (by rw [lh128]; exact c157.2)
            refine tq1 (hdep := by kernel_rfl) (.int .u32 (u125.getD (w64 (8 + (Int.tmod (w64 (u129 + (w64 (2 * u104)))) 4))).toNat 0)) hk rfl rfl rfl rfl (fun w hs => sl (v := (.int .u32 (u125.getD (w64 (8 + (Int.tmod (w64 (u129 + (w64 (2 * u104)))) 4))).toNat 0))) rfl hk rfl rfl rfl ag67 ((e160 0 _ rfl).cell (hs.hasG (k := 2) rfl)) fun a hk => qe hk) fun a hk => ?_
            refine ta1 hk rfl rfl rfl (fun K_r148_13 hK_r148_13 w hF => ?_) wt2_stop
            have hs := hs.f hF
            refine sm _ rfl hk rfl rfl rfl fun a hk => ?_
            refine se (hs.pick [(1, 1), (2, 2)] rfl) hk (hK_r148_13 _ _ ?_)
            refine ta1 hk rfl rfl rfl (fun K_r148_14 hK_r148_14 w hF => ?_) wt2_stop
            have hs := hs.f hF
            rcases ite_some H with ⟨c161, H⟩ | ⟨_, H⟩
            rotate_left
            ·cases H
            obtain ⟨b162, q163, hAc161⟩ := (o127.view).some_ (w64 (12 + (Int.tmod (w64 (u129 + (w64 (3 * u104)))) 4))) c161.1 (by rw [lh128]; exact c161.2)
            refine sia rfl hk rfl rfl rfl rfl un115 sz67 c161.1 c161.2 hAc161 fun a hk => ?_
            refine se (hs.pick [(1, 1), (2, 2)] rfl) hk (hK_r148_14 _ _ ?_)
            refine ta1 hk rfl rfl rfl (fun K_r148_15 hK_r148_15 w hF => ?_) wt2_stop
            have hs := hs.f hF
            obtain ⟨_, rfl, e164⟩ := (o127.view).at_ 0 (w64 (12 + (Int.tmod (w64 (u129 + (w64 (3 * u104)))) 4))) c161.1 (by rw [lh128]; exact c161.2)
            refine sl (v := (.int .u32 (u125.getD (w64 (12 + (Int.tmod (w64 (u129 + (w64 (3 * u104)))) 4))).toNat 0))) rfl hk rfl rfl rfl ag67 ((e164 0 _ rfl).cell (hs.hasG (k := 2) rfl)) fun a hk => ?_
            refine se (hs.pick [(1, 1), (2, 2)] rfl) hk (hK_r148_15 _ _ ?_)
            refine tam hk rfl rfl rfl (fun K_r148_16 hK_r148_16 w hF => ?_) wt2_stop
            have hs := hs.f hF
            obtain ⟨y165, h166, H⟩ := bind_some H
            refine sc rfl en66 hk rfl rfl rfl (impl_quarter_t _ (u125.getD u129.toNat 0) (u125.getD (w64 (4 + (Int.tmod (w64 (u129 + u104)) 4))).toNat 0) (u125.getD (w64 (8 + (Int.tmod (w64 (u129 + (w64 (2 * u104)))) 4))).toNat 0) (u125.getD (w64 (12 + (Int.tmod (w64 (u129 + (w64 (3 * u104)))) 4))).toNat 0) _ h166) ?_
            rintro _ w ⟨rfl, hG⟩ a hk
            have hs := hs.call0 hG
            refine se (hs.pick [(1, 1)] rfl) hk (hK_r148_16 _ _ ?_)
            refine ta2 hk rfl rfl (fun K_r148_17 hK_r148_17 w hF => ?_) wt2_stop
            have hs := hs.f hF
            refine sm _ rfl hk rfl rfl rfl fun a hk => ?_
            refine se (hs.pick [(1, 1)] rfl) hk (hK_r148_17 _ _ ?_)
            refine tq2 (.int .u32 y165.1) hk rfl rfl rfl rfl (fun w hs => sv (.int .u32 y165.1) hk rfl rfl rfl fun a hk => qe hk) fun a hk => ?_
            refine tq2 (.int .u32 y165.2.1) hk rfl rfl rfl rfl (fun w hs => sv (.int .u32 y165.2.1) hk rfl rfl rfl fun a hk => qe hk) fun a hk => ?_
            refine tq2 (.int .u32 y165.2.2.1) hk rfl rfl rfl rfl (fun w hs => sv (.int .u32 y165.2.2.1) hk rfl rfl rfl fun a hk => qe hk) fun a hk => ?_
            refine tq2 (.int .u32 y165.2.2.2) hk rfl rfl rfl rfl (fun w hs => sv (.int .u32 y165.2.2.2) hk rfl rfl rfl fun a hk => qe hk) fun a hk => ?_
            refine ta2 hk rfl rfl (fun K_r148_22 hK_r148_22 w hF => ?_) wt2_stop
            have hs := hs.f hF
            rcases ite_some H with ⟨c167, H⟩ | ⟨_, H⟩
            rotate_left
            ·cases H
            obtain ⟨b168, q169, hAc167⟩ := (o127.view).some_ u129 c167.1 (by rw [lh128]; exact c167.2)
            refine sia rfl hk rfl rfl rfl rfl un115 sz67 c167.1 c167.2 hAc167 fun a hk => ?_
            refine se (hs.pick [(1, 1)] rfl) hk (hK_r148_22 _ _ ?_)
            refine ta2 hk rfl rfl (fun K_r148_23 hK_r148_23 w hF => ?_) wt2_stop
            have hs := hs.f hF
            refine so (j := 0) 2 0 y165.1 hs rfl o127 c167.1 (by rw [lh128]; exact c167.2) rfl hk rfl rfl rfl rfl rfl sz67 (by simp [Value.cells, Value.oneCell']) (Nat.le_of_ble_eq_true rfl) (fun _ _ h => ⟨by rw [h.1]; rfl, h.2⟩) fun k170 w a hk o171 hs => ?_
            have lh172 : (u125.set u129.toNat y165.1).length = 16 := by rw [List.length_set]; exact lh128
            refine se (hs.pick [(1, 1)] rfl) hk (hK_r148_23 _ _ ?_)
            refine ta2 hk rfl rfl (fun K_r148_24 hK_r148_24 w hF => ?_) wt2_stop
            have hs := hs.f hF
            rcases ite_some H with ⟨c173, H⟩ | ⟨_, H⟩
            rotate_left
            ·cases H
            obtain ⟨b174, q175, hAc173⟩ := (o171.view).some_ (w64 (4 + (Int.tmod (w64 (u129 + u104)) 4))) c173.1 (by rw [lh172]; exact c173.2)
            refine sia rfl hk rfl rfl rfl rfl un115 sz67 c173.1 c173.2 hAc173 fun a hk => ?_
            refine se (hs.pick [(1, 1)] rfl) hk (hK_r148_24 _ _ ?_)
            refine ta2 hk rfl rfl (fun K_r148_25 hK_r148_25 w hF => ?_) wt2_stop
            have hs := hs.f hF
            refine so (j := 0) 2 0 y165.2.1 hs rfl o171 c173.1 (by rw [lh172]; exact c173.2) rfl hk rfl rfl rfl rfl rfl sz67 (by simp [Value.cells, Value.oneCell']) (Nat.le_of_ble_eq_true rfl) (fun _ _ h => ⟨by rw [h.1]; rfl, h.2⟩) fun k176 w a hk o177 hs => ?_
            have lh178 : ((u125.set u129.toNat y165.1).set (w64 (4 + (Int.tmod (w64 (u129 + u104)) 4))).toNat y165.2.1).length = 16 := by rw [List.length_set]; exact lh172
            refine se (hs.pick [(1, 1)] rfl) hk (hK_r148_25 _ _ ?_)
            refine ta2 hk rfl rfl (fun K_r148_26 hK_r148_26 w hF => ?_) wt2_stop
            have hs := hs.f hF
            rcases ite_some H with ⟨c179, H⟩ | ⟨_, H⟩
            rotate_left
            ·cases H
            obtain ⟨b180, q181, hAc179⟩ := (o177.view).some_ (w64 (8 + (Int.tmod (w64 (u129 + (w64 (2 * u104)))) 4))) c179.1 (by rw [lh178]; exact c179.2)
            refine sia rfl hk rfl rfl rfl rfl un115 sz67 c179.1 c179.2 hAc179 fun a hk => ?_
            refine se (hs.pick [(1, 1)] rfl) hk (hK_r148_26 _ _ ?_)
            refine ta2 hk rfl rfl (fun K_r148_27 hK_r148_27 w hF => ?_) wt2_stop
            have hs := hs.f hF
            refine so (j := 0) 2 0 y165.2.2.1 hs rfl o177 c179.1 (by rw [lh178]; exact c179.2) rfl hk rfl rfl rfl rfl rfl sz67 (by simp [Value.cells, Value.oneCell']) (Nat.le_of_ble_eq_true rfl) (fun _ _ h => ⟨by rw [h.1]; rfl, h.2⟩) fun k182 w a hk o183 hs => ?_
            have lh184 : (((u125.set u129.toNat y165.1).set (w64 (4 + (Int.tmod (w64 (u129 + u104)) 4))).toNat y165.2.1).set (w64 (8 + (Int.tmod (w64 (u129 + (w64 (2 * u104)))) 4))).toNat y165.2.2.1).length = 16 := by rw [List.length_set]; exact lh178
            refine se (hs.pick [(1, 1)] rfl) hk (hK_r148_27 _ _ ?_)
            refine ta2 hk rfl rfl (fun K_r148_28 hK_r148_28 w hF => ?_) wt2_stop
            have hs := hs.f hF
            rcases ite_some H with ⟨c185, H⟩ | ⟨_, H⟩
            rotate_left
            ·cases H
            obtain ⟨b186, q187, hAc185⟩ := (o183.view).some_ (w64 (12 + (Int.tmod (w64 (u129 + (w64 (3 * u104)))) 4))) c185.1 (by rw [lh184]; exact c185.2)
            refine sia rfl hk rfl rfl rfl rfl un115 sz67 c185.1 c185.2 hAc185 fun a hk => ?_
            refine se (hs.pick [(1, 1)] rfl) hk (hK_r148_28 _ _ ?_)
            refine tl2 hk rfl rfl fun K_r148_29 hK_r148_29 w hF => ?_
            have hs := hs.f hF
            refine so (j := 0) 2 0 y165.2.2.2 hs rfl o183 c185.1 (by rw [lh184]; exact c185.2) rfl hk rfl rfl rfl rfl rfl sz67 (by simp [Value.cells, Value.oneCell']) (Nat.le_of_ble_eq_true rfl) (fun _ _ h => ⟨by rw [h.1]; rfl, h.2⟩) fun k188 w a hk o189 hs => ?_
            have lh190 : ((((u125.set u129.toNat y165.1).set (w64 (4 + (Int.tmod (w64 (u129 + u104)) 4))).toNat y165.2.1).set (w64 (8 + (Int.tmod (w64 (u129 + (w64 (2 * u104)))) 4))).toNat y165.2.2.1).set (w64 (12 + (Int.tmod (w64 (u129 + (w64 (3 * u104)))) 4))).toNat y165.2.2.2).length = 16 := by rw [List.length_set]; exact lh184
            refine se trivial hk (hK_r148_29 _ _ fun w hF => ?_)
            have hs := hs.f hF
            refine hK145 _ _ ?_
            apply wp_region_lit
            refine sv (.int .i64 (w64 (u129 + 1))) hk rfl rfl rfl fun a hk => ?_
            refine sm _ rfl hk rfl rfl rfl fun a hk => ?_
            show wpList _ _ _ [] _ _
            refine wpList_nil ?_
            obtain rfl := Option.some.inj H
            obtain ⟨m191, hmm191, h141⟩ := h141
            show ∃ n', n' < _ ∧ I138 n' _ _
            refine ⟨m191, hmm191, ?_⟩
            rw [hI138]
            exact ⟨((((u125.set u129.toNat y165.1).set (w64 (4 + (Int.tmod (w64 (u129 + u104)) 4))).toNat y165.2.1).set (w64 (8 + (Int.tmod (w64 (u129 + (w64 (2 * u104)))) 4))).toNat y165.2.2.1).set (w64 (12 + (Int.tmod (w64 (u129 + (w64 (3 * u104)))) 4))).toNat y165.2.2.2), (w64 (u129 + 1)), _, h141, (hk.c 8 rfl (hk.c 9 rfl (hk.c 11 rfl (hk.c 41 rfl (hk.c 43 rfl (hk.c 46 rfl hk.k)))))), (hs.pick [(1, 1), (2, 2)] rfl), o189, lh190⟩
           ·have hk := hk.lit 47 c144 rfl
            refine cnd_false hk rfl rfl ?_
            refine wp_exit ?_
            obtain rfl := Option.some.inj H
            show R137 _ _
            rw [hR137]
            exact ⟨u125, _, h141.symm, (hk.c 8 rfl (hk.c 9 rfl (hk.c 41 rfl (hk.c 43 rfl hk.k)))), (hs.pick [(1, 1), (2, 2)] rfl), o127, lh128⟩
         ·intro a w hR0
          rw [hR137] at hR0
          obtain ⟨u130, k131, rfl, hk, hs, o132, lh133⟩ := hR0
          have H := HL136
          try dsimp only at H
          refine hK120 _ _ ?_
          apply wp_region_lit
          refine sv (.int .i64 (w64 (u104 + 1))) hk rfl rfl rfl fun a hk => ?_
          refine sm _ rfl hk rfl rfl rfl fun a hk => ?_
          show wpList _ _ _ [] _ _
          refine wpList_nil ?_
          obtain rfl := Option.some.inj H
          obtain ⟨m192, hmm192, h116⟩ := h116
          show ∃ n', n' < _ ∧ I113 n' _ _
          refine ⟨m192, hmm192, ?_⟩
          rw [hI113]
          exact ⟨u130, (w64 (u104 + 1)), _, h116, (hk.c 8 rfl (hk.c 9 rfl (hk.c 41 rfl (hk.c 43 rfl hk.k)))), (hs.pick [(1, 1), (2, 2)] rfl), o132, lh133⟩
        ·have hk := hk.lit 44 c119 rfl
         refine cnd_false hk rfl rfl ?_
         refine wp_exit ?_
         obtain rfl := Option.some.inj H
         show R112 _ _
         rw [hR112]
         exact ⟨u100, _, h116.symm, (hk.c 8 rfl (hk.c 9 rfl (hk.c 41 rfl hk.k))), (hs.pick [(1, 1), (2, 2)] rfl), o102, lh103⟩
      ·intro a w hR0
       rw [hR112] at hR0
       obtain ⟨u105, k106, rfl, hk, hs, o107, lh108⟩ := hR0
       have H := HL111
       try dsimp only at H
       refine hK96 _ _ ?_
       apply wp_region_lit
       refine sv (.int .i64 (w64 (u80 + 1))) hk rfl rfl rfl fun a hk => ?_
       refine sm _ rfl hk rfl rfl rfl fun a hk => ?_
       show wpList _ _ _ [] _ _
       refine wpList_nil ?_
       obtain rfl := Option.some.inj H
       obtain ⟨m193, hmm193, h92⟩ := h92
       show ∃ n', n' < _ ∧ I89 n' _ _
       refine ⟨m193, hmm193, ?_⟩
       rw [hI89]
       exact ⟨u105, (w64 (u80 + 1)), _, h92, (hk.c 8 rfl (hk.c 9 rfl (hk.c 41 rfl hk.k))), (hs.pick [(1, 1), (2, 2)] rfl), o107, lh108⟩
     ·have hk := hk.lit 42 c95 rfl
      refine cnd_false hk rfl rfl ?_
      refine wp_exit ?_
      obtain rfl := Option.some.inj H
      show R88 _ _
      rw [hR88]
      exact ⟨u76, _, h92.symm, (hk.c 8 rfl (hk.c 9 rfl hk.k)), (hs.pick [(1, 1), (2, 2)] rfl), o78, lh79⟩
   ·intro a w hR0
    rw [hR88] at hR0
    obtain ⟨u81, k82, rfl, hk, hs, o83, lh84⟩ := hR0
    have H := HL87
    try dsimp only at H
    refine hK72 _ _ ?_
    apply wp_seq_k; intro K194 hK194
    apply wp_region_lit
    refine sa _ rfl hk rfl rfl rfl fun a hk => ?_
    show wpList _ _ _ [] _ _
    refine wpList_nil ?_
    refine hK194 _ _ ?_
    have hs := hs.pick [(1, 1), (2, 2)] rfl
    apply wp_seq_k; intro K195 hK195
    apply wp_seq_k; intro K196 hK196
    apply wp_region_lit
    refine sm _ rfl hk rfl rfl rfl fun a hk => ?_
    show wpList _ _ _ [] _ _
    refine wpList_nil ?_
    refine hK196 _ _ ?_
    obtain ⟨o202, h203, HL204⟩ := bind_some H
    clear H
    obtain ⟨R205, hR205⟩ : ∃ R : Act → World → Prop, R = fun a w => ∃ (u201 : ByteArray), o202 = .out u201 ∧ Kn [(16, (.string u201))] 111 a ∧ Sat [] w0 w [] [] := ⟨_, rfl⟩
    refine wp_cutq R205 ?_ ?_
    ·refine wp_block ?_
     obtain ⟨fu207, h203⟩ := loopO_some h203
     obtain ⟨I206, hI206⟩ : ∃ I : Nat → Act → World → Prop, I = fun fu a w => ∃ (u199 : ByteArray) (u200 : Int), loopN (fun s => impl_stream.s4 u30 u81 s.1 s.2) fu (u199, u200) = some o202 ∧ Kn [(8, (.pointer (some ⟨b9, 0, none⟩))), (9, (.pointer (some ⟨b13, 0, none⟩))), (16, (.string u199)), (95, (.int .i64 u200))] 111 a ∧ Sat [] w0 w [] [(1, k31), (2, k82)] := ⟨_, rfl⟩
     refine wp_loop_ghost I206 fu207 ?_ ?_
     ·rw [hI206]
      exact ⟨(⟨#[]⟩ : ByteArray), 0, h203, (hk.c 8 rfl (hk.c 9 rfl (hk.c 16 rfl (hk.c 95 rfl hk.k)))), (hs.pick [(1, 1), (2, 2)] rfl)⟩
     ·clear h203 hk hs
      intro fu207 a w hI0
      rw [hI206] at hI0
      obtain ⟨u199, u200, hi, hk, hs⟩ := hI0
      obtain ⟨x208, H, h209⟩ := loop_round hi
      try dsimp only at H
      unfold impl_stream.s4 at H
      apply wp_seq_k; intro K210 hK210
      apply wp_region_lit
      refine sv (.bool (decide (u200 < 16))) hk rfl rfl rfl fun a hk => ?_
      show wpList _ _ _ [] _ _
      refine wpList_nil ?_
      refine hK210 _ _ ?_
      apply wp_seq_k; intro K211 hK211
      rcases cond_some H with ⟨c212, H⟩ | ⟨c212, H⟩
      ·have hk := hk.lit 96 c212 rfl
       refine cnd_true hk rfl rfl ?_
       refine wp_skip ?_
       refine hK211 _ _ ?_
       apply wp_seq_k; intro K213 hK213
       refine wp_block ?_
       apply wp_seq_k; intro K214 hK214
       apply wp_region_lit
       refine sm _ rfl hk rfl rfl rfl fun a hk => ?_
       refine sa _ rfl hk rfl rfl rfl fun a hk => ?_
       show wpList _ _ _ [] _ _
       refine wpList_nil ?_
       refine hK214 _ _ ?_
       have hs := hs.pick [(1, 1), (2, 2)] rfl
       refine wp_region_tree (.q 0 (.q 1 (.q 2 (.q 3 (.alt 4 (.alt 5 (.alt 6 (.alt 7 (.alt 8 (.alt 9 (.alt 10 (.last 11) .stop) .stop) .stop) .stop) .stop) .stop) .stop))))) mo (by kernel_rfl) (hs.pick [(1, 1), (2, 2)] rfl) fun _ => ?_
       have hs := hs.drew
       refine tqst (.string u199) hk rfl rfl rfl rfl (fun w hs => sm _ rfl hk rfl rfl rfl fun a hk => qe hk) fun a hk => ?_
       refine tqst (.int .i64 u200) hk rfl rfl rfl rfl (fun w hs => sm _ rfl hk rfl rfl rfl fun a hk => qe hk) fun a hk => ?_
       rcases ite_some H with ⟨c216, H⟩ | ⟨_, H⟩
       rotate_left
       ·cases H
       obtain ⟨b217, q218, hAc216⟩ := (o83.view).some_ u200 c216.1 (by rw [lh84]; exact c216.2)
       refine tqst (.pointer (some (padd (some ⟨b13, 0, none⟩) (u200.toNat * 1)))) hk rfl rfl rfl rfl (fun w hs => sia rfl hk rfl rfl rfl rfl un115 sz67 c216.1 c216.2 hAc216 fun a hk => qe hk) fun a hk => ?_
       obtain ⟨_, rfl, e219⟩ := (o83.view).at_ 0 u200 c216.1 (by rw [lh84]; exact c216.2)
       refine tqst (.int .u32 (u81.getD u200.toNat 0)) hk rfl rfl rfl rfl (fun w hs => sl (v := (.int .u32 (u81.getD u200.toNat 0))) rfl hk rfl rfl rfl ag67 ((e219 0 _ rfl).cell (hs.hasG (k := 2) rfl)) fun a hk => qe hk) fun a hk => ?_
       refine tsst hk rfl rfl (fun K_r215_4 hK_r215_4 w hF => ?_) wt_stop
       have hs := hs.f hF
       refine sm _ rfl hk rfl rfl rfl fun a hk => ?_
       refine se (hs.pick [(1, 1), (2, 2)] rfl) hk (hK_r215_4 _ _ ?_)
       refine tsst hk rfl rfl (fun K_r215_5 hK_r215_5 w hF => ?_) wt_stop
       have hs := hs.f hF
       rcases ite_some H with ⟨c220, H⟩ | ⟨_, H⟩
       rotate_left
       ·cases H
       obtain ⟨b221, q222, hAc220⟩ := (o32.view).some_ u200 c220.1 (by rw [lh33]; exact c220.2)
       refine sia rfl hk rfl rfl rfl rfl un115 sz67 c220.1 c220.2 hAc220 fun a hk => ?_
       refine se (hs.pick [(1, 1), (2, 2)] rfl) hk (hK_r215_5 _ _ ?_)
       refine tsst hk rfl rfl (fun K_r215_6 hK_r215_6 w hF => ?_) wt_stop
       have hs := hs.f hF
       obtain ⟨_, rfl, e223⟩ := (o32.view).at_ 0 u200 c220.1 (by rw [lh33]; exact c220.2)
       refine sl (v := (.int .u32 (u30.getD u200.toNat 0))) rfl hk rfl rfl rfl ag67 ((e223 0 _ rfl).cell (hs.hasG (k := 1) rfl)) fun a hk => ?_
       refine se (hs.pick [(1, 1), (2, 2)] rfl) hk (hK_r215_6 _ _ ?_)
       refine tsst hk rfl rfl (fun K_r215_7 hK_r215_7 w hF => ?_) wt_stop
       have hs := hs.f hF
       refine sv (.int .u32 (IntKind.wrap .u32 ((u81.getD u200.toNat 0) + (u30.getD u200.toNat 0)))) hk rfl rfl rfl fun a hk => ?_
       refine se (hs.pick [(1, 1), (2, 2)] rfl) hk (hK_r215_7 _ _ ?_)
       refine tsst hk rfl rfl (fun K_r215_8 hK_r215_8 w hF => ?_) wt_stop
       have hs := hs.f hF
       refine scn rfl hk rfl rfl rfl un3 un67 fun a hk => ?_
       refine se (hs.pick [(1, 1), (2, 2)] rfl) hk (hK_r215_8 _ _ ?_)
       refine tsst hk rfl rfl (fun K_r215_9 hK_r215_9 w hF => ?_) wt_stop
       have hs := hs.f hF
       obtain ⟨y224, h225, H⟩ := bind_some H
       refine sc rfl en109 hk rfl rfl rfl (impl_little_t _ (IntKind.wrap .i64 (IntKind.wrap .u32 ((u81.getD u200.toNat 0) + (u30.getD u200.toNat 0)))) 4 _ h225) ?_
       rintro _ w ⟨rfl, hG⟩ a hk
       have hs := hs.call0 hG
       refine se (hs.pick [(1, 1), (2, 2)] rfl) hk (hK_r215_9 _ _ ?_)
       refine tsst hk rfl rfl (fun K_r215_10 hK_r215_10 w hF => ?_) wt_stop
       have hs := hs.f hF
       rcases ite_some H with ⟨c226, H⟩ | ⟨_, H⟩
       rotate_left
       ·cases H
       refine ssa rfl hk rfl rfl rfl rfl c226 fun a hk => ?_
       refine se (hs.pick [(1, 1), (2, 2)] rfl) hk (hK_r215_10 _ _ ?_)
       refine tlst hk rfl rfl fun K_r215_11 hK_r215_11 w hF => ?_
       have hs := hs.f hF
       refine sa _ rfl hk rfl rfl rfl fun a hk => ?_
       refine se trivial hk (hK_r215_11 _ _ fun w hF => ?_)
       have hs := hs.f hF
       refine hK213 _ _ ?_
       apply wp_region_lit
       refine sv (.int .i64 (w64 (u200 + 1))) hk rfl rfl rfl fun a hk => ?_
       refine sm _ rfl hk rfl rfl rfl fun a hk => ?_
       show wpList _ _ _ [] _ _
       refine wpList_nil ?_
       obtain rfl := Option.some.inj H
       obtain ⟨m227, hmm227, h209⟩ := h209
       show ∃ n', n' < _ ∧ I206 n' _ _
       refine ⟨m227, hmm227, ?_⟩
       rw [hI206]
       exact ⟨(u199 ++ y224), (w64 (u200 + 1)), h209, (hk.c 8 rfl (hk.c 9 rfl (hk.c 16 rfl (hk.c 95 rfl hk.k)))), (hs.pick [(1, 1), (2, 2)] rfl)⟩
      ·have hk := hk.lit 96 c212 rfl
       refine cnd_false hk rfl rfl ?_
       refine wp_exit ?_
       obtain rfl := Option.some.inj H
       show R205 _ _
       rw [hR205]
       exact ⟨u199, h209.symm, (hk.c 16 rfl hk.k), (hs.pick [] rfl)⟩
    ·intro a w hR0
     rw [hR205] at hR0
     obtain ⟨u201, rfl, hk, hs⟩ := hR0
     have H := HL204
     try dsimp only at H
     refine hK195 _ _ ?_
     apply wp_seq_k; intro K228 hK228
     apply wp_region_lit
     refine sm _ rfl hk rfl rfl rfl fun a hk => ?_
     refine sa _ rfl hk rfl rfl rfl fun a hk => ?_
     show wpList _ _ _ [] _ _
     refine wpList_nil ?_
     refine hK228 _ _ ?_
     refine wp_ret ?_
     obtain rfl := Option.some.inj H
     exact fin hk _ [(.string u201)] rfl ⟨rfl, trivial⟩ ⟨rfl, (hs.pick [] rfl).dnil⟩

noncomputable def impl_xor.s0 (x0 : ByteArray) (x1 : ByteArray) (u12 : List Int) (u16 : Int) : Option (((List Int) × Int) ⊕ Ex ((List Int)) (ByteArray)) :=
  (bif (decide (u16 < ((bytesOf x0).length : Int))) then (if 0 ≤ u16 ∧ u16 < ((bytesOf x0).length : Int) then (if 0 ≤ u16 ∧ u16 < (x1.size : Int) then (if 0 ≤ u16 ∧ u16 < ((bytesOf x0).length : Int) then (some (.inl ((u12.set u16.toNat (IntKind.wrap .u8 ((BitVec.ofInt 8 (u12.getD u16.toNat 0) ^^^ BitVec.ofInt 8 (byteAt x1 u16)).toNat : Int))), (w64 (u16 + 1))))) else none) else none) else none) else (some (.inr (.out u12))))
noncomputable def impl_xor.f (x0 : ByteArray) (x1 : ByteArray) : Option (ByteArray) :=
  (if x0.size ≤ 1073741824 then ((loopO (fun s => impl_xor.s0 x0 x1 s.1 s.2) ((bytesOf x0), 0)).bind fun o => match o with | .out u17 => (some (strOfNums u17)) | .ret r => (some r)) else none)
set_option maxRecDepth 100000 in
set_option maxHeartbeats 0 in
theorem impl_xor_t (w0 : World) (x0 : ByteArray) (x1 : ByteArray) (r : ByteArray) (H : impl_xor.f x0 x1 = some r) :
    Calls Try.prog 65 #[.string x0, .string x1] w0 (Ret (fun v w => v = .string r ∧ Sat [] w0 w [] [])) := by
  have hs : Sat [] w0 w0 [] [] := Sat.init w0 [] [] (by simp) (by simp) List.nodup_nil (by simp [blks])
  unfold impl_xor.f at H
  refine enter Try.func65 rfl Try.ntmps65 rfl fun a hk => ?_
  apply wp_seq_k; intro K1 hK1
  apply wp_region_lit
  refine sa _ rfl hk rfl rfl rfl fun a hk => ?_
  show wpList _ _ _ [] _ _
  refine wpList_nil ?_
  refine hK1 _ _ ?_
  apply wp_seq_k; intro K2 hK2
  apply wp_region_lit
  refine sm _ rfl hk rfl rfl rfl fun a hk => ?_
  rcases ite_some H with ⟨c3, H⟩ | ⟨_, H⟩
  rotate_left
  ·cases H
  refine scb 1 hs rfl hk rfl rfl rfl un9 un22 un5 c3 fun b4 p5 k6 w a hk o7 hs => ?_
  refine sa _ rfl hk rfl rfl rfl fun a hk => ?_
  show wpList _ _ _ [] _ _
  refine wpList_nil ?_
  refine hK2 _ _ ?_
  apply wp_seq_k; intro K8 hK8
  apply wp_seq_k; intro K9 hK9
  apply wp_region_lit
  refine sm _ rfl hk rfl rfl rfl fun a hk => ?_
  refine sle rfl hk rfl rfl rfl un22 fun a hk => ?_
  refine sm _ rfl hk rfl rfl rfl fun a hk => ?_
  show wpList _ _ _ [] _ _
  refine wpList_nil ?_
  refine hK9 _ _ ?_
  obtain ⟨o21, h22, HL23⟩ := bind_some H
  clear H
  obtain ⟨R24, hR24⟩ : ∃ R : Act → World → Prop, R = fun a w => ∃ (u17 : List Int) (k18 : Chunk), o21 = .out u17 ∧ Kn [(5, (.slice (some ⟨b4, 0, none⟩) (bytesOf x0).length p5))] 26 a ∧ Sat [] w0 w [] [(1, k18)] ∧ OwnM (Lay.int .u8) 5 (some ⟨b4, 0, none⟩) p5 u17 k18 ∧ u17.length = (bytesOf x0).length := ⟨_, rfl⟩
  refine wp_cutq R24 ?_ ?_
  ·refine wp_block ?_
   obtain ⟨fu26, h22⟩ := loopO_some h22
   obtain ⟨I25, hI25⟩ : ∃ I : Nat → Act → World → Prop, I = fun fu a w => ∃ (u12 : List Int) (u16 : Int) (k13 : Chunk), loopN (fun s => impl_xor.s0 x0 x1 s.1 s.2) fu (u12, u16) = some o21 ∧ Kn [(1, (.string x1)), (5, (.slice (some ⟨b4, 0, none⟩) (bytesOf x0).length p5)), (10, (.int .i64 ((bytesOf x0).length : Int))), (11, (.int .i64 u16))] 26 a ∧ Sat [] w0 w [] [(1, k13)] ∧ OwnM (Lay.int .u8) 5 (some ⟨b4, 0, none⟩) p5 u12 k13 ∧ u12.length = (bytesOf x0).length := ⟨_, rfl⟩
   refine wp_loop_ghost I25 fu26 ?_ ?_
   ·rw [hI25]
    exact ⟨(bytesOf x0), 0, _, h22, (hk.c 1 rfl (hk.c 5 rfl (hk.c 10 rfl (hk.c 11 rfl hk.k)))), (hs.pick [(1, 1)] rfl), o7, rfl⟩
   ·clear h22 hk hs
    intro fu26 a w hI0
    rw [hI25] at hI0
    obtain ⟨u12, u16, k13, hi, hk, hs, o14, lh15⟩ := hI0
    obtain ⟨x27, H, h28⟩ := loop_round hi
    try dsimp only at H
    unfold impl_xor.s0 at H
    apply wp_seq_k; intro K29 hK29
    apply wp_region_lit
    refine sv (.bool (decide (u16 < ((bytesOf x0).length : Int)))) hk rfl rfl rfl fun a hk => ?_
    show wpList _ _ _ [] _ _
    refine wpList_nil ?_
    refine hK29 _ _ ?_
    have hs := hs.pick [(1, 1)] rfl
    apply wp_seq_k; intro K30 hK30
    rcases cond_some H with ⟨c31, H⟩ | ⟨c31, H⟩
    ·have hk := hk.lit 12 c31 rfl
     refine cnd_true hk rfl rfl ?_
     refine wp_skip ?_
     refine hK30 _ _ ?_
     apply wp_seq_k; intro K32 hK32
     refine wp_block ?_
     apply wp_seq_k; intro K33 hK33
     apply wp_region_lit
     refine sm _ rfl hk rfl rfl rfl fun a hk => ?_
     refine sa _ rfl hk rfl rfl rfl fun a hk => ?_
     show wpList _ _ _ [] _ _
     refine wpList_nil ?_
     refine hK33 _ _ ?_
     refine wp_region_tree (.q 0 (.q 1 (.q 2 (.q 3 (.q 4 (.alt 5 (.alt 6 (.alt 7 (.alt 8 (.last 9) .stop) .stop) .stop) .stop)))))) mo (by kernel_rfl) (hs.pick [(1, 1)] rfl) fun _ => ?_
     have hs := hs.drew
     refine tqst (.slice (some ⟨b4, 0, none⟩) (bytesOf x0).length p5) hk rfl rfl rfl rfl (fun w hs => sm _ rfl hk rfl rfl rfl fun a hk => qe hk) fun a hk => ?_
     refine tqst (.int .i64 u16) hk rfl rfl rfl rfl (fun w hs => sm _ rfl hk rfl rfl rfl fun a hk => qe hk) fun a hk => ?_
     rcases ite_some H with ⟨c35, H⟩ | ⟨_, H⟩
     rotate_left
     ·cases H
     obtain ⟨b36, q37, hAc35⟩ := (o14.view).some_ u16 c35.1 (by rw [lh15]; exact c35.2)
     refine tqst (.pointer (some (padd (some ⟨b4, 0, none⟩) (u16.toNat * 1)))) hk rfl rfl rfl rfl (fun w hs => si rfl hk rfl rfl rfl rfl un22 sz5 c35.1 c35.2 hAc35 fun a hk => qe hk) fun a hk => ?_
     obtain ⟨_, rfl, e38⟩ := (o14.view).at_ 0 u16 c35.1 (by rw [lh15]; exact c35.2)
     refine tqst (.int .u8 (u12.getD u16.toNat 0)) hk rfl rfl rfl rfl (fun w hs => sl (v := (.int .u8 (u12.getD u16.toNat 0))) rfl hk rfl rfl rfl ag5 ((e38 0 _ rfl).cell (hs.hasG (k := 1) rfl)) fun a hk => qe hk) fun a hk => ?_
     refine tqst (.string x1) hk rfl rfl rfl rfl (fun w hs => sm _ rfl hk rfl rfl rfl fun a hk => qe hk) fun a hk => ?_
     refine tsst hk rfl rfl (fun K_r34_5 hK_r34_5 w hF => ?_) wt_stop
     have hs := hs.f hF
     refine sm _ rfl hk rfl rfl rfl fun a hk => ?_
     refine se (hs.pick [(1, 1)] rfl) hk (hK_r34_5 _ _ ?_)
     refine tsst hk rfl rfl (fun K_r34_6 hK_r34_6 w hF => ?_) wt_stop
     have hs := hs.f hF
     rcases ite_some H with ⟨c39, H⟩ | ⟨_, H⟩
     rotate_left
     ·cases H
     refine six rfl hk rfl rfl rfl rfl un9 c39.1 c39.2 fun a hk => ?_
     refine se (hs.pick [(1, 1)] rfl) hk (hK_r34_6 _ _ ?_)
     refine tsst hk rfl rfl (fun K_r34_7 hK_r34_7 w hF => ?_) wt_stop
     have hs := hs.f hF
     refine sv (.int .u8 (IntKind.wrap .u8 ((BitVec.ofInt 8 (u12.getD u16.toNat 0) ^^^ BitVec.ofInt 8 (byteAt x1 u16)).toNat : Int))) hk rfl rfl rfl fun a hk => ?_
     refine se (hs.pick [(1, 1)] rfl) hk (hK_r34_7 _ _ ?_)
     refine tsst hk rfl rfl (fun K_r34_8 hK_r34_8 w hF => ?_) wt_stop
     have hs := hs.f hF
     rcases ite_some H with ⟨c40, H⟩ | ⟨_, H⟩
     rotate_left
     ·cases H
     obtain ⟨b41, q42, hAc40⟩ := (o14.view).some_ u16 c40.1 (by rw [lh15]; exact c40.2)
     refine si rfl hk rfl rfl rfl rfl un22 sz5 c40.1 c40.2 hAc40 fun a hk => ?_
     refine se (hs.pick [(1, 1)] rfl) hk (hK_r34_8 _ _ ?_)
     refine tlst hk rfl rfl fun K_r34_9 hK_r34_9 w hF => ?_
     have hs := hs.f hF
     refine sob 1 (IntKind.wrap .u8 ((BitVec.ofInt 8 (u12.getD u16.toNat 0) ^^^ BitVec.ofInt 8 (byteAt x1 u16)).toNat : Int)) hs rfl o14 c40.1 (by rw [lh15]; exact c40.2) rfl hk rfl rfl rfl rfl rfl sz5 rfl rfl rfl ⟨rfl, rfl⟩ fun k43 w a hk o44 hs => ?_
     have lh45 : (u12.set u16.toNat (IntKind.wrap .u8 ((BitVec.ofInt 8 (u12.getD u16.toNat 0) ^^^ BitVec.ofInt 8 (byteAt x1 u16)).toNat : Int))).length = (bytesOf x0).length := by rw [List.length_set]; exact lh15
     refine se trivial hk (hK_r34_9 _ _ fun w hF => ?_)
     have hs := hs.f hF
     refine hK32 _ _ ?_
     apply wp_region_lit
     refine sv (.int .i64 (w64 (u16 + 1))) hk rfl rfl rfl fun a hk => ?_
     refine sm _ rfl hk rfl rfl rfl fun a hk => ?_
     show wpList _ _ _ [] _ _
     refine wpList_nil ?_
     obtain rfl := Option.some.inj H
     obtain ⟨m46, hmm46, h28⟩ := h28
     show ∃ n', n' < _ ∧ I25 n' _ _
     refine ⟨m46, hmm46, ?_⟩
     rw [hI25]
     exact ⟨(u12.set u16.toNat (IntKind.wrap .u8 ((BitVec.ofInt 8 (u12.getD u16.toNat 0) ^^^ BitVec.ofInt 8 (byteAt x1 u16)).toNat : Int))), (w64 (u16 + 1)), _, h28, (hk.c 1 rfl (hk.c 5 rfl (hk.c 10 rfl (hk.c 11 rfl hk.k)))), (hs.pick [(1, 1)] rfl), o44, lh45⟩
    ·have hk := hk.lit 12 c31 rfl
     refine cnd_false hk rfl rfl ?_
     refine wp_exit ?_
     obtain rfl := Option.some.inj H
     show R24 _ _
     rw [hR24]
     exact ⟨u12, _, h28.symm, (hk.c 5 rfl hk.k), (hs.pick [(1, 1)] rfl), o14, lh15⟩
  ·intro a w hR0
   rw [hR24] at hR0
   obtain ⟨u17, k18, rfl, hk, hs, o19, lh20⟩ := hR0
   have H := HL23
   try dsimp only at H
   refine hK8 _ _ ?_
   have hs := hs.pick [(1, 1)] rfl
   apply wp_seq_k; intro K47 hK47
   apply wp_region_lit
   refine sm _ rfl hk rfl rfl rfl fun a hk => ?_
   refine sbt (xs := u17) rfl hk rfl rfl lh20.symm rfl un22 un5 un9 o19.view (hs.hasG (k := 1) rfl) fun a hk => ?_
   refine sa _ rfl hk rfl rfl rfl fun a hk => ?_
   show wpList _ _ _ [] _ _
   refine wpList_nil ?_
   refine hK47 _ _ ?_
   refine wp_ret ?_
   obtain rfl := Option.some.inj H
   exact fin hk _ [(.string (strOfNums u17))] rfl ⟨rfl, trivial⟩ ⟨rfl, (hs.pick [] rfl).dnil⟩

noncomputable def impl_chaXor.s0 (x0 : ByteArray) (x1 : ByteArray) (x2 : Int) (x3 : ByteArray) (u1 : Int) (u2 : ByteArray) : Option ((Int × ByteArray) ⊕ Ex (ByteArray) (ByteArray)) :=
  (bif (decide (u1 < (x3.size : Int))) then (if 0 ≤ u1 ∧ u1 ≤ (if (x3.size : Int) < (w64 (u1 + 64)) then (x3.size : Int) else (w64 (u1 + 64))) ∧ (if (x3.size : Int) < (w64 (u1 + 64)) then (x3.size : Int) else (w64 (u1 + 64))) ≤ (x3.size : Int) then ((impl_stream.f x0 x1 (w64 (x2 + (IntKind.wrap .i64 (Int.tdiv u1 64))))).bind fun y1 => ((impl_xor.f (x3.extract u1.toNat (if (x3.size : Int) < (w64 (u1 + 64)) then (x3.size : Int) else (w64 (u1 + 64))).toNat) y1).bind fun y2 => (if u2.size + y2.size ≤ 1073741824 then (some (.inl ((w64 (u1 + 64)), (u2 ++ y2)))) else none))) else none) else (some (.inr (.out u2))))
noncomputable def impl_chaXor.f (x0 : ByteArray) (x1 : ByteArray) (x2 : Int) (x3 : ByteArray) : Option (ByteArray) :=
  ((loopO (fun s => impl_chaXor.s0 x0 x1 x2 x3 s.1 s.2) (0, (⟨#[]⟩ : ByteArray))).bind fun o => match o with | .out u => (some u) | .ret r => (some r))
set_option maxRecDepth 100000 in
set_option maxHeartbeats 0 in
theorem impl_chaXor_n : True := trivial
section
open Go.Shelf
theorem bsz : (Try.prog.info? 109).map (·.size) = some 2 := by kernel_rfl
theorem bli : liesAt Try.prog Try.prog.depth 109 (2 / Try.prog.cellsOf 109) 0 109 1 = true := by kernel_rfl
set_option maxHeartbeats 1000000 in
set_option maxRecDepth 100000 in
theorem cc_used (b : Nat) (w : World) (h0 : w.cell? ⟨b, 0, none⟩ = some (.pointer (some ⟨b, 0, none⟩))) :
    Calls Try.prog 131 #[.pointer (some ⟨b, 0, none⟩)] w fun e w' => e = .returned (.tuple #[]) ∧ w' = w := by
  obtain ⟨j, hj, _⟩ := Option.map_eq_some_iff.1 bsz
  go_enter Try.func131, Try.ntmps131
  go_wp2
  rw [Lib.run_neq_ptr_same w _ Try.underlying107 hj]
  go_wp2
  go_end0
  exact ⟨rfl, rfl⟩
set_option maxHeartbeats 1000000 in
set_option maxRecDepth 100000 in
theorem cc_fresh (b : Nat) (w : World) (h0 : w.cell? ⟨b, 0, none⟩ = some (.pointer none)) (hsh : w.shape? b = some (109, 2)) (hfz : w.frozen? ⟨b, 0, none⟩ = false) :
    Calls Try.prog 131 #[.pointer (some ⟨b, 0, none⟩)] w fun e w' => e = .returned (.tuple #[]) ∧ w' = w.setCell ⟨b, 0, none⟩ (.pointer (some ⟨b, 0, none⟩)) := by
  obtain ⟨j, hj, hjs⟩ := Option.map_eq_some_iff.1 bsz
  go_enter Try.func131, Try.ntmps131
  go_wp2
  rw [Lib.run_to_unsafe w ⟨b, 0, none⟩ Try.underlying107 Try.underlying142 hj (by rw [hjs]; decide) hsh (Nat.zero_lt_succ 1)]
  simp only [Result.andThen]
  rw [Oper.upon_value]
  go_wp2
  rw [run_callFunc_extern Try.func146 (by kernel_rfl) (by kernel_rfl) (by kernel_rfl) (e := Extern.AbiNoEscape.same) (by kernel_rfl)]
  rw [Lib.run_noEscape]
  simp only [Result.andThen]
  rw [Oper.upon_value]
  go_wp2
  rw [Lib.run_from_unsafe w ⟨b, 0, none⟩ Try.underlying142 Try.underlying107 hj hsh bli]
  simp only [Result.andThen]
  rw [Oper.upon_value]
  go_wp2
  go_end0
  exact ⟨rfl, rfl⟩
theorem cc (B b : Nat) (bs : List Value) (w : World) (h : Lib.IsBuilder 109 5 B b bs w) :
    Calls Try.prog 131 #[.pointer (some ⟨b, 0, none⟩)] w fun e w' => e = .returned (.tuple #[]) ∧ (Lib.BuilderAt 109 5 B b (.pointer (some ⟨b, 0, none⟩)) bs w' ∧ Below B w w') := by
  rcases h with h | h
  · refine (cc_fresh b w h.cell0 h.shape h.frozen0).mono ?_
    rintro e w' ⟨rfl, rfl⟩
    exact ⟨rfl, h.used _, (Below.refl B w).setCell (p := ⟨b, 0, none⟩) h.1 _⟩
  · refine (cc_used b w h.cell0).mono ?_
    rintro e w' ⟨rfl, rfl⟩
    exact ⟨rfl, h, Below.refl B _⟩
set_option maxHeartbeats 2000000 in
set_option maxRecDepth 100000 in
theorem ws (B b : Nat) (bs : List Value) (s : ByteArray) (w : World) (h : Lib.IsBuilder 109 5 B b bs w) (hlen : bs.length + s.size ≤ 140737488355328) (hBw : B ≤ w.heap.size) :
    Calls Try.prog 106 #[.pointer (some ⟨b, 0, none⟩), .string s] w fun e w' => e = .returned (.tuple #[.int .i64 s.size, .nilIface]) ∧ (Lib.BuilderAt 109 5 B b (.pointer (some ⟨b, 0, none⟩)) (bs ++ Lib.strCells s) w' ∧ Below B w w') := by
  obtain ⟨i0, hi, hz0, hz1, hz2⟩ := info_parts (by kernel_rfl : (Try.prog.info? 5).map (fun i => (i.zero, i.size, i.bytes)) = some (some (.int .u8 0), 1, 1))
  have e240 : ∀ args w, (callFunc 131 args).run Try.prog w = .ok (.enter 131 args) w := enters_of Try.func131 (by kernel_rfl) rfl
  go_enter Try.func106, Try.ntmps106
  go_wp2_with (go_at_fn 131; refine (cc B b bs _ h).mono ?_)
  rintro e w1 ⟨rfl, h1, hb1⟩
  obtain ⟨hB, v, hbk, hown, hne⟩ := h1
  have c0 : w1.cell? ⟨b, 0, none⟩ = some (.pointer (some ⟨b, 0, none⟩)) := by rw [Lib.cell_of_heap hbk]; rfl
  have c1 : w1.cell? ⟨b, 1, none⟩ = some v := by rw [Lib.cell_of_heap hbk]; rfl
  go_wp2_with (at_builtin; refine Lib.wpList_append_own_string _ rfl _ _ 22 9 rfl B 5 i0 Try.underlying22 Try.underlying9 hi hz0 hz1 hz2 _ _ _ rfl hown s rfl ?c3 ?c4 ?c5 ?_)
  case c3 => unfold maxLen; omega
  case c4 => omega
  case c5 => have := hb1.size; omega
  intro v' w2 hown' hgrow _
  have hlt : b < w1.heap.size := by
    rcases Nat.lt_or_ge b w1.heap.size with h' | h'
    · exact h'
    · simp [Array.getElem?_eq_none h'] at hbk
  have hb2 : w2.heap[b]? = some (.cells #[.pointer (some ⟨b, 0, none⟩), v] 109 (0, 0)) := by
    rw [hgrow.block b hlt (fun e => hne e.symm)]
    exact hbk
  have d0 : w2.cell? ⟨b, 0, none⟩ = some (.pointer (some ⟨b, 0, none⟩)) := by rw [Lib.cell_of_heap hb2]; rfl
  have d1 : w2.cell? ⟨b, 1, none⟩ = some v := by rw [Lib.cell_of_heap hb2]; rfl
  have f1 : w2.frozen? ⟨b, 1, none⟩ = false := Lib.frozen_of_heap hb2 1
  obtain ⟨ao, n', cap, rfl⟩ : ∃ ao n' cap, v' = .slice ao n' cap := by
    rcases hown'.2 with ⟨hv, _⟩ | ⟨g, cap, cur, hv, _⟩
    · exact ⟨_, _, _, hv⟩
    · exact ⟨_, _, _, hv⟩
  go_wp2
  go_ret2
  refine ⟨rfl, ?_, ?_⟩
  · exact Lib.BuilderAt.put (T := 109) (e := 5) hB hb2 (bs' := bs ++ Lib.strCells s) (by simpa [Lib.strCells_length] using hown') (by decide)
  · exact (hb1.grown hgrow (by have := hb1.size; omega) (fun k hk => (hown.lt k hk).1)).setCell (p := ⟨b, 1, none⟩) hB _
def lays169_ren : Go.Shelf.Ren := ⟨fun | 169 => 107 | n => n, fun | 70 => 107 | 9 => 9 | 0 => 0 | 72 => 109 | 37 => 22 | 127 => 130 | 3 => 3 | 5 => 5 | n => n, fun | n => n⟩
theorem lays169 : Go.Proofs.Lays.n169 Try.prog lays169_ren := {
  mixed := by kernel_rfl
  f169 := Try.func107.trans (congrArg some (by kernel_rfl))
  t0 := Try.underlying0
  a0 := Try.isAgg0
  z0 := Try.sizeOf0
  v0 := Try.zeroValue0
  t3 := Try.underlying3
  a3 := Try.isAgg3
  z3 := Try.sizeOf3
  v3 := Try.zeroValue3
  t9 := Try.underlying9
  a9 := Try.isAgg9
  z9 := Try.sizeOf9
  v9 := Try.zeroValue9
  t37 := Try.underlying22
  a37 := Try.isAgg22
  z37 := Try.sizeOf22
  v37 := Try.zeroValue22
  t70 := Try.underlying107
  a70 := Try.isAgg107
  z70 := Try.sizeOf107
  v70 := Try.zeroValue107
  t72 := Try.underlying109
  a72 := Try.isAgg109
  z72 := Try.sizeOf109
  v72 := Try.zeroValue109
  t127 := Try.underlying130
  a127 := Try.isAgg130
  z127 := Try.sizeOf130
  v127 := Try.zeroValue130 }
theorem Builder_Extra_169 : Builder.Extra Try.prog lays169_ren := {
  sizeBuilder := by kernel_rfl
  liesBuilder := by kernel_rfl
  t5 := Try.underlying5
  a5 := Try.isAgg5
  z5 := Try.sizeOf5
  v5 := Try.zeroValue5
  infoByte := by kernel_rfl
  cellsByte := by kernel_rfl
  sizeByte := by kernel_rfl
  neB5 := by decide }
open Go.RowKit in
theorem Builder_String (B b : Nat) (l : List UInt8) (w : World) (h : Lib.IsBuilder 109 5 B b (Lib.byteCells l) w) (h0 : l ≠ []) :
    Calls Try.prog 107 #[.pointer (some ⟨b, 0, none⟩)] w fun e w' => e = .returned (.string ⟨l.toArray⟩) ∧ Below B w w' := Any.Builder_String lays169 Builder_Extra_169 B b l w h h0
open Go.RowKit in
theorem Builder_String_empty (B b : Nat) (w : World) (h : Lib.IsBuilder 109 5 B b [] w) (hBw : B ≤ w.heap.size) :
    Calls Try.prog 107 #[.pointer (some ⟨b, 0, none⟩)] w fun e w' => e = .returned (.string ⟨#[]⟩) ∧ Below B w w' := Any.Builder_String_empty lays169 Builder_Extra_169 B b w h hBw
open Go.RowKit in
theorem Builder_String_any (B b : Nat) (l : List UInt8) (w : World) (h : Lib.IsBuilder 109 5 B b (Lib.byteCells l) w) (hBw : B ≤ w.heap.size) :
    Calls Try.prog 107 #[.pointer (some ⟨b, 0, none⟩)] w fun e w' => e = .returned (.string ⟨l.toArray⟩) ∧ Below B w w' := Any.Builder_String_any lays169 Builder_Extra_169 B b l w h hBw
end
set_option maxRecDepth 100000 in
set_option maxHeartbeats 1000000 in
theorem impl_chaXor_t (w0 : World) (x0 : ByteArray) (x1 : ByteArray) (x2 : Int) (x3 : ByteArray) (r : ByteArray) (H : impl_chaXor.f x0 x1 x2 x3 = some r) :
    Calls Try.prog 61 #[.string x0, .string x1, .int .i64 x2, .string x3] w0 (Ret (fun v w => v = .string r ∧ Sat [] w0 w [] [])) := by
  unfold impl_chaXor.f at H
  refine enter Try.func61 rfl Try.ntmps61 rfl fun a hk => ?_
  apply wp_seq_k; intro K1 hK1
  apply wp_region_lit
  refine sa _ rfl hk rfl rfl rfl fun a hk => ?_
  show wpList _ _ _ [] _ _
  refine wpList_nil ?_
  refine hK1 _ _ ?_
  apply wp_seq_k; intro K2 hK2
  apply wp_region_lit
  refine sal rfl hk rfl rfl (by kernel_rfl : zeroB Try.prog 109 = some (.agg #[.pointer none, .slice none 0 0])) fun a hk => ?_
  show wpList _ _ _ [] _ _
  refine wpList_nil ?_
  refine hK2 _ _ ?_
  have hgen : ∃ w b, w = (w0.alloc (.cells (Value.cells (.agg #[.pointer none, .slice none 0 0])) 109)) ∧ b = w0.heap.size ∧ Lib.IsBuilder 109 5 w0.heap.size b (Lib.byteCells (⟨#[]⟩ : ByteArray).data.toList) w ∧ Below w0.heap.size w0 w :=
    ⟨_, _, rfl, rfl, Lib.fresh_isBuilder 109 5 w0, (Below.refl _ w0).alloc (Nat.le_refl _) _⟩
  obtain ⟨w, b, ew, eb, hb, hbel⟩ := hgen
  rw [← eb] at hk
  rw [← ew]
  clear ew eb
  apply wp_seq_k; intro K3 hK3
  apply wp_seq_k; intro K4 hK4
  apply wp_region_lit
  refine sa _ rfl hk rfl rfl rfl fun a hk => ?_
  show wpList _ _ _ [] _ _
  refine wpList_nil ?_
  refine hK4 _ _ ?_
  obtain ⟨o, h, HL⟩ := bind_some H
  clear H
  obtain ⟨R, hR⟩ : ∃ R : Act → World → Prop, R = fun a w => ∃ u : ByteArray, o = .out u ∧ Kn [(9, .pointer (some ⟨b, 0, none⟩))] 37 a ∧ Lib.IsBuilder 109 5 w0.heap.size b (Lib.byteCells u.data.toList) w ∧ Below w0.heap.size w0 w := ⟨_, rfl⟩
  refine wp_cutq R ?_ ?_
  · refine wp_block ?_
    obtain ⟨fu, h⟩ := loopO_some h
    obtain ⟨I, hI⟩ : ∃ I : Nat → Act → World → Prop, I = fun fu a w => ∃ (u1 : Int) (u2 : ByteArray), loopN (fun s => impl_chaXor.s0 x0 x1 x2 x3 s.1 s.2) fu (u1, u2) = some o ∧ Kn [(0, .string x0), (1, .string x1), (2, .int .i64 x2), (3, .string x3), (9, .pointer (some ⟨b, 0, none⟩)), (10, .int .i64 u1)] 37 a ∧ Lib.IsBuilder 109 5 w0.heap.size b (Lib.byteCells u2.data.toList) w ∧ Below w0.heap.size w0 w := ⟨_, rfl⟩
    refine wp_loop_ghost I fu ?_ ?_
    · rw [hI]
      exact ⟨0, _, h, (hk.c 0 rfl (hk.c 1 rfl (hk.c 2 rfl (hk.c 3 rfl (hk.c 9 rfl (hk.c 10 rfl hk.k)))))), hb, hbel⟩
    · clear h hk hb hbel
      intro fu a w hI0
      rw [hI] at hI0
      obtain ⟨u1, u2, hi, hk, hb, hbel⟩ := hI0
      obtain ⟨x13, H, h14⟩ := loop_round hi
      try dsimp only at H
      unfold impl_chaXor.s0 at H
      apply wp_seq_k; intro K15 hK15
      apply wp_seq_k; intro K16 hK16
      apply wp_region_lit
      refine sm _ rfl hk rfl rfl rfl fun a hk => ?_
      refine sm _ rfl hk rfl rfl rfl fun a hk => ?_
      refine sles rfl hk rfl rfl rfl un9 fun a hk => ?_
      refine sv (.bool (decide (u1 < (x3.size : Int)))) hk rfl rfl rfl fun a hk => ?_
      show wpList _ _ _ [] _ _
      refine wpList_nil ?_
      refine hK16 _ _ ?_
      rcases cond_some H with ⟨c17, H⟩ | ⟨c17, H⟩
      · have hk := hk.lit 15 c17 rfl
        refine cnd_true hk rfl rfl ?_
        refine wp_skip ?_
        refine hK15 _ _ ?_
        apply wp_seq_k; intro K18 hK18
        refine wp_block ?_
        apply wp_seq_k; intro K19 hK19
        apply wp_region_lit
        refine sm _ rfl hk rfl rfl rfl fun a hk => ?_
        refine sm _ rfl hk rfl rfl rfl fun a hk => ?_
        refine sm _ rfl hk rfl rfl rfl fun a hk => ?_
        refine sv (.int .i64 (w64 (u1 + 64))) hk rfl rfl rfl fun a hk => ?_
        refine sm _ rfl hk rfl rfl rfl fun a hk => ?_
        refine sles rfl hk rfl rfl rfl un9 fun a hk => ?_
        refine smn rfl hk rfl rfl rfl rfl fun a hk => ?_
        rcases ite_some H with ⟨c21, H⟩ | ⟨_, H⟩
        rotate_left
        · cases H
        refine ssl_lh rfl hk rfl rfl rfl rfl rfl un9 c21.1 c21.2.1 c21.2.2 fun a hk => ?_
        refine sa _ rfl hk rfl rfl rfl fun a hk => ?_
        show wpList _ _ _ [] _ _
        refine wpList_nil ?_
        refine hK19 _ _ ?_
        apply wp_region_lit
        refine sm _ rfl hk rfl rfl rfl fun a hk => ?_
        refine sm _ rfl hk rfl rfl rfl fun a hk => ?_
        refine sm _ rfl hk rfl rfl rfl fun a hk => ?_
        refine sm _ rfl hk rfl rfl rfl fun a hk => ?_
        refine sm _ rfl hk rfl rfl rfl fun a hk => ?_
        refine sv (.int .i64 (IntKind.wrap .i64 (Int.tdiv u1 64))) hk rfl rfl rfl fun a hk => ?_
        refine sv (.int .i64 (w64 (x2 + (IntKind.wrap .i64 (Int.tdiv u1 64))))) hk rfl rfl rfl fun a hk => ?_
        obtain ⟨y24, h24, H⟩ := bind_some H
        refine sc rfl en64 hk rfl rfl rfl (impl_stream_t _ x0 x1 (w64 (x2 + (IntKind.wrap .i64 (Int.tdiv u1 64)))) y24 h24) ?_
        rintro _ w1 ⟨rfl, hG1⟩ a hk
        obtain ⟨y25, h26, H⟩ := bind_some H
        refine sc rfl en65 hk rfl rfl rfl (impl_xor_t _ (x3.extract u1.toNat (if (x3.size : Int) < (w64 (u1 + 64)) then (x3.size : Int) else (w64 (u1 + 64))).toNat) y24 y25 h26) ?_
        rintro _ w2 ⟨rfl, hG2⟩ a hk
        have hG : Below w.heap.size w w2 := hG1.below.trans (hG2.below.mono hG1.below.size)
        have hb2 : Lib.IsBuilder 109 5 w0.heap.size b (Lib.byteCells u2.data.toList) w2 := by
          rcases hb with hb | hb
          · exact .inl (bld_F hb hG)
          · exact .inr (bld_F hb hG)
        have hbel2 : Below w0.heap.size w0 w2 := hbel.trans (hG.mono hbel.size)
        rcases ite_some H with ⟨c27, H⟩ | ⟨_, H⟩
        rotate_left
        · cases H
        refine sc rfl en106 hk rfl rfl rfl ((ws w0.heap.size b _ y25 w2 hb2 (by rw [Lib.byteCells_length, ba_len]; omega) hbel2.size).mono (R' := Ret (fun v w' => v = .tuple #[.int .i64 y25.size, .nilIface] ∧ (Lib.BuilderAt 109 5 w0.heap.size b (.pointer (some ⟨b, 0, none⟩)) (Lib.byteCells u2.data.toList ++ Lib.strCells y25) w' ∧ Below w0.heap.size w2 w'))) (fun e w' h => ⟨_, h.1, rfl, h.2⟩)) ?_
        rintro _ w3 ⟨rfl, hb3, hbel3⟩ a hk
        show wpList _ _ _ [] _ _
        refine wpList_nil ?_
        refine hK18 _ _ ?_
        apply wp_region_lit
        refine sm _ rfl hk rfl rfl rfl fun a hk => ?_
        refine sv (.int .i64 (w64 (u1 + 64))) hk rfl rfl rfl fun a hk => ?_
        refine sa _ rfl hk rfl rfl rfl fun a hk => ?_
        show wpList _ _ _ [] _ _
        refine wpList_nil ?_
        obtain rfl := Option.some.inj H
        obtain ⟨m, hmm, h14⟩ := h14
        show ∃ n', n' < _ ∧ I n' _ _
        refine ⟨m, hmm, ?_⟩
        rw [hI]
        exact ⟨_, _, h14, (hk.c 0 rfl (hk.c 1 rfl (hk.c 2 rfl (hk.c 3 rfl (hk.c 9 rfl (hk.c 10 rfl hk.k)))))), .inr (by rw [bc_app]; exact hb3), hbel2.trans hbel3⟩
      · have hk := hk.lit 15 c17 rfl
        refine cnd_false hk rfl rfl ?_
        refine wp_exit ?_
        obtain rfl := Option.some.inj H
        show R _ _
        rw [hR]
        exact ⟨_, h14.symm, (hk.c 9 rfl hk.k), hb, hbel⟩
  · intro a w hR0
    rw [hR] at hR0
    obtain ⟨u, rfl, hk, hb, hbel⟩ := hR0
    have H := HL
    try dsimp only at H
    obtain rfl := Option.some.inj H
    refine hK3 _ _ ?_
    apply wp_seq_k; intro K5 hK5
    apply wp_region_lit
    refine sc rfl en107 hk rfl rfl rfl ((Builder_String_any w0.heap.size b _ w hb hbel.size).mono (R' := Ret (fun v w' => v = .string u ∧ Below w0.heap.size w w')) (fun e w' h => ⟨_, h.1, rfl, h.2⟩)) ?_
    rintro _ w4 ⟨rfl, hbel4⟩ a hk
    refine sa _ rfl hk rfl rfl rfl fun a hk => ?_
    show wpList _ _ _ [] _ _
    refine wpList_nil ?_
    refine hK5 _ _ ?_
    refine wp_ret ?_
    exact fin hk _ [(.string u)] rfl ⟨rfl, trivial⟩ ⟨rfl, Sat.ofBelow (hbel.trans hbel4)⟩

noncomputable def impl_clamped.s0 (x0 : ByteArray) (u13 : List Int) (u17 : Int) : Option (((List Int) × Int) ⊕ Ex ((List Int)) (ByteArray)) :=
  (bif (decide (u17 < 16)) then (if 0 ≤ u17 ∧ u17 < ((bytesOf (x0.extract 0 (16 : Int).toNat)).length : Int) then (if 0 ≤ u17 ∧ u17 < ((bytesOf (x0.extract 0 (16 : Int).toNat)).length : Int) then (some (.inl ((u13.set u17.toNat (IntKind.wrap .u8 ((BitVec.ofInt 8 (u13.getD u17.toNat 0) &&& BitVec.ofInt 8 15).toNat : Int))), (w64 (u17 + 4))))) else none) else none) else (some (.inr (.out u13))))
noncomputable def impl_clamped.s1 (x0 : ByteArray) (u49 : List Int) (u53 : Int) : Option (((List Int) × Int) ⊕ Ex ((List Int)) (ByteArray)) :=
  (bif (decide (u53 < 16)) then (if 0 ≤ u53 ∧ u53 < ((bytesOf (x0.extract 0 (16 : Int).toNat)).length : Int) then (if 0 ≤ u53 ∧ u53 < ((bytesOf (x0.extract 0 (16 : Int).toNat)).length : Int) then (some (.inl ((u49.set u53.toNat (IntKind.wrap .u8 ((BitVec.ofInt 8 (u49.getD u53.toNat 0) &&& BitVec.ofInt 8 252).toNat : Int))), (w64 (u53 + 4))))) else none) else none) else (some (.inr (.out u49))))
noncomputable def impl_clamped.f (x0 : ByteArray) : Option (ByteArray) :=
  (if 0 ≤ (16 : Int) ∧ (16 : Int) ≤ (x0.size : Int) then (if (x0.extract 0 (16 : Int).toNat).size ≤ 1073741824 then ((loopO (fun s => impl_clamped.s0 x0 s.1 s.2) ((bytesOf (x0.extract 0 (16 : Int).toNat)), 3)).bind fun o => match o with | .out u18 => ((loopO (fun s => impl_clamped.s1 x0 s.1 s.2) (u18, 4)).bind fun o => match o with | .out u54 => (some (strOfNums u54)) | .ret r => (some r)) | .ret r => (some r)) else none) else none)
set_option maxRecDepth 100000 in
set_option maxHeartbeats 0 in
theorem impl_clamped_t (w0 : World) (x0 : ByteArray) (r : ByteArray) (H : impl_clamped.f x0 = some r) :
    Calls Try.prog 56 #[.string x0] w0 (Ret (fun v w => v = .string r ∧ Sat [] w0 w [] [])) := by
  have hs : Sat [] w0 w0 [] [] := Sat.init w0 [] [] (by simp) (by simp) List.nodup_nil (by simp [blks])
  unfold impl_clamped.f at H
  refine enter Try.func56 rfl Try.ntmps56 rfl fun a hk => ?_
  apply wp_seq_k; intro K1 hK1
  apply wp_region_lit
  refine sa _ rfl hk rfl rfl rfl fun a hk => ?_
  show wpList _ _ _ [] _ _
  refine wpList_nil ?_
  refine hK1 _ _ ?_
  apply wp_seq_k; intro K2 hK2
  apply wp_region_lit
  refine sm _ rfl hk rfl rfl rfl fun a hk => ?_
  rcases ite_some H with ⟨c3, H⟩ | ⟨_, H⟩
  rotate_left
  ·cases H
  refine ssl_h rfl hk rfl rfl rfl rfl un9 c3.1 c3.2 fun a hk => ?_
  rcases ite_some H with ⟨c4, H⟩ | ⟨_, H⟩
  rotate_left
  ·cases H
  refine scb 1 hs rfl hk rfl rfl rfl un9 un22 un5 c4 fun b5 p6 k7 w a hk o8 hs => ?_
  refine sa _ rfl hk rfl rfl rfl fun a hk => ?_
  show wpList _ _ _ [] _ _
  refine wpList_nil ?_
  refine hK2 _ _ ?_
  apply wp_seq_k; intro K9 hK9
  apply wp_seq_k; intro K10 hK10
  apply wp_region_lit
  refine sa _ rfl hk rfl rfl rfl fun a hk => ?_
  show wpList _ _ _ [] _ _
  refine wpList_nil ?_
  refine hK10 _ _ ?_
  obtain ⟨o22, h23, HL24⟩ := bind_some H
  clear H
  obtain ⟨R25, hR25⟩ : ∃ R : Act → World → Prop, R = fun a w => ∃ (u18 : List Int) (k19 : Chunk), o22 = .out u18 ∧ Kn [(3, (.slice (some ⟨b5, 0, none⟩) (bytesOf (x0.extract 0 (16 : Int).toNat)).length p6))] 31 a ∧ Sat [] w0 w [] [(1, k19)] ∧ OwnM (Lay.int .u8) 5 (some ⟨b5, 0, none⟩) p6 u18 k19 ∧ u18.length = (bytesOf (x0.extract 0 (16 : Int).toNat)).length := ⟨_, rfl⟩
  refine wp_cutq R25 ?_ ?_
  ·refine wp_block ?_
   obtain ⟨fu27, h23⟩ := loopO_some h23
   obtain ⟨I26, hI26⟩ : ∃ I : Nat → Act → World → Prop, I = fun fu a w => ∃ (u13 : List Int) (u17 : Int) (k14 : Chunk), loopN (fun s => impl_clamped.s0 x0 s.1 s.2) fu (u13, u17) = some o22 ∧ Kn [(3, (.slice (some ⟨b5, 0, none⟩) (bytesOf (x0.extract 0 (16 : Int).toNat)).length p6)), (4, (.int .i64 u17))] 31 a ∧ Sat [] w0 w [] [(1, k14)] ∧ OwnM (Lay.int .u8) 5 (some ⟨b5, 0, none⟩) p6 u13 k14 ∧ u13.length = (bytesOf (x0.extract 0 (16 : Int).toNat)).length := ⟨_, rfl⟩
   refine wp_loop_ghost I26 fu27 ?_ ?_
   ·rw [hI26]
    exact ⟨(bytesOf (x0.extract 0 (16 : Int).toNat)), 3, _, h23, (hk.c 3 rfl (hk.c 4 rfl hk.k)), (hs.pick [(1, 1)] rfl), o8, rfl⟩
   ·clear h23 hk hs
    intro fu27 a w hI0
    rw [hI26] at hI0
    obtain ⟨u13, u17, k14, hi, hk, hs, o15, lh16⟩ := hI0
    obtain ⟨x28, H, h29⟩ := loop_round hi
    try dsimp only at H
    unfold impl_clamped.s0 at H
    apply wp_seq_k; intro K30 hK30
    apply wp_seq_k; intro K31 hK31
    apply wp_region_lit
    refine sm _ rfl hk rfl rfl rfl fun a hk => ?_
    refine sv (.bool (decide (u17 < 16))) hk rfl rfl rfl fun a hk => ?_
    show wpList _ _ _ [] _ _
    refine wpList_nil ?_
    refine hK31 _ _ ?_
    have hs := hs.pick [(1, 1)] rfl
    rcases cond_some H with ⟨c32, H⟩ | ⟨c32, H⟩
    ·have hk := hk.lit 10 c32 rfl
     refine cnd_true hk rfl rfl ?_
     refine wp_skip ?_
     refine hK30 _ _ ?_
     apply wp_seq_k; intro K33 hK33
     refine wp_block ?_
     apply wp_region_lit
     refine sm _ rfl hk rfl rfl rfl fun a hk => ?_
     refine sm _ rfl hk rfl rfl rfl fun a hk => ?_
     rcases ite_some H with ⟨c34, H⟩ | ⟨_, H⟩
     rotate_left
     ·cases H
     obtain ⟨b35, q36, hAc34⟩ := (o15.view).some_ u17 c34.1 (by rw [lh16]; exact c34.2)
     refine si rfl hk rfl rfl rfl rfl un22 sz5 c34.1 c34.2 hAc34 fun a hk => ?_
     obtain ⟨_, rfl, e37⟩ := (o15.view).at_ 0 u17 c34.1 (by rw [lh16]; exact c34.2)
     refine sl (v := (.int .u8 (u13.getD u17.toNat 0))) rfl hk rfl rfl rfl ag5 ((e37 0 _ rfl).cell (hs.hasG (k := 1) rfl)) fun a hk => ?_
     refine sv (.int .u8 (IntKind.wrap .u8 ((BitVec.ofInt 8 (u13.getD u17.toNat 0) &&& BitVec.ofInt 8 15).toNat : Int))) hk rfl rfl rfl fun a hk => ?_
     rcases ite_some H with ⟨c38, H⟩ | ⟨_, H⟩
     rotate_left
     ·cases H
     obtain ⟨b39, q40, hAc38⟩ := (o15.view).some_ u17 c38.1 (by rw [lh16]; exact c38.2)
     refine si rfl hk rfl rfl rfl rfl un22 sz5 c38.1 c38.2 hAc38 fun a hk => ?_
     refine sob 1 (IntKind.wrap .u8 ((BitVec.ofInt 8 (u13.getD u17.toNat 0) &&& BitVec.ofInt 8 15).toNat : Int)) hs rfl o15 c38.1 (by rw [lh16]; exact c38.2) rfl hk rfl rfl rfl rfl rfl sz5 rfl rfl rfl ⟨rfl, rfl⟩ fun k41 w a hk o42 hs => ?_
     have lh43 : (u13.set u17.toNat (IntKind.wrap .u8 ((BitVec.ofInt 8 (u13.getD u17.toNat 0) &&& BitVec.ofInt 8 15).toNat : Int))).length = (bytesOf (x0.extract 0 (16 : Int).toNat)).length := by rw [List.length_set]; exact lh16
     show wpList _ _ _ [] _ _
     refine wpList_nil ?_
     refine hK33 _ _ ?_
     apply wp_region_lit
     refine sm _ rfl hk rfl rfl rfl fun a hk => ?_
     refine sv (.int .i64 (w64 (u17 + 4))) hk rfl rfl rfl fun a hk => ?_
     refine sa _ rfl hk rfl rfl rfl fun a hk => ?_
     show wpList _ _ _ [] _ _
     refine wpList_nil ?_
     obtain rfl := Option.some.inj H
     obtain ⟨m44, hmm44, h29⟩ := h29
     show ∃ n', n' < _ ∧ I26 n' _ _
     refine ⟨m44, hmm44, ?_⟩
     rw [hI26]
     exact ⟨(u13.set u17.toNat (IntKind.wrap .u8 ((BitVec.ofInt 8 (u13.getD u17.toNat 0) &&& BitVec.ofInt 8 15).toNat : Int))), (w64 (u17 + 4)), _, h29, (hk.c 3 rfl (hk.c 4 rfl hk.k)), (hs.pick [(1, 1)] rfl), o42, lh43⟩
    ·have hk := hk.lit 10 c32 rfl
     refine cnd_false hk rfl rfl ?_
     refine wp_exit ?_
     obtain rfl := Option.some.inj H
     show R25 _ _
     rw [hR25]
     exact ⟨u13, _, h29.symm, (hk.c 3 rfl hk.k), (hs.pick [(1, 1)] rfl), o15, lh16⟩
  ·intro a w hR0
   rw [hR25] at hR0
   obtain ⟨u18, k19, rfl, hk, hs, o20, lh21⟩ := hR0
   have H := HL24
   try dsimp only at H
   refine hK9 _ _ ?_
   have hs := hs.pick [(1, 1)] rfl
   apply wp_seq_k; intro K45 hK45
   apply wp_seq_k; intro K46 hK46
   apply wp_region_lit
   refine sa _ rfl hk rfl rfl rfl fun a hk => ?_
   show wpList _ _ _ [] _ _
   refine wpList_nil ?_
   refine hK46 _ _ ?_
   obtain ⟨o58, h59, HL60⟩ := bind_some H
   clear H
   obtain ⟨R61, hR61⟩ : ∃ R : Act → World → Prop, R = fun a w => ∃ (u54 : List Int) (k55 : Chunk), o58 = .out u54 ∧ Kn [(3, (.slice (some ⟨b5, 0, none⟩) (bytesOf (x0.extract 0 (16 : Int).toNat)).length p6))] 31 a ∧ Sat [] w0 w [] [(1, k55)] ∧ OwnM (Lay.int .u8) 5 (some ⟨b5, 0, none⟩) p6 u54 k55 ∧ u54.length = (bytesOf (x0.extract 0 (16 : Int).toNat)).length := ⟨_, rfl⟩
   refine wp_cutq R61 ?_ ?_
   ·refine wp_block ?_
    obtain ⟨fu63, h59⟩ := loopO_some h59
    obtain ⟨I62, hI62⟩ : ∃ I : Nat → Act → World → Prop, I = fun fu a w => ∃ (u49 : List Int) (u53 : Int) (k50 : Chunk), loopN (fun s => impl_clamped.s1 x0 s.1 s.2) fu (u49, u53) = some o58 ∧ Kn [(3, (.slice (some ⟨b5, 0, none⟩) (bytesOf (x0.extract 0 (16 : Int).toNat)).length p6)), (5, (.int .i64 u53))] 31 a ∧ Sat [] w0 w [] [(1, k50)] ∧ OwnM (Lay.int .u8) 5 (some ⟨b5, 0, none⟩) p6 u49 k50 ∧ u49.length = (bytesOf (x0.extract 0 (16 : Int).toNat)).length := ⟨_, rfl⟩
    refine wp_loop_ghost I62 fu63 ?_ ?_
    ·rw [hI62]
     exact ⟨u18, 4, _, h59, (hk.c 3 rfl (hk.c 5 rfl hk.k)), (hs.pick [(1, 1)] rfl), o20, lh21⟩
    ·clear h59 hk hs
     intro fu63 a w hI0
     rw [hI62] at hI0
     obtain ⟨u49, u53, k50, hi, hk, hs, o51, lh52⟩ := hI0
     obtain ⟨x64, H, h65⟩ := loop_round hi
     try dsimp only at H
     unfold impl_clamped.s1 at H
     apply wp_seq_k; intro K66 hK66
     apply wp_seq_k; intro K67 hK67
     apply wp_region_lit
     refine sm _ rfl hk rfl rfl rfl fun a hk => ?_
     refine sv (.bool (decide (u53 < 16))) hk rfl rfl rfl fun a hk => ?_
     show wpList _ _ _ [] _ _
     refine wpList_nil ?_
     refine hK67 _ _ ?_
     rcases cond_some H with ⟨c68, H⟩ | ⟨c68, H⟩
     ·have hk := hk.lit 20 c68 rfl
      refine cnd_true hk rfl rfl ?_
      refine wp_skip ?_
      refine hK66 _ _ ?_
      apply wp_seq_k; intro K69 hK69
      refine wp_block ?_
      apply wp_region_lit
      refine sm _ rfl hk rfl rfl rfl fun a hk => ?_
      refine sm _ rfl hk rfl rfl rfl fun a hk => ?_
      rcases ite_some H with ⟨c70, H⟩ | ⟨_, H⟩
      rotate_left
      ·cases H
      obtain ⟨b71, q72, hAc70⟩ := (o51.view).some_ u53 c70.1 (by rw [lh52]; exact c70.2)
      refine si rfl hk rfl rfl rfl rfl un22 sz5 c70.1 c70.2 hAc70 fun a hk => ?_
      obtain ⟨_, rfl, e73⟩ := (o51.view).at_ 0 u53 c70.1 (by rw [lh52]; exact c70.2)
      refine sl (v := (.int .u8 (u49.getD u53.toNat 0))) rfl hk rfl rfl rfl ag5 ((e73 0 _ rfl).cell (hs.hasG (k := 1) rfl)) fun a hk => ?_
      refine sv (.int .u8 (IntKind.wrap .u8 ((BitVec.ofInt 8 (u49.getD u53.toNat 0) &&& BitVec.ofInt 8 252).toNat : Int))) hk rfl rfl rfl fun a hk => ?_
      rcases ite_some H with ⟨c74, H⟩ | ⟨_, H⟩
      rotate_left
      ·cases H
      obtain ⟨b75, q76, hAc74⟩ := (o51.view).some_ u53 c74.1 (by rw [lh52]; exact c74.2)
      refine si rfl hk rfl rfl rfl rfl un22 sz5 c74.1 c74.2 hAc74 fun a hk => ?_
      refine sob 1 (IntKind.wrap .u8 ((BitVec.ofInt 8 (u49.getD u53.toNat 0) &&& BitVec.ofInt 8 252).toNat : Int)) hs rfl o51 c74.1 (by rw [lh52]; exact c74.2) rfl hk rfl rfl rfl rfl rfl sz5 rfl rfl rfl ⟨rfl, rfl⟩ fun k77 w a hk o78 hs => ?_
      have lh79 : (u49.set u53.toNat (IntKind.wrap .u8 ((BitVec.ofInt 8 (u49.getD u53.toNat 0) &&& BitVec.ofInt 8 252).toNat : Int))).length = (bytesOf (x0.extract 0 (16 : Int).toNat)).length := by rw [List.length_set]; exact lh52
      show wpList _ _ _ [] _ _
      refine wpList_nil ?_
      refine hK69 _ _ ?_
      have hs := hs.pick [(1, 1)] rfl
      apply wp_region_lit
      refine sm _ rfl hk rfl rfl rfl fun a hk => ?_
      refine sv (.int .i64 (w64 (u53 + 4))) hk rfl rfl rfl fun a hk => ?_
      refine sa _ rfl hk rfl rfl rfl fun a hk => ?_
      show wpList _ _ _ [] _ _
      refine wpList_nil ?_
      obtain rfl := Option.some.inj H
      obtain ⟨m80, hmm80, h65⟩ := h65
      show ∃ n', n' < _ ∧ I62 n' _ _
      refine ⟨m80, hmm80, ?_⟩
      rw [hI62]
      exact ⟨(u49.set u53.toNat (IntKind.wrap .u8 ((BitVec.ofInt 8 (u49.getD u53.toNat 0) &&& BitVec.ofInt 8 252).toNat : Int))), (w64 (u53 + 4)), _, h65, (hk.c 3 rfl (hk.c 5 rfl hk.k)), (hs.pick [(1, 1)] rfl), o78, lh79⟩
     ·have hk := hk.lit 20 c68 rfl
      refine cnd_false hk rfl rfl ?_
      refine wp_exit ?_
      obtain rfl := Option.some.inj H
      show R61 _ _
      rw [hR61]
      exact ⟨u49, _, h65.symm, (hk.c 3 rfl hk.k), (hs.pick [(1, 1)] rfl), o51, lh52⟩
   ·intro a w hR0
    rw [hR61] at hR0
    obtain ⟨u54, k55, rfl, hk, hs, o56, lh57⟩ := hR0
    have H := HL60
    try dsimp only at H
    refine hK45 _ _ ?_
    apply wp_seq_k; intro K81 hK81
    apply wp_region_lit
    refine sm _ rfl hk rfl rfl rfl fun a hk => ?_
    refine sbt (xs := u54) rfl hk rfl rfl lh57.symm rfl un22 un5 un9 o56.view (hs.hasG (k := 1) rfl) fun a hk => ?_
    refine sa _ rfl hk rfl rfl rfl fun a hk => ?_
    show wpList _ _ _ [] _ _
    refine wpList_nil ?_
    refine hK81 _ _ ?_
    refine wp_ret ?_
    obtain rfl := Option.some.inj H
    exact fin hk _ [(.string (strOfNums u54))] rfl ⟨rfl, trivial⟩ ⟨rfl, (hs.pick [] rfl).dnil⟩

noncomputable def impl_limbsOf.s1 (x0 : ByteArray) (u24 : Int) (u49 : List Int) (u53 : Int) : Option (((List Int) × Int) ⊕ Ex ((List Int)) ((List Int))) :=
  (bif (decide (u53 < 8)) then (if 0 ≤ u53 then (((bif ((IntKind.wrap .u8 ((BitVec.ofInt 8 (Int.fdiv ((bytesOf x0).getD u24.toNat 0) (2 ^ min u53.toNat 8)) &&& BitVec.ofInt 8 1).toNat : Int)) == 1) then (if 0 ≤ (IntKind.wrap .i64 (Int.tdiv (w64 ((w64 (8 * u24)) + u53)) 26)) ∧ (IntKind.wrap .i64 (Int.tdiv (w64 ((w64 (8 * u24)) + u53)) 26)) < (5 : Int) then (if 0 ≤ (Int.tmod (w64 ((w64 (8 * u24)) + u53)) 26) then (if 0 ≤ (IntKind.wrap .i64 (Int.tdiv (w64 ((w64 (8 * u24)) + u53)) 26)) ∧ (IntKind.wrap .i64 (Int.tdiv (w64 ((w64 (8 * u24)) + u53)) 26)) < (5 : Int) then (some (u49.set (IntKind.wrap .i64 (Int.tdiv (w64 ((w64 (8 * u24)) + u53)) 26)).toNat (IntKind.wrap .u64 ((BitVec.ofInt 64 (u49.getD (IntKind.wrap .i64 (Int.tdiv (w64 ((w64 (8 * u24)) + u53)) 26)).toNat 0) ||| BitVec.ofInt 64 (IntKind.wrap .u64 (1 * 2 ^ min (Int.tmod (w64 ((w64 (8 * u24)) + u53)) 26).toNat 64))).toNat : Int)))) else none) else none) else none) else (some u49)) : Option ((List Int))).bind fun u75 => (some (.inl (u75, (w64 (u53 + 1)))))) else none) else (some (.inr (.out u49))))
noncomputable def impl_limbsOf.s0 (x0 : ByteArray) (u20 : List Int) (u24 : Int) : Option (((List Int) × Int) ⊕ Ex ((List Int)) ((List Int))) :=
  (bif (decide (u24 < ((bytesOf x0).length : Int))) then (if 0 ≤ u24 ∧ u24 < ((bytesOf x0).length : Int) then ((loopO (fun s => impl_limbsOf.s1 x0 u24 s.1 s.2) (u20, 0)).bind fun o => match o with | .out u54 => (some (.inl (u54, (w64 (u24 + 1))))) | .ret r => (some (.inr (.ret r)))) else none) else (some (.inr (.out u20))))
noncomputable def impl_limbsOf.f (x0 : ByteArray) : Option ((List Int)) :=
  (if x0.size ≤ 1073741824 then ((loopO (fun s => impl_limbsOf.s0 x0 s.1 s.2) ((List.replicate 5 (0 : Int)), 0)).bind fun o => match o with | .out u25 => (some u25) | .ret r => (some r)) else none)
set_option maxRecDepth 100000 in
set_option maxHeartbeats 0 in
theorem impl_limbsOf_t (w0 : World) (x0 : ByteArray) (r : (List Int)) (H : impl_limbsOf.f x0 = some r) :
    Calls Try.prog 97 #[.string x0] w0 (Ret (fun v w => v = aggI .u64 r ∧ r.length = 5 ∧ Sat [] w0 w [] [])) := by
  have hs : Sat [] w0 w0 [] [] := Sat.init w0 [] [] (by simp) (by simp) List.nodup_nil (by simp [blks])
  unfold impl_limbsOf.f at H
  refine enter Try.func97 rfl Try.ntmps97 rfl fun a hk => ?_
  apply wp_seq_k; intro K1 hK1
  apply wp_region_lit
  refine sala 1 ((Lay.int .u64)) (m := 5) (z := 0) (zc := [.int .u64 0]) hs rfl hk rfl rfl ze99 (by exact ⟨rfl, rfl⟩) rfl rfl rfl fun b2 k3 w a hk o4 hs => ?_
  have lh5 : (List.replicate 5 (0 : Int)).length = 5 := List.length_replicate
  show wpList _ _ _ [] _ _
  refine wpList_nil ?_
  refine hK1 _ _ ?_
  apply wp_seq_k; intro K6 hK6
  apply wp_region_lit
  refine sala 2 ((Lay.int .u64)) (m := 5) (z := 0) (zc := [.int .u64 0]) hs rfl hk rfl rfl ze99 (by exact ⟨rfl, rfl⟩) rfl rfl rfl fun b7 k8 w a hk o9 hs => ?_
  have lh10 : (List.replicate 5 (0 : Int)).length = 5 := List.length_replicate
  show wpList _ _ _ [] _ _
  refine wpList_nil ?_
  refine hK6 _ _ ?_
  apply wp_seq_k; intro K11 hK11
  apply wp_seq_k; intro K12 hK12
  apply wp_region_lit
  refine sm _ rfl hk rfl rfl rfl fun a hk => ?_
  rcases ite_some H with ⟨c13, H⟩ | ⟨_, H⟩
  rotate_left
  ·cases H
  refine scb 3 hs rfl hk rfl rfl rfl un9 un22 un5 c13 fun b14 p15 k16 w a hk o17 hs => ?_
  refine sle rfl hk rfl rfl rfl un22 fun a hk => ?_
  refine sm _ rfl hk rfl rfl rfl fun a hk => ?_
  show wpList _ _ _ [] _ _
  refine wpList_nil ?_
  refine hK12 _ _ ?_
  obtain ⟨o29, h30, HL31⟩ := bind_some H
  clear H
  obtain ⟨R32, hR32⟩ : ∃ R : Act → World → Prop, R = fun a w => ∃ (u25 : List Int) (k26 : Chunk), o29 = .out u25 ∧ Kn [(2, (.pointer (some ⟨b2, 0, none⟩))), (3, (.pointer (some ⟨b7, 0, none⟩)))] 40 a ∧ Sat [] w0 w [] [(1, k3), (2, k26)] ∧ Own (Lay.int .u64) 99 (some ⟨b7, 0, none⟩) 5 u25 k26 ∧ u25.length = 5 := ⟨_, rfl⟩
  refine wp_cutq R32 ?_ ?_
  ·refine wp_block ?_
   obtain ⟨fu34, h30⟩ := loopO_some h30
   obtain ⟨I33, hI33⟩ : ∃ I : Nat → Act → World → Prop, I = fun fu a w => ∃ (u20 : List Int) (u24 : Int) (k21 : Chunk), loopN (fun s => impl_limbsOf.s0 x0 s.1 s.2) fu (u20, u24) = some o29 ∧ Kn [(2, (.pointer (some ⟨b2, 0, none⟩))), (3, (.pointer (some ⟨b7, 0, none⟩))), (9, (.slice (some ⟨b14, 0, none⟩) (bytesOf x0).length p15)), (10, (.int .i64 ((bytesOf x0).length : Int))), (11, (.int .i64 u24))] 40 a ∧ Sat [] w0 w [] [(1, k3), (2, k21), (3, k16)] ∧ Own (Lay.int .u64) 99 (some ⟨b7, 0, none⟩) 5 u20 k21 ∧ u20.length = 5 := ⟨_, rfl⟩
   refine wp_loop_ghost I33 fu34 ?_ ?_
   ·rw [hI33]
    exact ⟨(List.replicate 5 (0 : Int)), 0, _, h30, (hk.c 2 rfl (hk.c 3 rfl (hk.c 9 rfl (hk.c 10 rfl (hk.c 11 rfl hk.k))))), (hs.pick [(1, 1), (2, 2), (3, 3)] rfl), o9, lh10⟩
   ·clear h30 hk hs
    intro fu34 a w hI0
    rw [hI33] at hI0
    obtain ⟨u20, u24, k21, hi, hk, hs, o22, lh23⟩ := hI0
    obtain ⟨x35, H, h36⟩ := loop_round hi
    try dsimp only at H
    unfold impl_limbsOf.s0 at H
    apply wp_seq_k; intro K37 hK37
    apply wp_region_lit
    refine sv (.bool (decide (u24 < ((bytesOf x0).length : Int)))) hk rfl rfl rfl fun a hk => ?_
    show wpList _ _ _ [] _ _
    refine wpList_nil ?_
    refine hK37 _ _ ?_
    have hs := hs.pick [(1, 1), (2, 2), (3, 3)] rfl
    apply wp_seq_k; intro K38 hK38
    rcases cond_some H with ⟨c39, H⟩ | ⟨c39, H⟩
    ·have hk := hk.lit 12 c39 rfl
     refine cnd_true hk rfl rfl ?_
     refine wp_skip ?_
     refine hK38 _ _ ?_
     apply wp_seq_k; intro K40 hK40
     refine wp_block ?_
     apply wp_seq_k; intro K41 hK41
     apply wp_region_lit
     refine sm _ rfl hk rfl rfl rfl fun a hk => ?_
     rcases ite_some H with ⟨c42, H⟩ | ⟨_, H⟩
     rotate_left
     ·cases H
     obtain ⟨b43, q44, hAc42⟩ := (o17.view).some_ u24 c42.1 c42.2
     refine si rfl hk rfl rfl rfl rfl un22 sz5 c42.1 c42.2 hAc42 fun a hk => ?_
     obtain ⟨_, rfl, e45⟩ := (o17.view).at_ 0 u24 c42.1 c42.2
     refine sl (v := (.int .u8 ((bytesOf x0).getD u24.toNat 0))) rfl hk rfl rfl rfl ag5 ((e45 0 _ rfl).cell (hs.hasG (k := 3) rfl)) fun a hk => ?_
     refine sa _ rfl hk rfl rfl rfl fun a hk => ?_
     refine sa _ rfl hk rfl rfl rfl fun a hk => ?_
     show wpList _ _ _ [] _ _
     refine wpList_nil ?_
     refine hK41 _ _ ?_
     apply wp_seq_k; intro K46 hK46
     apply wp_region_lit
     refine sm _ rfl hk rfl rfl rfl fun a hk => ?_
     show wpList _ _ _ [] _ _
     refine wpList_nil ?_
     refine hK46 _ _ ?_
     obtain ⟨o58, h59, HL60⟩ := bind_some H
     clear H
     obtain ⟨R61, hR61⟩ : ∃ R : Act → World → Prop, R = fun a w => ∃ (u54 : List Int) (k55 : Chunk), o58 = .out u54 ∧ Kn [(2, (.pointer (some ⟨b2, 0, none⟩))), (3, (.pointer (some ⟨b7, 0, none⟩))), (9, (.slice (some ⟨b14, 0, none⟩) (bytesOf x0).length p15)), (10, (.int .i64 ((bytesOf x0).length : Int))), (11, (.int .i64 u24))] 40 a ∧ Sat [] w0 w [] [(1, k3), (2, k55), (3, k16)] ∧ Own (Lay.int .u64) 99 (some ⟨b7, 0, none⟩) 5 u54 k55 ∧ u54.length = 5 := ⟨_, rfl⟩
     refine wp_cutq R61 ?_ ?_
     ·refine wp_block ?_
      obtain ⟨fu63, h59⟩ := loopO_some h59
      obtain ⟨I62, hI62⟩ : ∃ I : Nat → Act → World → Prop, I = fun fu a w => ∃ (u49 : List Int) (u53 : Int) (k50 : Chunk), loopN (fun s => impl_limbsOf.s1 x0 u24 s.1 s.2) fu (u49, u53) = some o58 ∧ Kn [(2, (.pointer (some ⟨b2, 0, none⟩))), (3, (.pointer (some ⟨b7, 0, none⟩))), (4, (.int .i64 u24)), (5, (.int .u8 ((bytesOf x0).getD u24.toNat 0))), (9, (.slice (some ⟨b14, 0, none⟩) (bytesOf x0).length p15)), (10, (.int .i64 ((bytesOf x0).length : Int))), (11, (.int .i64 u24)), (16, (.int .i64 u53))] 40 a ∧ Sat [] w0 w [] [(1, k3), (2, k50), (3, k16)] ∧ Own (Lay.int .u64) 99 (some ⟨b7, 0, none⟩) 5 u49 k50 ∧ u49.length = 5 := ⟨_, rfl⟩
      refine wp_loop_ghost I62 fu63 ?_ ?_
      ·rw [hI62]
       exact ⟨u20, 0, _, h59, (hk.c 2 rfl (hk.c 3 rfl (hk.c 4 rfl (hk.c 5 rfl (hk.c 9 rfl (hk.c 10 rfl (hk.c 11 rfl (hk.c 16 rfl hk.k)))))))), (hs.pick [(1, 1), (2, 2), (3, 3)] rfl), o22, lh23⟩
      ·clear h59 hk hs
       intro fu63 a w hI0
       rw [hI62] at hI0
       obtain ⟨u49, u53, k50, hi, hk, hs, o51, lh52⟩ := hI0
       obtain ⟨x64, H, h65⟩ := loop_round hi
       try dsimp only at H
       unfold impl_limbsOf.s1 at H
       apply wp_seq_k; intro K66 hK66
       apply wp_region_lit
       refine sv (.bool (decide (u53 < 8))) hk rfl rfl rfl fun a hk => ?_
       show wpList _ _ _ [] _ _
       refine wpList_nil ?_
       refine hK66 _ _ ?_
       have hs := hs.pick [(1, 1), (2, 2), (3, 3)] rfl
       apply wp_seq_k; intro K67 hK67
       rcases cond_some H with ⟨c68, H⟩ | ⟨c68, H⟩
       ·have hk := hk.lit 17 c68 rfl
        refine cnd_true hk rfl rfl ?_
        refine wp_skip ?_
        refine hK67 _ _ ?_
        apply wp_seq_k; intro K69 hK69
        refine wp_block ?_
        apply wp_seq_k; intro K70 hK70
        apply wp_region_lit
        refine sm _ rfl hk rfl rfl rfl fun a hk => ?_
        refine sa _ rfl hk rfl rfl rfl fun a hk => ?_
        show wpList _ _ _ [] _ _
        refine wpList_nil ?_
        refine hK70 _ _ ?_
        apply wp_seq_k; intro K71 hK71
        apply wp_region_lit
        refine sm _ rfl hk rfl rfl rfl fun a hk => ?_
        refine sv (.int .i64 (w64 (8 * u24))) hk rfl rfl rfl fun a hk => ?_
        refine sm _ rfl hk rfl rfl rfl fun a hk => ?_
        refine sv (.int .i64 (w64 ((w64 (8 * u24)) + u53))) hk rfl rfl rfl fun a hk => ?_
        refine sa _ rfl hk rfl rfl rfl fun a hk => ?_
        show wpList _ _ _ [] _ _
        refine wpList_nil ?_
        refine hK71 _ _ ?_
        apply wp_seq_k; intro K72 hK72
        apply wp_region_lit
        refine sm _ rfl hk rfl rfl rfl fun a hk => ?_
        refine sm _ rfl hk rfl rfl rfl fun a hk => ?_
        rcases ite_some H with ⟨c73, H⟩ | ⟨_, H⟩
        rotate_left
        ·cases H
        refine ssr rfl hk rfl rfl rfl rfl c73 fun a hk => ?_
        refine sv (.int .u8 (IntKind.wrap .u8 ((BitVec.ofInt 8 (Int.fdiv ((bytesOf x0).getD u24.toNat 0) (2 ^ min u53.toNat 8)) &&& BitVec.ofInt 8 1).toNat : Int))) hk rfl rfl rfl fun a hk => ?_
        refine sv (.bool ((IntKind.wrap .u8 ((BitVec.ofInt 8 (Int.fdiv ((bytesOf x0).getD u24.toNat 0) (2 ^ min u53.toNat 8)) &&& BitVec.ofInt 8 1).toNat : Int)) == 1)) hk rfl rfl rfl fun a hk => ?_
        show wpList _ _ _ [] _ _
        refine wpList_nil ?_
        refine hK72 _ _ ?_
        have hs := hs.pick [(1, 1), (2, 2), (3, 3)] rfl
        obtain ⟨o79, h80, HL81⟩ := bind_some H
        clear H
        obtain ⟨R82, hR82⟩ : ∃ R : Act → World → Prop, R = fun a w => ∃ (u75 : List Int) (k76 : Chunk), u75 = o79 ∧ Kn [(2, (.pointer (some ⟨b2, 0, none⟩))), (3, (.pointer (some ⟨b7, 0, none⟩))), (4, (.int .i64 u24)), (5, (.int .u8 ((bytesOf x0).getD u24.toNat 0))), (9, (.slice (some ⟨b14, 0, none⟩) (bytesOf x0).length p15)), (10, (.int .i64 ((bytesOf x0).length : Int))), (11, (.int .i64 u24)), (16, (.int .i64 u53))] 40 a ∧ Sat [] w0 w [] [(1, k3), (2, k76), (3, k16)] ∧ Own (Lay.int .u64) 99 (some ⟨b7, 0, none⟩) 5 u75 k76 ∧ u75.length = 5 := ⟨_, rfl⟩
        refine wp_cutq R82 ?_ ?_
        ·have H := h80
         rcases cond_some H with ⟨c83, H⟩ | ⟨c83, H⟩
         ·have hk := hk.lit 27 c83 rfl
          refine cnd_true hk rfl rfl ?_
          refine wp_region_tree (.q 0 (.q 1 (.q 2 (.q 3 (.alt 4 (.alt 5 (.alt 6 (.alt 7 (.alt 8 (.last 9) .stop) .stop) .stop) .stop) .stop))))) mo (by kernel_rfl) (hs.pick [(1, 1), (2, 2), (3, 3)] rfl) fun _ => ?_
          have hs := hs.drew
          refine tqst (.int .i64 (w64 ((w64 (8 * u24)) + u53))) hk rfl rfl rfl rfl (fun w hs => sm _ rfl hk rfl rfl rfl fun a hk => qe hk) fun a hk => ?_
          refine tqst (.int .i64 (IntKind.wrap .i64 (Int.tdiv (w64 ((w64 (8 * u24)) + u53)) 26))) hk rfl rfl rfl rfl (fun w hs => sv (.int .i64 (IntKind.wrap .i64 (Int.tdiv (w64 ((w64 (8 * u24)) + u53)) 26))) hk rfl rfl rfl fun a hk => qe hk) fun a hk => ?_
          rcases ite_some H with ⟨c85, H⟩ | ⟨_, H⟩
          rotate_left
          ·cases H
          obtain ⟨b86, q87, hAc85⟩ := (o51.view).some_ (IntKind.wrap .i64 (Int.tdiv (w64 ((w64 (8 * u24)) + u53)) 26)) c85.1 (by rw [lh52]; exact c85.2)
          refine tqst (.pointer (some (padd (some ⟨b7, 0, none⟩) ((IntKind.wrap .i64 (Int.tdiv (w64 ((w64 (8 * u24)) + u53)) 26)).toNat * 1)))) hk rfl rfl rfl rfl (fun w hs => sia rfl hk rfl rfl rfl rfl un99 sz97 c85.1 c85.2 hAc85 fun a hk => qe hk) fun a hk => ?_
          obtain ⟨_, rfl, e88⟩ := (o51.view).at_ 0 (IntKind.wrap .i64 (Int.tdiv (w64 ((w64 (8 * u24)) + u53)) 26)) c85.1 (by rw [lh52]; exact c85.2)
          refine tqst (.int .u64 (u49.getD (IntKind.wrap .i64 (Int.tdiv (w64 ((w64 (8 * u24)) + u53)) 26)).toNat 0)) hk rfl rfl rfl rfl (fun w hs => sl (v := (.int .u64 (u49.getD (IntKind.wrap .i64 (Int.tdiv (w64 ((w64 (8 * u24)) + u53)) 26)).toNat 0))) rfl hk rfl rfl rfl ag97 ((e88 0 _ rfl).cell (hs.hasG (k := 2) rfl)) fun a hk => qe hk) fun a hk => ?_
          refine tsst hk rfl rfl (fun K_r84_4 hK_r84_4 w hF => ?_) wt_stop
          have hs := hs.f hF
          refine sm _ rfl hk rfl rfl rfl fun a hk => ?_
          refine se (hs.pick [(1, 1), (2, 2), (3, 3)] rfl) hk (hK_r84_4 _ _ ?_)
          refine tsst hk rfl rfl (fun K_r84_5 hK_r84_5 w hF => ?_) wt_stop
          have hs := hs.f hF
          refine sv (.int .i64 (Int.tmod (w64 ((w64 (8 * u24)) + u53)) 26)) hk rfl rfl rfl fun a hk => ?_
          refine se (hs.pick [(1, 1), (2, 2), (3, 3)] rfl) hk (hK_r84_5 _ _ ?_)
          refine tsst hk rfl rfl (fun K_r84_6 hK_r84_6 w hF => ?_) wt_stop
          have hs := hs.f hF
          rcases ite_some H with ⟨c89, H⟩ | ⟨_, H⟩
          rotate_left
          ·cases H
          refine ssh rfl hk rfl rfl rfl rfl c89 fun a hk => ?_
          refine se (hs.pick [(1, 1), (2, 2), (3, 3)] rfl) hk (hK_r84_6 _ _ ?_)
          refine tsst hk rfl rfl (fun K_r84_7 hK_r84_7 w hF => ?_) wt_stop
          have hs := hs.f hF
          refine sv (.int .u64 (IntKind.wrap .u64 ((BitVec.ofInt 64 (u49.getD (IntKind.wrap .i64 (Int.tdiv (w64 ((w64 (8 * u24)) + u53)) 26)).toNat 0) ||| BitVec.ofInt 64 (IntKind.wrap .u64 (1 * 2 ^ min (Int.tmod (w64 ((w64 (8 * u24)) + u53)) 26).toNat 64))).toNat : Int))) hk rfl rfl rfl fun a hk => ?_
          refine se (hs.pick [(1, 1), (2, 2), (3, 3)] rfl) hk (hK_r84_7 _ _ ?_)
          refine tsst hk rfl rfl (fun K_r84_8 hK_r84_8 w hF => ?_) wt_stop
          have hs := hs.f hF
          rcases ite_some H with ⟨c90, H⟩ | ⟨_, H⟩
          rotate_left
          ·cases H
          obtain ⟨b91, q92, hAc90⟩ := (o51.view).some_ (IntKind.wrap .i64 (Int.tdiv (w64 ((w64 (8 * u24)) + u53)) 26)) c90.1 (by rw [lh52]; exact c90.2)
          refine sia rfl hk rfl rfl rfl rfl un99 sz97 c90.1 c90.2 hAc90 fun a hk => ?_
          refine se (hs.pick [(1, 1), (2, 2), (3, 3)] rfl) hk (hK_r84_8 _ _ ?_)
          refine tlst hk rfl rfl fun K_r84_9 hK_r84_9 w hF => ?_
          have hs := hs.f hF
          refine so (j := 0) 2 0 (IntKind.wrap .u64 ((BitVec.ofInt 64 (u49.getD (IntKind.wrap .i64 (Int.tdiv (w64 ((w64 (8 * u24)) + u53)) 26)).toNat 0) ||| BitVec.ofInt 64 (IntKind.wrap .u64 (1 * 2 ^ min (Int.tmod (w64 ((w64 (8 * u24)) + u53)) 26).toNat 64))).toNat : Int)) hs rfl o51 c90.1 (by rw [lh52]; exact c90.2) rfl hk rfl rfl rfl rfl rfl sz97 (by simp [Value.cells, Value.oneCell']) (Nat.le_of_ble_eq_true rfl) (fun _ _ h => ⟨by rw [h.1]; rfl, h.2⟩) fun k93 w a hk o94 hs => ?_
          have lh95 : (u49.set (IntKind.wrap .i64 (Int.tdiv (w64 ((w64 (8 * u24)) + u53)) 26)).toNat (IntKind.wrap .u64 ((BitVec.ofInt 64 (u49.getD (IntKind.wrap .i64 (Int.tdiv (w64 ((w64 (8 * u24)) + u53)) 26)).toNat 0) ||| BitVec.ofInt 64 (IntKind.wrap .u64 (1 * 2 ^ min (Int.tmod (w64 ((w64 (8 * u24)) + u53)) 26).toNat 64))).toNat : Int))).length = 5 := by rw [List.length_set]; exact lh52
          refine se trivial hk (hK_r84_9 _ _ fun w hF => ?_)
          have hs := hs.f hF
          obtain rfl := Option.some.inj H
          show R82 _ _
          rw [hR82]
          exact ⟨(u49.set (IntKind.wrap .i64 (Int.tdiv (w64 ((w64 (8 * u24)) + u53)) 26)).toNat (IntKind.wrap .u64 ((BitVec.ofInt 64 (u49.getD (IntKind.wrap .i64 (Int.tdiv (w64 ((w64 (8 * u24)) + u53)) 26)).toNat 0) ||| BitVec.ofInt 64 (IntKind.wrap .u64 (1 * 2 ^ min (Int.tmod (w64 ((w64 (8 * u24)) + u53)) 26).toNat 64))).toNat : Int))), _, rfl, (hk.c 2 rfl (hk.c 3 rfl (hk.c 4 rfl (hk.c 5 rfl (hk.c 9 rfl (hk.c 10 rfl (hk.c 11 rfl (hk.c 16 rfl hk.k)))))))), (hs.pick [(1, 1), (2, 2), (3, 3)] rfl), o94, lh95⟩
         ·have hk := hk.lit 27 c83 rfl
          refine cnd_false hk rfl rfl ?_
          refine wp_skip ?_
          obtain rfl := Option.some.inj H
          show R82 _ _
          rw [hR82]
          exact ⟨u49, _, rfl, (hk.c 2 rfl (hk.c 3 rfl (hk.c 4 rfl (hk.c 5 rfl (hk.c 9 rfl (hk.c 10 rfl (hk.c 11 rfl (hk.c 16 rfl hk.k)))))))), (hs.pick [(1, 1), (2, 2), (3, 3)] rfl), o51, lh52⟩
        ·intro a w hR0
         rw [hR82] at hR0
         obtain ⟨u75, k76, rfl, hk, hs, o77, lh78⟩ := hR0
         have H := HL81
         try dsimp only at H
         refine hK69 _ _ ?_
         apply wp_region_lit
         refine sv (.int .i64 (w64 (u53 + 1))) hk rfl rfl rfl fun a hk => ?_
         refine sm _ rfl hk rfl rfl rfl fun a hk => ?_
         show wpList _ _ _ [] _ _
         refine wpList_nil ?_
         obtain rfl := Option.some.inj H
         obtain ⟨m96, hmm96, h65⟩ := h65
         show ∃ n', n' < _ ∧ I62 n' _ _
         refine ⟨m96, hmm96, ?_⟩
         rw [hI62]
         exact ⟨u75, (w64 (u53 + 1)), _, h65, (hk.c 2 rfl (hk.c 3 rfl (hk.c 4 rfl (hk.c 5 rfl (hk.c 9 rfl (hk.c 10 rfl (hk.c 11 rfl (hk.c 16 rfl hk.k)))))))), (hs.pick [(1, 1), (2, 2), (3, 3)] rfl), o77, lh78⟩
       ·have hk := hk.lit 17 c68 rfl
        refine cnd_false hk rfl rfl ?_
        refine wp_exit ?_
        obtain rfl := Option.some.inj H
        show R61 _ _
        rw [hR61]
        exact ⟨u49, _, h65.symm, (hk.c 2 rfl (hk.c 3 rfl (hk.c 9 rfl (hk.c 10 rfl (hk.c 11 rfl hk.k))))), (hs.pick [(1, 1), (2, 2), (3, 3)] rfl), o51, lh52⟩
     ·intro a w hR0
      rw [hR61] at hR0
      obtain ⟨u54, k55, rfl, hk, hs, o56, lh57⟩ := hR0
      have H := HL60
      try dsimp only at H
      refine hK40 _ _ ?_
      have hs := hs.pick [(1, 1), (2, 2), (3, 3)] rfl
      apply wp_region_lit
      refine sv (.int .i64 (w64 (u24 + 1))) hk rfl rfl rfl fun a hk => ?_
      refine sm _ rfl hk rfl rfl rfl fun a hk => ?_
      show wpList _ _ _ [] _ _
      refine wpList_nil ?_
      obtain rfl := Option.some.inj H
      obtain ⟨m97, hmm97, h36⟩ := h36
      show ∃ n', n' < _ ∧ I33 n' _ _
      refine ⟨m97, hmm97, ?_⟩
      rw [hI33]
      exact ⟨u54, (w64 (u24 + 1)), _, h36, (hk.c 2 rfl (hk.c 3 rfl (hk.c 9 rfl (hk.c 10 rfl (hk.c 11 rfl hk.k))))), (hs.pick [(1, 1), (2, 2), (3, 3)] rfl), o56, lh57⟩
    ·have hk := hk.lit 12 c39 rfl
     refine cnd_false hk rfl rfl ?_
     refine wp_exit ?_
     obtain rfl := Option.some.inj H
     show R32 _ _
     rw [hR32]
     exact ⟨u20, _, h36.symm, (hk.c 2 rfl (hk.c 3 rfl hk.k)), (hs.pick [(1, 1), (2, 2)] rfl), o22, lh23⟩
  ·intro a w hR0
   rw [hR32] at hR0
   obtain ⟨u25, k26, rfl, hk, hs, o27, lh28⟩ := hR0
   have H := HL31
   try dsimp only at H
   refine hK11 _ _ ?_
   have hs := hs.pick [(1, 1), (2, 2)] rfl
   apply wp_seq_k; intro K98 hK98
   apply wp_region_lit
   refine slna (k := 2) hs rfl o27 lh28 rfl hk rfl rfl rfl ag99 sz99 fun a hk => ?_
   refine sswa 1 u25 hs rfl o4 lh5 lh28 rfl rfl hk rfl rfl rfl rfl sz99 fun k99 w a hk o100 hs => ?_
   show wpList _ _ _ [] _ _
   refine wpList_nil ?_
   refine hK98 _ _ ?_
   refine wp_ret ?_
   obtain rfl := Option.some.inj H
   exact fin hk _ [(aggI .u64 u25)] rfl ⟨⟨_, rfl, run_loadA ag99 sz99 o100 lh28 hs (q := 1) rfl⟩, trivial⟩ ⟨rfl, lh28, (hs.pick [] rfl).dnil⟩

noncomputable def impl_limbs_carried.s1  (u39 : List Int) (u43 : Int) (u44 : Int) : Option (((List Int) × Int × Int) ⊕ Ex ((List Int) × Int) ((List Int))) :=
  (bif (decide (u44 < 5)) then (if 0 ≤ u44 ∧ u44 < (5 : Int) then (if 0 ≤ u44 ∧ u44 < (5 : Int) then (if 0 ≤ u44 ∧ u44 < (5 : Int) then (if 0 ≤ u44 ∧ u44 < (5 : Int) then (if 0 ≤ u44 ∧ u44 < (5 : Int) then (some (.inl (((u39.set u44.toNat (IntKind.wrap .u64 ((u39.getD u44.toNat 0) + u43))).set u44.toNat (IntKind.wrap .u64 ((BitVec.ofInt 64 ((u39.set u44.toNat (IntKind.wrap .u64 ((u39.getD u44.toNat 0) + u43))).getD u44.toNat 0) &&& BitVec.ofInt 64 67108863).toNat : Int))), (Int.fdiv ((u39.set u44.toNat (IntKind.wrap .u64 ((u39.getD u44.toNat 0) + u43))).getD u44.toNat 0) (2 ^ 26)), (w64 (u44 + 1))))) else none) else none) else none) else none) else none) else (some (.inr (.out (u39, u43)))))
noncomputable def impl_limbs_carried.s0  (u13 : List Int) (u17 : Int) : Option (((List Int) × Int) ⊕ Ex ((List Int)) ((List Int))) :=
  (bif (decide (u17 < 3)) then ((loopO (fun s => impl_limbs_carried.s1  s.1 s.2.1 s.2.2) (u13, 0, 0)).bind fun o => match o with | .out (u45, u49) => (if 0 ≤ (0 : Int) ∧ (0 : Int) < (5 : Int) then (if 0 ≤ (0 : Int) ∧ (0 : Int) < (5 : Int) then (some (.inl ((u45.set (0 : Int).toNat (IntKind.wrap .u64 ((u45.getD (0 : Int).toNat 0) + (IntKind.wrap .u64 (5 * u49))))), (w64 (u17 + 1))))) else none) else none) | .ret r => (some (.inr (.ret r)))) else (some (.inr (.out u13))))
noncomputable def impl_limbs_carried.f (x0 : List Int) : Option ((List Int)) :=
  ((loopO (fun s => impl_limbs_carried.s0  s.1 s.2) (x0, 0)).bind fun o => match o with | .out u18 => (some u18) | .ret r => (some r))
set_option maxRecDepth 100000 in
set_option maxHeartbeats 0 in
theorem impl_limbs_carried_t (w0 : World) (x0 : List Int) (e0_ : x0.length = 5) (r : (List Int)) (H : impl_limbs_carried.f x0 = some r) :
    Calls Try.prog 130 #[aggI .u64 x0] w0 (Ret (fun v w => v = aggI .u64 r ∧ r.length = 5 ∧ Sat [] w0 w [] [])) := by
  have hs : Sat [] w0 w0 [] [] := Sat.init w0 [] [] (by simp) (by simp) List.nodup_nil (by simp [blks])
  unfold impl_limbs_carried.f at H
  refine enter Try.func130 rfl Try.ntmps130 rfl fun a hk => ?_
  apply wp_seq_k; intro K1 hK1
  apply wp_region_lit
  refine sbxa 1 hs rfl hk rfl rfl rfl e0_ rfl fun b2 k3 w a hk o4 hs => ?_
  refine sala 2 ((Lay.int .u64)) (m := 5) (z := 0) (zc := [.int .u64 0]) hs rfl hk rfl rfl ze99 (by exact ⟨rfl, rfl⟩) rfl rfl rfl fun b5 k6 w a hk o7 hs => ?_
  have lh8 : (List.replicate 5 (0 : Int)).length = 5 := List.length_replicate
  show wpList _ _ _ [] _ _
  refine wpList_nil ?_
  refine hK1 _ _ ?_
  apply wp_seq_k; intro K9 hK9
  apply wp_seq_k; intro K10 hK10
  apply wp_region_lit
  refine sm _ rfl hk rfl rfl rfl fun a hk => ?_
  show wpList _ _ _ [] _ _
  refine wpList_nil ?_
  refine hK10 _ _ ?_
  obtain ⟨o22, h23, HL24⟩ := bind_some H
  clear H
  obtain ⟨R25, hR25⟩ : ∃ R : Act → World → Prop, R = fun a w => ∃ (u18 : List Int) (k19 : Chunk), o22 = .out u18 ∧ Kn [(1, (.pointer (some ⟨b2, 0, none⟩))), (2, (.pointer (some ⟨b5, 0, none⟩)))] 34 a ∧ Sat [] w0 w [] [(1, k19), (2, k6)] ∧ Own (Lay.int .u64) 99 (some ⟨b2, 0, none⟩) 5 u18 k19 ∧ u18.length = 5 := ⟨_, rfl⟩
  refine wp_cutq R25 ?_ ?_
  ·refine wp_block ?_
   obtain ⟨fu27, h23⟩ := loopO_some h23
   obtain ⟨I26, hI26⟩ : ∃ I : Nat → Act → World → Prop, I = fun fu a w => ∃ (u13 : List Int) (u17 : Int) (k14 : Chunk), loopN (fun s => impl_limbs_carried.s0  s.1 s.2) fu (u13, u17) = some o22 ∧ Kn [(1, (.pointer (some ⟨b2, 0, none⟩))), (2, (.pointer (some ⟨b5, 0, none⟩))), (5, (.int .i64 u17))] 34 a ∧ Sat [] w0 w [] [(1, k14), (2, k6)] ∧ Own (Lay.int .u64) 99 (some ⟨b2, 0, none⟩) 5 u13 k14 ∧ u13.length = 5 := ⟨_, rfl⟩
   refine wp_loop_ghost I26 fu27 ?_ ?_
   ·rw [hI26]
    exact ⟨x0, 0, _, h23, (hk.c 1 rfl (hk.c 2 rfl (hk.c 5 rfl hk.k))), (hs.pick [(1, 1), (2, 2)] rfl), o4, e0_⟩
   ·clear h23 hk hs
    intro fu27 a w hI0
    rw [hI26] at hI0
    obtain ⟨u13, u17, k14, hi, hk, hs, o15, lh16⟩ := hI0
    obtain ⟨x28, H, h29⟩ := loop_round hi
    try dsimp only at H
    unfold impl_limbs_carried.s0 at H
    apply wp_seq_k; intro K30 hK30
    apply wp_region_lit
    refine sv (.bool (decide (u17 < 3))) hk rfl rfl rfl fun a hk => ?_
    show wpList _ _ _ [] _ _
    refine wpList_nil ?_
    refine hK30 _ _ ?_
    apply wp_seq_k; intro K31 hK31
    rcases cond_some H with ⟨c32, H⟩ | ⟨c32, H⟩
    ·have hk := hk.lit 6 c32 rfl
     refine cnd_true hk rfl rfl ?_
     refine wp_skip ?_
     refine hK31 _ _ ?_
     have hs := hs.pick [(1, 1), (2, 2)] rfl
     apply wp_seq_k; intro K33 hK33
     refine wp_block ?_
     apply wp_seq_k; intro K34 hK34
     apply wp_region_lit
     refine sa _ rfl hk rfl rfl rfl fun a hk => ?_
     show wpList _ _ _ [] _ _
     refine wpList_nil ?_
     refine hK34 _ _ ?_
     apply wp_seq_k; intro K35 hK35
     apply wp_seq_k; intro K36 hK36
     apply wp_region_lit
     refine sm _ rfl hk rfl rfl rfl fun a hk => ?_
     show wpList _ _ _ [] _ _
     refine wpList_nil ?_
     refine hK36 _ _ ?_
     obtain ⟨o50, h51, HL52⟩ := bind_some H
     clear H
     obtain ⟨R53, hR53⟩ : ∃ R : Act → World → Prop, R = fun a w => ∃ (u45 : List Int) (u49 : Int) (k46 : Chunk), o50 = .out (u45, u49) ∧ Kn [(1, (.pointer (some ⟨b2, 0, none⟩))), (2, (.pointer (some ⟨b5, 0, none⟩))), (3, (.int .u64 u49)), (5, (.int .i64 u17))] 34 a ∧ Sat [] w0 w [] [(1, k46), (2, k6)] ∧ Own (Lay.int .u64) 99 (some ⟨b2, 0, none⟩) 5 u45 k46 ∧ u45.length = 5 := ⟨_, rfl⟩
     refine wp_cutq R53 ?_ ?_
     ·refine wp_block ?_
      obtain ⟨fu55, h51⟩ := loopO_some h51
      obtain ⟨I54, hI54⟩ : ∃ I : Nat → Act → World → Prop, I = fun fu a w => ∃ (u39 : List Int) (u43 : Int) (u44 : Int) (k40 : Chunk), loopN (fun s => impl_limbs_carried.s1  s.1 s.2.1 s.2.2) fu (u39, u43, u44) = some o50 ∧ Kn [(1, (.pointer (some ⟨b2, 0, none⟩))), (2, (.pointer (some ⟨b5, 0, none⟩))), (3, (.int .u64 u43)), (5, (.int .i64 u17)), (7, (.int .i64 u44))] 34 a ∧ Sat [] w0 w [] [(1, k40), (2, k6)] ∧ Own (Lay.int .u64) 99 (some ⟨b2, 0, none⟩) 5 u39 k40 ∧ u39.length = 5 := ⟨_, rfl⟩
      refine wp_loop_ghost I54 fu55 ?_ ?_
      ·rw [hI54]
       exact ⟨u13, 0, 0, _, h51, (hk.c 1 rfl (hk.c 2 rfl (hk.c 3 rfl (hk.c 5 rfl (hk.c 7 rfl hk.k))))), (hs.pick [(1, 1), (2, 2)] rfl), o15, lh16⟩
      ·clear h51 hk hs
       intro fu55 a w hI0
       rw [hI54] at hI0
       obtain ⟨u39, u43, u44, k40, hi, hk, hs, o41, lh42⟩ := hI0
       obtain ⟨x56, H, h57⟩ := loop_round hi
       try dsimp only at H
       unfold impl_limbs_carried.s1 at H
       apply wp_seq_k; intro K58 hK58
       apply wp_region_lit
       refine sv (.bool (decide (u44 < 5))) hk rfl rfl rfl fun a hk => ?_
       show wpList _ _ _ [] _ _
       refine wpList_nil ?_
       refine hK58 _ _ ?_
       apply wp_seq_k; intro K59 hK59
       rcases cond_some H with ⟨c60, H⟩ | ⟨c60, H⟩
       ·have hk := hk.lit 8 c60 rfl
        refine cnd_true hk rfl rfl ?_
        refine wp_skip ?_
        refine hK59 _ _ ?_
        have hs := hs.pick [(1, 1), (2, 2)] rfl
        apply wp_seq_k; intro K61 hK61
        refine wp_block ?_
        apply wp_seq_k; intro K62 hK62
        apply wp_region_lit
        refine sm _ rfl hk rfl rfl rfl fun a hk => ?_
        refine sa _ rfl hk rfl rfl rfl fun a hk => ?_
        show wpList _ _ _ [] _ _
        refine wpList_nil ?_
        refine hK62 _ _ ?_
        apply wp_seq_k; intro K63 hK63
        apply wp_region_lit
        refine sm _ rfl hk rfl rfl rfl fun a hk => ?_
        rcases ite_some H with ⟨c64, H⟩ | ⟨_, H⟩
        rotate_left
        ·cases H
        obtain ⟨b65, q66, hAc64⟩ := (o41.view).some_ u44 c64.1 (by rw [lh42]; exact c64.2)
        refine sia rfl hk rfl rfl rfl rfl un99 sz97 c64.1 c64.2 hAc64 fun a hk => ?_
        obtain ⟨_, rfl, e67⟩ := (o41.view).at_ 0 u44 c64.1 (by rw [lh42]; exact c64.2)
        refine sl (v := (.int .u64 (u39.getD u44.toNat 0))) rfl hk rfl rfl rfl ag97 ((e67 0 _ rfl).cell (hs.hasG (k := 1) rfl)) fun a hk => ?_
        refine sm _ rfl hk rfl rfl rfl fun a hk => ?_
        refine sv (.int .u64 (IntKind.wrap .u64 ((u39.getD u44.toNat 0) + u43))) hk rfl rfl rfl fun a hk => ?_
        rcases ite_some H with ⟨c68, H⟩ | ⟨_, H⟩
        rotate_left
        ·cases H
        obtain ⟨b69, q70, hAc68⟩ := (o41.view).some_ u44 c68.1 (by rw [lh42]; exact c68.2)
        refine sia rfl hk rfl rfl rfl rfl un99 sz97 c68.1 c68.2 hAc68 fun a hk => ?_
        refine so (j := 0) 1 0 (IntKind.wrap .u64 ((u39.getD u44.toNat 0) + u43)) hs rfl o41 c68.1 (by rw [lh42]; exact c68.2) rfl hk rfl rfl rfl rfl rfl sz97 (by simp [Value.cells, Value.oneCell']) (Nat.le_of_ble_eq_true rfl) (fun _ _ h => ⟨by rw [h.1]; rfl, h.2⟩) fun k71 w a hk o72 hs => ?_
        have lh73 : (u39.set u44.toNat (IntKind.wrap .u64 ((u39.getD u44.toNat 0) + u43))).length = 5 := by rw [List.length_set]; exact lh42
        show wpList _ _ _ [] _ _
        refine wpList_nil ?_
        refine hK63 _ _ ?_
        apply wp_seq_k; intro K74 hK74
        apply wp_region_lit
        refine sm _ rfl hk rfl rfl rfl fun a hk => ?_
        rcases ite_some H with ⟨c75, H⟩ | ⟨_, H⟩
        rotate_left
        ·cases H
        obtain ⟨b76, q77, hAc75⟩ := (o72.view).some_ u44 c75.1 (by rw [lh73]; exact c75.2)
        refine sia rfl hk rfl rfl rfl rfl un99 sz97 c75.1 c75.2 hAc75 fun a hk => ?_
        obtain ⟨_, rfl, e78⟩ := (o72.view).at_ 0 u44 c75.1 (by rw [lh73]; exact c75.2)
        refine sl (v := (.int .u64 ((u39.set u44.toNat (IntKind.wrap .u64 ((u39.getD u44.toNat 0) + u43))).getD u44.toNat 0))) rfl hk rfl rfl rfl ag97 ((e78 0 _ rfl).cell (hs.hasG (k := 1) rfl)) fun a hk => ?_
        refine sv (.int .u64 (Int.fdiv ((u39.set u44.toNat (IntKind.wrap .u64 ((u39.getD u44.toNat 0) + u43))).getD u44.toNat 0) (2 ^ 26))) hk rfl rfl rfl fun a hk => ?_
        refine sa _ rfl hk rfl rfl rfl fun a hk => ?_
        show wpList _ _ _ [] _ _
        refine wpList_nil ?_
        refine hK74 _ _ ?_
        apply wp_region_lit
        refine sm _ rfl hk rfl rfl rfl fun a hk => ?_
        rcases ite_some H with ⟨c79, H⟩ | ⟨_, H⟩
        rotate_left
        ·cases H
        obtain ⟨b80, q81, hAc79⟩ := (o72.view).some_ u44 c79.1 (by rw [lh73]; exact c79.2)
        refine sia rfl hk rfl rfl rfl rfl un99 sz97 c79.1 c79.2 hAc79 fun a hk => ?_
        obtain ⟨_, rfl, e82⟩ := (o72.view).at_ 0 u44 c79.1 (by rw [lh73]; exact c79.2)
        refine sl (v := (.int .u64 ((u39.set u44.toNat (IntKind.wrap .u64 ((u39.getD u44.toNat 0) + u43))).getD u44.toNat 0))) rfl hk rfl rfl rfl ag97 ((e82 0 _ rfl).cell (hs.hasG (k := 1) rfl)) fun a hk => ?_
        refine sv (.int .u64 (IntKind.wrap .u64 ((BitVec.ofInt 64 ((u39.set u44.toNat (IntKind.wrap .u64 ((u39.getD u44.toNat 0) + u43))).getD u44.toNat 0) &&& BitVec.ofInt 64 67108863).toNat : Int))) hk rfl rfl rfl fun a hk => ?_
        rcases ite_some H with ⟨c83, H⟩ | ⟨_, H⟩
        rotate_left
        ·cases H
        obtain ⟨b84, q85, hAc83⟩ := (o72.view).some_ u44 c83.1 (by rw [lh73]; exact c83.2)
        refine sia rfl hk rfl rfl rfl rfl un99 sz97 c83.1 c83.2 hAc83 fun a hk => ?_
        refine so (j := 0) 1 0 (IntKind.wrap .u64 ((BitVec.ofInt 64 ((u39.set u44.toNat (IntKind.wrap .u64 ((u39.getD u44.toNat 0) + u43))).getD u44.toNat 0) &&& BitVec.ofInt 64 67108863).toNat : Int)) hs rfl o72 c83.1 (by rw [lh73]; exact c83.2) rfl hk rfl rfl rfl rfl rfl sz97 (by simp [Value.cells, Value.oneCell']) (Nat.le_of_ble_eq_true rfl) (fun _ _ h => ⟨by rw [h.1]; rfl, h.2⟩) fun k86 w a hk o87 hs => ?_
        have lh88 : ((u39.set u44.toNat (IntKind.wrap .u64 ((u39.getD u44.toNat 0) + u43))).set u44.toNat (IntKind.wrap .u64 ((BitVec.ofInt 64 ((u39.set u44.toNat (IntKind.wrap .u64 ((u39.getD u44.toNat 0) + u43))).getD u44.toNat 0) &&& BitVec.ofInt 64 67108863).toNat : Int))).length = 5 := by rw [List.length_set]; exact lh73
        show wpList _ _ _ [] _ _
        refine wpList_nil ?_
        refine hK61 _ _ ?_
        have hs := hs.pick [(1, 1), (2, 2)] rfl
        apply wp_region_lit
        refine sv (.int .i64 (w64 (u44 + 1))) hk rfl rfl rfl fun a hk => ?_
        refine sm _ rfl hk rfl rfl rfl fun a hk => ?_
        show wpList _ _ _ [] _ _
        refine wpList_nil ?_
        obtain rfl := Option.some.inj H
        obtain ⟨m89, hmm89, h57⟩ := h57
        show ∃ n', n' < _ ∧ I54 n' _ _
        refine ⟨m89, hmm89, ?_⟩
        rw [hI54]
        exact ⟨((u39.set u44.toNat (IntKind.wrap .u64 ((u39.getD u44.toNat 0) + u43))).set u44.toNat (IntKind.wrap .u64 ((BitVec.ofInt 64 ((u39.set u44.toNat (IntKind.wrap .u64 ((u39.getD u44.toNat 0) + u43))).getD u44.toNat 0) &&& BitVec.ofInt 64 67108863).toNat : Int))), (Int.fdiv ((u39.set u44.toNat (IntKind.wrap .u64 ((u39.getD u44.toNat 0) + u43))).getD u44.toNat 0) (2 ^ 26)), (w64 (u44 + 1)), _, h57, (hk.c 1 rfl (hk.c 2 rfl (hk.c 3 rfl (hk.c 5 rfl (hk.c 7 rfl hk.k))))), (hs.pick [(1, 1), (2, 2)] rfl), o87, lh88⟩
       ·have hk := hk.lit 8 c60 rfl
        refine cnd_false hk rfl rfl ?_
        refine wp_exit ?_
        obtain rfl := Option.some.inj H
        show R53 _ _
        rw [hR53]
        exact ⟨u39, u43, _, h57.symm, (hk.c 1 rfl (hk.c 2 rfl (hk.c 3 rfl (hk.c 5 rfl hk.k)))), (hs.pick [(1, 1), (2, 2)] rfl), o41, lh42⟩
     ·intro a w hR0
      rw [hR53] at hR0
      obtain ⟨u45, u49, k46, rfl, hk, hs, o47, lh48⟩ := hR0
      have H := HL52
      try dsimp only at H
      refine hK35 _ _ ?_
      apply wp_region_lit
      rcases ite_some H with ⟨c90, H⟩ | ⟨_, H⟩
      rotate_left
      ·cases H
      obtain ⟨b91, q92, hAc90⟩ := (o47.view).some_ (0 : Int) c90.1 (by rw [lh48]; exact c90.2)
      refine sia rfl hk rfl rfl rfl rfl un99 sz97 c90.1 c90.2 hAc90 fun a hk => ?_
      obtain ⟨_, rfl, e93⟩ := (o47.view).at_ 0 (0 : Int) c90.1 (by rw [lh48]; exact c90.2)
      refine sl (v := (.int .u64 (u45.getD (0 : Int).toNat 0))) rfl hk rfl rfl rfl ag97 ((e93 0 _ rfl).cell (hs.hasG (k := 1) rfl)) fun a hk => ?_
      refine sm _ rfl hk rfl rfl rfl fun a hk => ?_
      refine sv (.int .u64 (IntKind.wrap .u64 (5 * u49))) hk rfl rfl rfl fun a hk => ?_
      refine sv (.int .u64 (IntKind.wrap .u64 ((u45.getD (0 : Int).toNat 0) + (IntKind.wrap .u64 (5 * u49))))) hk rfl rfl rfl fun a hk => ?_
      rcases ite_some H with ⟨c94, H⟩ | ⟨_, H⟩
      rotate_left
      ·cases H
      obtain ⟨b95, q96, hAc94⟩ := (o47.view).some_ (0 : Int) c94.1 (by rw [lh48]; exact c94.2)
      refine sia rfl hk rfl rfl rfl rfl un99 sz97 c94.1 c94.2 hAc94 fun a hk => ?_
      refine so (j := 0) 1 0 (IntKind.wrap .u64 ((u45.getD (0 : Int).toNat 0) + (IntKind.wrap .u64 (5 * u49)))) hs rfl o47 c94.1 (by rw [lh48]; exact c94.2) rfl hk rfl rfl rfl rfl rfl sz97 (by simp [Value.cells, Value.oneCell']) (Nat.le_of_ble_eq_true rfl) (fun _ _ h => ⟨by rw [h.1]; rfl, h.2⟩) fun k97 w a hk o98 hs => ?_
      have lh99 : (u45.set (0 : Int).toNat (IntKind.wrap .u64 ((u45.getD (0 : Int).toNat 0) + (IntKind.wrap .u64 (5 * u49))))).length = 5 := by rw [List.length_set]; exact lh48
      show wpList _ _ _ [] _ _
      refine wpList_nil ?_
      refine hK33 _ _ ?_
      have hs := hs.pick [(1, 1), (2, 2)] rfl
      apply wp_region_lit
      refine sv (.int .i64 (w64 (u17 + 1))) hk rfl rfl rfl fun a hk => ?_
      refine sm _ rfl hk rfl rfl rfl fun a hk => ?_
      show wpList _ _ _ [] _ _
      refine wpList_nil ?_
      obtain rfl := Option.some.inj H
      obtain ⟨m100, hmm100, h29⟩ := h29
      show ∃ n', n' < _ ∧ I26 n' _ _
      refine ⟨m100, hmm100, ?_⟩
      rw [hI26]
      exact ⟨(u45.set (0 : Int).toNat (IntKind.wrap .u64 ((u45.getD (0 : Int).toNat 0) + (IntKind.wrap .u64 (5 * u49))))), (w64 (u17 + 1)), _, h29, (hk.c 1 rfl (hk.c 2 rfl (hk.c 5 rfl hk.k))), (hs.pick [(1, 1), (2, 2)] rfl), o98, lh99⟩
    ·have hk := hk.lit 6 c32 rfl
     refine cnd_false hk rfl rfl ?_
     refine wp_exit ?_
     obtain rfl := Option.some.inj H
     show R25 _ _
     rw [hR25]
     exact ⟨u13, _, h29.symm, (hk.c 1 rfl (hk.c 2 rfl hk.k)), (hs.pick [(1, 1), (2, 2)] rfl), o15, lh16⟩
  ·intro a w hR0
   rw [hR25] at hR0
   obtain ⟨u18, k19, rfl, hk, hs, o20, lh21⟩ := hR0
   have H := HL24
   try dsimp only at H
   refine hK9 _ _ ?_
   apply wp_seq_k; intro K101 hK101
   apply wp_region_lit
   refine slna (k := 1) hs rfl o20 lh21 rfl hk rfl rfl rfl ag99 sz99 fun a hk => ?_
   refine sswa 2 u18 hs rfl o7 lh8 lh21 rfl rfl hk rfl rfl rfl rfl sz99 fun k102 w a hk o103 hs => ?_
   show wpList _ _ _ [] _ _
   refine wpList_nil ?_
   refine hK101 _ _ ?_
   have hs := hs.pick [(2, 2)] rfl
   refine wp_ret ?_
   obtain rfl := Option.some.inj H
   exact fin hk _ [(aggI .u64 u18)] rfl ⟨⟨_, rfl, run_loadA ag99 sz99 o103 lh21 hs (q := 2) rfl⟩, trivial⟩ ⟨rfl, lh21, (hs.pick [] rfl).dnil⟩

end Go.Proofs.Yteklgnhfgdhdiaa
