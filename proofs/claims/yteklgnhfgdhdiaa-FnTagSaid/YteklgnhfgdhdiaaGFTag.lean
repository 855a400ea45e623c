/- The functions that FnTag reaches: for each a model and the walk that shows that the Go code comes to it. -/
import Derived.Test.YteklgnhfgdhdiaaT
namespace Go.Proofs.Yteklgnhfgdhdiaa
open Go Go.Z Go.Proofs Go.MuLone Go.ChangeShapes Go.WideShapes Go.ChangeAt Go.RowKit
set_option linter.unusedVariables false
set_option linter.unusedSimpArgs false
noncomputable def spec_l00Source.f (l0 : List Int) : Option (S_l00Src) :=
  (some (⟨l0, 0, (Int.tmod (l0.length : Int) 1000)⟩ : S_l00Src))
set_option maxRecDepth 100000 in
set_option maxHeartbeats 0 in
theorem spec_l00Source_t (w0 : World) (A0_ : Option Addr) (p0_ : Nat) (l0 : List Int) (k0_ : Chunk) (v0_ : View (Lay.int .u8) A0_ p0_ l0 k0_) (w0_ : Has w0 k0_) (r : S_l00Src) (H : spec_l00Source.f l0 = some r) :
    Calls Try.prog 43 #[.slice A0_ l0.length p0_] w0 (Ret (fun v w => ∃ (bb0 : Nat), ∃ (A0 : Option Addr) (p0 : Nat), ∃ (kS : Chunk), v = .pointer (some ⟨bb0, 0, none⟩) ∧ View (Lay.int .u8) A0 p0 r.code (k0_ ++ kS) ∧ Sat [] w0 w [] [(0, [(bb0, .cells #[.slice A0 r.code.length p0, .int .i64 r.at_, .int .i64 r.seed] 84 (0, 0))]), (1, kS)])) := by
  have hs : Sat [] w0 w0 [(1, k0_)] [] := Sat.init w0 [(1, k0_)] [] (by simp only [List.mem_cons, List.not_mem_nil, or_false]; rintro x (rfl) <;> assumption) (by simp) List.nodup_nil (by simp [blks])
  unfold spec_l00Source.f at H
  refine enter Try.func43 rfl Try.ntmps43 rfl fun a hk => ?_
  apply wp_seq_k; intro K1 hK1
  apply wp_region_lit
  refine sa _ rfl hk rfl rfl rfl fun a hk => ?_
  show wpList _ _ _ [] _ _
  refine wpList_nil ?_
  refine hK1 _ _ ?_
  apply wp_seq_k; intro K2 hK2
  apply wp_region_lit
  refine sm _ rfl hk rfl rfl rfl fun a hk => ?_
  refine sm _ rfl hk rfl rfl rfl fun a hk => ?_
  refine sle rfl hk rfl rfl rfl un22 fun a hk => ?_
  refine sv (.int .i64 (Int.tmod (l0.length : Int) 1000)) hk rfl rfl rfl fun a hk => ?_
  refine sbd (pv := [(0, (.slice A0_ l0.length p0_)), (2, (.int .i64 (Int.tmod (l0.length : Int) 1000)))]) rfl hk rfl rfl rfl (bd84_0 A0_ l0.length p0_ (Int.tmod (l0.length : Int) 1000)) fun a hk => ?_
  refine sbx 2 hs rfl hk rfl rfl rfl rfl fun b3 w a hk hs => ?_
  refine sa _ rfl hk rfl rfl rfl fun a hk => ?_
  show wpList _ _ _ [] _ _
  refine wpList_nil ?_
  refine hK2 _ _ ?_
  refine wp_ret ?_
  obtain rfl := Option.some.inj H
  exact fin hk _ [(.pointer (some ⟨b3, 0, none⟩))] rfl ⟨rfl, trivial⟩ ⟨b3, A0_, p0_, _, rfl, (v0_).sub (Sub.l _ (Sub.refl _)), ((hs.addNil 3000).pick [(0, 2), (1, 3000)] rfl).dnil⟩

noncomputable def spec_l00Src_byte.f (x0 : S_l00Src) : Option (Int × Int × Int) :=
  (bif (decide ((w64 (x0.at_ + 1)) ≤ (x0.code.length : Int))) then (if 0 ≤ (w64 ((w64 (x0.at_ + 1)) - 1)) ∧ (w64 ((w64 (x0.at_ + 1)) - 1)) < (x0.code.length : Int) then (if 0 ≤ (w64 ((w64 (x0.at_ + 1)) - 1)) ∧ (w64 ((w64 (x0.at_ + 1)) - 1)) < (x0.code.length : Int) then (some ((IntKind.wrap .i64 (x0.code.getD (w64 ((w64 (x0.at_ + 1)) - 1)).toNat 0)), (w64 (x0.at_ + 1)), (Int.tmod (w64 ((w64 ((w64 (x0.seed * 31)) + (IntKind.wrap .i64 (x0.code.getD (w64 ((w64 (x0.at_ + 1)) - 1)).toNat 0)))) + 7)) 2147483648))) else none) else none) else (bif (decide ((w64 (x0.at_ + 1)) > 3000)) then (some (0, (w64 (x0.at_ + 1)), x0.seed)) else (some ((Int.tmod (IntKind.wrap .i64 (Int.tdiv (Int.tmod (w64 ((w64 (x0.seed * 1103515245)) + 12345)) 2147483648) 65536)) 256), (w64 (x0.at_ + 1)), (Int.tmod (w64 ((w64 (x0.seed * 1103515245)) + 12345)) 2147483648)))))
set_option maxRecDepth 100000 in
set_option maxHeartbeats 0 in
theorem spec_l00Src_byte_t (w0 : World) (b0_ : Nat) (x0 : S_l00Src) (A0_0 : Option Addr) (p0_0 : Nat) (k0_0 : Chunk) (v0_0 : View (Lay.int .u8) A0_0 p0_0 x0.code k0_0) (w0_0 : Has w0 k0_0) (hs0 : Sat (blks [(1, [(b0_, .cells #[.slice A0_0 x0.code.length p0_0, .int .i64 x0.at_, .int .i64 x0.seed] 84 (0, 0))])]) w0 w0 [(2, k0_0)] [(1, [(b0_, .cells #[.slice A0_0 x0.code.length p0_0, .int .i64 x0.at_, .int .i64 x0.seed] 84 (0, 0))])]) (r : Int × Int × Int) (H : spec_l00Src_byte.f x0 = some r) :
    Calls Try.prog 119 #[.pointer (some ⟨b0_, 0, none⟩)] w0 (Ret (fun v w => v = .int .i64 r.1 ∧ Sat (blks [(1, [(b0_, .cells #[.slice A0_0 x0.code.length p0_0, .int .i64 x0.at_, .int .i64 x0.seed] 84 (0, 0))])]) w0 w [] [(0, [(b0_, .cells #[.slice A0_0 x0.code.length p0_0, .int .i64 r.2.1, .int .i64 r.2.2] 84 (0, 0))])])) := by
  have hs := hs0
  unfold spec_l00Src_byte.f at H
  refine enter Try.func119 rfl Try.ntmps119 rfl fun a hk => ?_
  apply wp_seq_k; intro K1 hK1
  apply wp_region_lit
  refine sa _ rfl hk rfl rfl rfl fun a hk => ?_
  show wpList _ _ _ [] _ _
  refine wpList_nil ?_
  refine hK1 _ _ ?_
  apply wp_seq_k; intro K2 hK2
  apply wp_region_lit
  refine sm _ rfl hk rfl rfl rfl fun a hk => ?_
  refine snk rfl hk rfl rfl rfl fun a hk => ?_
  refine sf ⟨b0_, 1, none⟩ rfl hk rfl rfl rfl fd84_1 rfl fun a hk => ?_
  refine sl rfl hk rfl rfl rfl ag3 (box_cell hs (k := 1) rfl rfl) fun a hk => ?_
  refine sv (.int .i64 (w64 (x0.at_ + 1))) hk rfl rfl rfl fun a hk => ?_
  refine snk rfl hk rfl rfl rfl fun a hk => ?_
  refine sf ⟨b0_, 1, none⟩ rfl hk rfl rfl rfl fd84_1 rfl fun a hk => ?_
  refine ssx (cs' := #[.slice A0_0 x0.code.length p0_0, .int .i64 (w64 (x0.at_ + 1)), .int .i64 x0.seed]) 1 hs rfl rfl hk rfl rfl rfl rfl sz3 rfl rfl rfl rfl fun w a hk hs => ?_
  show wpList _ _ _ [] _ _
  refine wpList_nil ?_
  refine hK2 _ _ ?_
  apply wp_seq_k; intro K3 hK3
  apply wp_seq_k; intro K4 hK4
  refine wp_region_tree (.q 0 (.q 1 (.q 2 (.q 3 (.alt 4 (.alt 5 (.alt 6 (.alt 7 (.alt 8 (.alt 9 .done .stop) .stop) .stop) .stop) .stop) .stop))))) mo (by kernel_rfl) (hs.pick [(1, 1)] rfl) fun _ => ?_
  have hs := hs.drew
  refine tqst (.pointer (some ⟨b0_, 0, none⟩)) hk rfl rfl rfl rfl (fun w hs => sm _ rfl hk rfl rfl rfl fun a hk => qe hk) fun a hk => ?_
  refine tqst (.pointer (some ⟨b0_, 0, none⟩)) hk rfl rfl rfl rfl (fun w hs => snk rfl hk rfl rfl rfl fun a hk => qe hk) fun a hk => ?_
  refine tqst (.pointer (some ⟨b0_, 1, none⟩)) hk rfl rfl rfl rfl (fun w hs => sf ⟨b0_, 1, none⟩ rfl hk rfl rfl rfl fd84_1 rfl fun a hk => qe hk) fun a hk => ?_
  refine tqst (.int .i64 (w64 (x0.at_ + 1))) hk rfl rfl rfl rfl (fun w hs => sl rfl hk rfl rfl rfl ag3 (box_cell hs (k := 1) rfl rfl) fun a hk => qe hk) fun a hk => ?_
  refine tsst hk rfl rfl (fun K_r5_4 hK_r5_4 w hF => ?_) wt_stop
  have hs := hs.f hF
  refine sm _ rfl hk rfl rfl rfl fun a hk => ?_
  refine se (hs.pick [(1, 1)] rfl) hk (hK_r5_4 _ _ ?_)
  refine tsst hk rfl rfl (fun K_r5_5 hK_r5_5 w hF => ?_) wt_stop
  have hs := hs.f hF
  refine snk rfl hk rfl rfl rfl fun a hk => ?_
  refine se (hs.pick [(1, 1)] rfl) hk (hK_r5_5 _ _ ?_)
  refine tsst hk rfl rfl (fun K_r5_6 hK_r5_6 w hF => ?_) wt_stop
  have hs := hs.f hF
  refine sf ⟨b0_, 0, none⟩ rfl hk rfl rfl rfl fd84_0 rfl fun a hk => ?_
  refine se (hs.pick [(1, 1)] rfl) hk (hK_r5_6 _ _ ?_)
  refine tsst hk rfl rfl (fun K_r5_7 hK_r5_7 w hF => ?_) wt_stop
  have hs := hs.f hF
  refine sl rfl hk rfl rfl rfl ag22 (box_cell hs (k := 1) rfl rfl) fun a hk => ?_
  refine se (hs.pick [(1, 1)] rfl) hk (hK_r5_7 _ _ ?_)
  refine tsst hk rfl rfl (fun K_r5_8 hK_r5_8 w hF => ?_) wt_stop
  have hs := hs.f hF
  refine sle rfl hk rfl rfl rfl un22 fun a hk => ?_
  refine se (hs.pick [(1, 1)] rfl) hk (hK_r5_8 _ _ ?_)
  refine tsst hk rfl rfl (fun K_r5_9 hK_r5_9 w hF => ?_) wt_stop
  have hs := hs.f hF
  refine sv (.bool (decide ((w64 (x0.at_ + 1)) ≤ (x0.code.length : Int)))) hk rfl rfl rfl fun a hk => ?_
  refine se (hs.pick [(1, 1)] rfl) hk (hK_r5_9 _ _ ?_)
  refine wtl_nil fun w hF _ => ?_
  have hs := hs.f hF
  refine hK4 _ _ ?_
  rcases cond_some H with ⟨c6, H⟩ | ⟨c6, H⟩
  ·have hk := hk.lit 19 c6 rfl
   refine cnd_true hk rfl rfl ?_
   apply wp_seq_k; intro K7 hK7
   refine wp_region_tree2 21 (.q 0 (.q 1 (.q 2 (.q 3 (.q 4 (.q 5 (.q 6 (.q 7 (.q 8 (.q 9 (.alt 10 (.alt 11 (.alt 12 (.alt 13 (.alt 14 (.alt 15 (.alt 16 (.alt 17 (.alt 18 (.alt 19 (.alt 20 (.alt 21 (.alt 22 (.alt 23 .done .stop) .stop) .stop) .stop) .stop) .stop) .stop) .stop) .stop) .stop) .stop) .stop) .stop) .stop))))))))))) mo (by kernel_rfl) (hs.pick [(1, 1)] rfl) (fun w hs => hs.pick [] rfl) fun _ => ?_
   have hs := hs.drew
   refine tq2 (.pointer (some ⟨b0_, 0, none⟩)) hk rfl rfl rfl rfl (fun w hs => sm _ rfl hk rfl rfl rfl fun a hk => qe hk) fun a hk => ?_
   refine tq2 (.pointer (some ⟨b0_, 0, none⟩)) hk rfl rfl rfl rfl (fun w hs => sm _ rfl hk rfl rfl rfl fun a hk => qe hk) fun a hk => ?_
   refine tq2 (.pointer (some ⟨b0_, 0, none⟩)) hk rfl rfl rfl rfl (fun w hs => snk rfl hk rfl rfl rfl fun a hk => qe hk) fun a hk => ?_
   refine tq2 (.pointer (some ⟨b0_, 2, none⟩)) hk rfl rfl rfl rfl (fun w hs => sf ⟨b0_, 2, none⟩ rfl hk rfl rfl rfl fd84_2 rfl fun a hk => qe hk) fun a hk => ?_
   refine tq1 (hdep := by kernel_rfl) (.int .i64 x0.seed) hk rfl rfl rfl rfl (fun w hs => sl rfl hk rfl rfl rfl ag3 (box_cell hs (k := 1) rfl rfl) fun a hk => qe hk) fun a hk => ?_
   refine tq2 (.int .i64 (w64 (x0.seed * 31))) hk rfl rfl rfl rfl (fun w hs => sv (.int .i64 (w64 (x0.seed * 31))) hk rfl rfl rfl fun a hk => qe hk) fun a hk => ?_
   refine tq2 (.pointer (some ⟨b0_, 0, none⟩)) hk rfl rfl rfl rfl (fun w hs => sm _ rfl hk rfl rfl rfl fun a hk => qe hk) fun a hk => ?_
   refine tq2 (.pointer (some ⟨b0_, 0, none⟩)) hk rfl rfl rfl rfl (fun w hs => snk rfl hk rfl rfl rfl fun a hk => qe hk) fun a hk => ?_
   refine tq2 (.pointer (some ⟨b0_, 0, none⟩)) hk rfl rfl rfl rfl (fun w hs => sf ⟨b0_, 0, none⟩ rfl hk rfl rfl rfl fd84_0 rfl fun a hk => qe hk) fun a hk => ?_
   refine tq1 (hdep := by kernel_rfl) (.slice A0_0 x0.code.length p0_0) hk rfl rfl rfl rfl (fun w hs => sl rfl hk rfl rfl rfl ag22 (box_cell hs (k := 1) rfl rfl) fun a hk => qe hk) fun a hk => ?_
   refine ta1 hk rfl rfl rfl (fun K_r8_10 hK_r8_10 w hF => ?_) wt2_stop
   have hs := hs.f hF
   refine sm _ rfl hk rfl rfl rfl fun a hk => ?_
   refine se (hs.pick [(1, 1)] rfl) hk (hK_r8_10 _ _ ?_)
   refine ta1 hk rfl rfl rfl (fun K_r8_11 hK_r8_11 w hF => ?_) wt2_stop
   have hs := hs.f hF
   refine snk rfl hk rfl rfl rfl fun a hk => ?_
   refine se (hs.pick [(1, 1)] rfl) hk (hK_r8_11 _ _ ?_)
   refine ta1 hk rfl rfl rfl (fun K_r8_12 hK_r8_12 w hF => ?_) wt2_stop
   have hs := hs.f hF
   refine sf ⟨b0_, 1, none⟩ rfl hk rfl rfl rfl fd84_1 rfl fun a hk => ?_
   refine se (hs.pick [(1, 1)] rfl) hk (hK_r8_12 _ _ ?_)
   refine ta1 hk rfl rfl rfl (fun K_r8_13 hK_r8_13 w hF => ?_) wt2_stop
   have hs := hs.f hF
   refine sl rfl hk rfl rfl rfl ag3 (box_cell hs (k := 1) rfl rfl) fun a hk => ?_
   refine se (hs.pick [(1, 1)] rfl) hk (hK_r8_13 _ _ ?_)
   refine ta1 hk rfl rfl rfl (fun K_r8_14 hK_r8_14 w hF => ?_) wt2_stop
   have hs := hs.f hF
   refine sv (.int .i64 (w64 ((w64 (x0.at_ + 1)) - 1))) hk rfl rfl rfl fun a hk => ?_
   refine se (hs.pick [(1, 1)] rfl) hk (hK_r8_14 _ _ ?_)
   refine ta1 hk rfl rfl rfl (fun K_r8_15 hK_r8_15 w hF => ?_) wt2_stop
   have hs := hs.f hF
   rcases ite_some H with ⟨c9, H⟩ | ⟨_, H⟩
   rotate_left
   ·cases H
   obtain ⟨b10, q11, hAc9⟩ := (v0_0).some_ (w64 ((w64 (x0.at_ + 1)) - 1)) c9.1 c9.2
   refine si rfl hk rfl rfl rfl rfl un22 sz5 c9.1 c9.2 hAc9 fun a hk => ?_
   refine se (hs.pick [(1, 1)] rfl) hk (hK_r8_15 _ _ ?_)
   refine ta1 hk rfl rfl rfl (fun K_r8_16 hK_r8_16 w hF => ?_) wt2_stop
   have hs := hs.f hF
   obtain ⟨_, rfl, e12⟩ := (v0_0).at_ 0 (w64 ((w64 (x0.at_ + 1)) - 1)) c9.1 c9.2
   refine sl (v := (.int .u8 (x0.code.getD (w64 ((w64 (x0.at_ + 1)) - 1)).toNat 0))) rfl hk rfl rfl rfl ag5 ((e12 0 _ rfl).cell (hs.hasD (k := 2) rfl)) fun a hk => ?_
   refine se (hs.pick [(1, 1)] rfl) hk (hK_r8_16 _ _ ?_)
   refine ta1 hk rfl rfl rfl (fun K_r8_17 hK_r8_17 w hF => ?_) wt2_stop
   have hs := hs.f hF
   refine scn rfl hk rfl rfl rfl un3 un5 fun a hk => ?_
   refine se (hs.pick [(1, 1)] rfl) hk (hK_r8_17 _ _ ?_)
   refine ta1 hk rfl rfl rfl (fun K_r8_18 hK_r8_18 w hF => ?_) wt2_stop
   have hs := hs.f hF
   refine sv (.int .i64 (w64 ((w64 (x0.seed * 31)) + (IntKind.wrap .i64 (x0.code.getD (w64 ((w64 (x0.at_ + 1)) - 1)).toNat 0))))) hk rfl rfl rfl fun a hk => ?_
   refine se (hs.pick [(1, 1)] rfl) hk (hK_r8_18 _ _ ?_)
   refine ta1 hk rfl rfl rfl (fun K_r8_19 hK_r8_19 w hF => ?_) wt2_stop
   have hs := hs.f hF
   refine sv (.int .i64 (w64 ((w64 ((w64 (x0.seed * 31)) + (IntKind.wrap .i64 (x0.code.getD (w64 ((w64 (x0.at_ + 1)) - 1)).toNat 0)))) + 7))) hk rfl rfl rfl fun a hk => ?_
   refine se (hs.pick [(1, 1)] rfl) hk (hK_r8_19 _ _ ?_)
   refine ta1 hk rfl rfl rfl (fun K_r8_20 hK_r8_20 w hF => ?_) wt2_stop
   have hs := hs.f hF
   refine sv (.int .i64 (Int.tmod (w64 ((w64 ((w64 (x0.seed * 31)) + (IntKind.wrap .i64 (x0.code.getD (w64 ((w64 (x0.at_ + 1)) - 1)).toNat 0)))) + 7)) 2147483648)) hk rfl rfl rfl fun a hk => ?_
   refine se (hs.pick [(1, 1)] rfl) hk (hK_r8_20 _ _ ?_)
   refine tam hk rfl rfl rfl (fun K_r8_21 hK_r8_21 w hF => ?_) wt2_stop
   have hs := hs.f hF
   refine snk rfl hk rfl rfl rfl fun a hk => ?_
   refine se (hs.pick [] rfl) hk (hK_r8_21 _ _ ?_)
   refine ta2 hk rfl rfl (fun K_r8_22 hK_r8_22 w hF => ?_) wt2_stop
   have hs := hs.f hF
   refine sf ⟨b0_, 2, none⟩ rfl hk rfl rfl rfl fd84_2 rfl fun a hk => ?_
   refine se (hs.pick [] rfl) hk (hK_r8_22 _ _ ?_)
   refine ta2 hk rfl rfl (fun K_r8_23 hK_r8_23 w hF => ?_) wt2_stop
   have hs := hs.f hF
   refine ssx (cs' := #[.slice A0_0 x0.code.length p0_0, .int .i64 (w64 (x0.at_ + 1)), .int .i64 (Int.tmod (w64 ((w64 ((w64 (x0.seed * 31)) + (IntKind.wrap .i64 (x0.code.getD (w64 ((w64 (x0.at_ + 1)) - 1)).toNat 0)))) + 7)) 2147483648)]) 1 hs rfl rfl hk rfl rfl rfl rfl sz3 rfl rfl rfl rfl fun w a hk hs => ?_
   refine se (hs.pick [] rfl) hk (hK_r8_23 _ _ ?_)
   refine wtl2_nil fun w hF => ?_
   have hs := hs.f hF
   refine hK7 _ _ ?_
   have hs := hs.pick [(1, 1)] rfl
   apply wp_seq_k; intro K13 hK13
   refine wp_region_tree (.q 0 (.q 1 (.q 2 (.q 3 (.alt 4 (.alt 5 (.alt 6 (.alt 7 (.alt 8 (.alt 9 (.alt 10 (.alt 11 (.last 12) .stop) .stop) .stop) .stop) .stop) .stop) .stop) .stop))))) mo (by kernel_rfl) (hs.pick [(1, 1)] rfl) fun _ => ?_
   have hs := hs.drew
   refine tqst (.pointer (some ⟨b0_, 0, none⟩)) hk rfl rfl rfl rfl (fun w hs => sm _ rfl hk rfl rfl rfl fun a hk => qe hk) fun a hk => ?_
   refine tqst (.pointer (some ⟨b0_, 0, none⟩)) hk rfl rfl rfl rfl (fun w hs => snk rfl hk rfl rfl rfl fun a hk => qe hk) fun a hk => ?_
   refine tqst (.pointer (some ⟨b0_, 0, none⟩)) hk rfl rfl rfl rfl (fun w hs => sf ⟨b0_, 0, none⟩ rfl hk rfl rfl rfl fd84_0 rfl fun a hk => qe hk) fun a hk => ?_
   refine tqst (.slice A0_0 x0.code.length p0_0) hk rfl rfl rfl rfl (fun w hs => sl rfl hk rfl rfl rfl ag22 (box_cell hs (k := 1) rfl rfl) fun a hk => qe hk) fun a hk => ?_
   refine tsst hk rfl rfl (fun K_r14_4 hK_r14_4 w hF => ?_) wt_stop
   have hs := hs.f hF
   refine sm _ rfl hk rfl rfl rfl fun a hk => ?_
   refine se (hs.pick [(1, 1)] rfl) hk (hK_r14_4 _ _ ?_)
   refine tsst hk rfl rfl (fun K_r14_5 hK_r14_5 w hF => ?_) wt_stop
   have hs := hs.f hF
   refine snk rfl hk rfl rfl rfl fun a hk => ?_
   refine se (hs.pick [(1, 1)] rfl) hk (hK_r14_5 _ _ ?_)
   refine tsst hk rfl rfl (fun K_r14_6 hK_r14_6 w hF => ?_) wt_stop
   have hs := hs.f hF
   refine sf ⟨b0_, 1, none⟩ rfl hk rfl rfl rfl fd84_1 rfl fun a hk => ?_
   refine se (hs.pick [(1, 1)] rfl) hk (hK_r14_6 _ _ ?_)
   refine tsst hk rfl rfl (fun K_r14_7 hK_r14_7 w hF => ?_) wt_stop
   have hs := hs.f hF
   refine sl rfl hk rfl rfl rfl ag3 (box_cell hs (k := 1) rfl rfl) fun a hk => ?_
   refine se (hs.pick [(1, 1)] rfl) hk (hK_r14_7 _ _ ?_)
   refine tsst hk rfl rfl (fun K_r14_8 hK_r14_8 w hF => ?_) wt_stop
   have hs := hs.f hF
   refine sv (.int .i64 (w64 ((w64 (x0.at_ + 1)) - 1))) hk rfl rfl rfl fun a hk => ?_
   refine se (hs.pick [(1, 1)] rfl) hk (hK_r14_8 _ _ ?_)
   refine tsst hk rfl rfl (fun K_r14_9 hK_r14_9 w hF => ?_) wt_stop
   have hs := hs.f hF
   rcases ite_some H with ⟨c15, H⟩ | ⟨_, H⟩
   rotate_left
   ·cases H
   obtain ⟨b16, q17, hAc15⟩ := (v0_0).some_ (w64 ((w64 (x0.at_ + 1)) - 1)) c15.1 c15.2
   refine si rfl hk rfl rfl rfl rfl un22 sz5 c15.1 c15.2 hAc15 fun a hk => ?_
   refine se (hs.pick [(1, 1)] rfl) hk (hK_r14_9 _ _ ?_)
   refine tsst hk rfl rfl (fun K_r14_10 hK_r14_10 w hF => ?_) wt_stop
   have hs := hs.f hF
   obtain ⟨_, rfl, e18⟩ := (v0_0).at_ 0 (w64 ((w64 (x0.at_ + 1)) - 1)) c15.1 c15.2
   refine sl (v := (.int .u8 (x0.code.getD (w64 ((w64 (x0.at_ + 1)) - 1)).toNat 0))) rfl hk rfl rfl rfl ag5 ((e18 0 _ rfl).cell (hs.hasD (k := 2) rfl)) fun a hk => ?_
   refine se (hs.pick [(1, 1)] rfl) hk (hK_r14_10 _ _ ?_)
   refine tsst hk rfl rfl (fun K_r14_11 hK_r14_11 w hF => ?_) wt_stop
   have hs := hs.f hF
   refine scn rfl hk rfl rfl rfl un3 un5 fun a hk => ?_
   refine se (hs.pick [(1, 1)] rfl) hk (hK_r14_11 _ _ ?_)
   refine tlst hk rfl rfl fun K_r14_12 hK_r14_12 w hF => ?_
   have hs := hs.f hF
   refine sa _ rfl hk rfl rfl rfl fun a hk => ?_
   refine se trivial hk (hK_r14_12 _ _ fun w hF => ?_)
   have hs := hs.f hF
   refine hK13 _ _ ?_
   refine wp_ret ?_
   obtain rfl := Option.some.inj H
   exact fin hk _ [(.int .i64 (IntKind.wrap .i64 (x0.code.getD (w64 ((w64 (x0.at_ + 1)) - 1)).toNat 0)))] rfl ⟨rfl, trivial⟩ ⟨rfl, (hs.pick [(0, 1)] rfl).dnil⟩
  ·have hk := hk.lit 19 c6 rfl
   refine cnd_false hk rfl rfl ?_
   refine wp_skip ?_
   refine hK3 _ _ ?_
   have hs := hs.pick [(1, 1)] rfl
   apply wp_seq_k; intro K19 hK19
   apply wp_seq_k; intro K20 hK20
   apply wp_region_lit
   refine sm _ rfl hk rfl rfl rfl fun a hk => ?_
   refine snk rfl hk rfl rfl rfl fun a hk => ?_
   refine sf ⟨b0_, 1, none⟩ rfl hk rfl rfl rfl fd84_1 rfl fun a hk => ?_
   refine sl rfl hk rfl rfl rfl ag3 (box_cell hs (k := 1) rfl rfl) fun a hk => ?_
   refine sv (.bool (decide ((w64 (x0.at_ + 1)) > 3000))) hk rfl rfl rfl fun a hk => ?_
   show wpList _ _ _ [] _ _
   refine wpList_nil ?_
   refine hK20 _ _ ?_
   rcases cond_some H with ⟨c21, H⟩ | ⟨c21, H⟩
   ·have hk := hk.lit 59 c21 rfl
    refine cnd_true hk rfl rfl ?_
    apply wp_seq_k; intro K22 hK22
    apply wp_region_lit
    refine sa _ rfl hk rfl rfl rfl fun a hk => ?_
    show wpList _ _ _ [] _ _
    refine wpList_nil ?_
    refine hK22 _ _ ?_
    refine wp_ret ?_
    obtain rfl := Option.some.inj H
    exact fin hk _ [(.int .i64 0)] rfl ⟨rfl, trivial⟩ ⟨rfl, (hs.pick [(0, 1)] rfl).dnil⟩
   ·have hk := hk.lit 59 c21 rfl
    refine cnd_false hk rfl rfl ?_
    refine wp_skip ?_
    refine hK19 _ _ ?_
    apply wp_seq_k; intro K23 hK23
    apply wp_region_lit
    refine sm _ rfl hk rfl rfl rfl fun a hk => ?_
    refine sm _ rfl hk rfl rfl rfl fun a hk => ?_
    refine snk rfl hk rfl rfl rfl fun a hk => ?_
    refine sf ⟨b0_, 2, none⟩ rfl hk rfl rfl rfl fd84_2 rfl fun a hk => ?_
    refine sl rfl hk rfl rfl rfl ag3 (box_cell hs (k := 1) rfl rfl) fun a hk => ?_
    refine sv (.int .i64 (w64 (x0.seed * 1103515245))) hk rfl rfl rfl fun a hk => ?_
    refine sv (.int .i64 (w64 ((w64 (x0.seed * 1103515245)) + 12345))) hk rfl rfl rfl fun a hk => ?_
    refine sv (.int .i64 (Int.tmod (w64 ((w64 (x0.seed * 1103515245)) + 12345)) 2147483648)) hk rfl rfl rfl fun a hk => ?_
    refine snk rfl hk rfl rfl rfl fun a hk => ?_
    refine sf ⟨b0_, 2, none⟩ rfl hk rfl rfl rfl fd84_2 rfl fun a hk => ?_
    refine ssx (cs' := #[.slice A0_0 x0.code.length p0_0, .int .i64 (w64 (x0.at_ + 1)), .int .i64 (Int.tmod (w64 ((w64 (x0.seed * 1103515245)) + 12345)) 2147483648)]) 1 hs rfl rfl hk rfl rfl rfl rfl sz3 rfl rfl rfl rfl fun w a hk hs => ?_
    show wpList _ _ _ [] _ _
    refine wpList_nil ?_
    refine hK23 _ _ ?_
    apply wp_seq_k; intro K24 hK24
    apply wp_region_lit
    refine sm _ rfl hk rfl rfl rfl fun a hk => ?_
    refine snk rfl hk rfl rfl rfl fun a hk => ?_
    refine sf ⟨b0_, 2, none⟩ rfl hk rfl rfl rfl fd84_2 rfl fun a hk => ?_
    refine sl rfl hk rfl rfl rfl ag3 (box_cell hs (k := 1) rfl rfl) fun a hk => ?_
    refine sv (.int .i64 (IntKind.wrap .i64 (Int.tdiv (Int.tmod (w64 ((w64 (x0.seed * 1103515245)) + 12345)) 2147483648) 65536))) hk rfl rfl rfl fun a hk => ?_
    refine sv (.int .i64 (Int.tmod (IntKind.wrap .i64 (Int.tdiv (Int.tmod (w64 ((w64 (x0.seed * 1103515245)) + 12345)) 2147483648) 65536)) 256)) hk rfl rfl rfl fun a hk => ?_
    refine sa _ rfl hk rfl rfl rfl fun a hk => ?_
    show wpList _ _ _ [] _ _
    refine wpList_nil ?_
    refine hK24 _ _ ?_
    have hs := hs.pick [(1, 1)] rfl
    refine wp_ret ?_
    obtain rfl := Option.some.inj H
    exact fin hk _ [(.int .i64 (Int.tmod (IntKind.wrap .i64 (Int.tdiv (Int.tmod (w64 ((w64 (x0.seed * 1103515245)) + 12345)) 2147483648) 65536)) 256))] rfl ⟨rfl, trivial⟩ ⟨rfl, (hs.pick [(0, 1)] rfl).dnil⟩

noncomputable def spec_l00Src_next.f (x0 : S_l00Src) (x1 : Int) : Option (Int × Int × Int) :=
  (bif (decide (x1 ≤ 1)) then (some (0, x0.at_, x0.seed)) else (bif (decide (x1 ≤ 256)) then ((spec_l00Src_byte.f x0).bind fun y10 => (if x1 = 0 then none else (some ((Int.tmod y10.1 x1), y10.2.1, y10.2.2)))) else ((spec_l00Src_byte.f x0).bind fun y14 => ((spec_l00Src_byte.f (⟨x0.code, y14.2.1, y14.2.2⟩ : S_l00Src)).bind fun y17 => ((spec_l00Src_byte.f (⟨x0.code, y17.2.1, y17.2.2⟩ : S_l00Src)).bind fun y20 => (if x1 = 0 then none else (some ((Int.tmod (w64 ((w64 ((w64 (y14.1 * 65536)) + (w64 (y17.1 * 256)))) + y20.1)) x1), y20.2.1, y20.2.2))))))))
set_option maxRecDepth 100000 in
set_option maxHeartbeats 0 in
theorem spec_l00Src_next_t (w0 : World) (b0_ : Nat) (x0 : S_l00Src) (A0_0 : Option Addr) (p0_0 : Nat) (k0_0 : Chunk) (v0_0 : View (Lay.int .u8) A0_0 p0_0 x0.code k0_0) (w0_0 : Has w0 k0_0) (x1 : Int) (hs0 : Sat (blks [(1, [(b0_, .cells #[.slice A0_0 x0.code.length p0_0, .int .i64 x0.at_, .int .i64 x0.seed] 84 (0, 0))])]) w0 w0 [(2, k0_0)] [(1, [(b0_, .cells #[.slice A0_0 x0.code.length p0_0, .int .i64 x0.at_, .int .i64 x0.seed] 84 (0, 0))])]) (r : Int × Int × Int) (H : spec_l00Src_next.f x0 x1 = some r) :
    Calls Try.prog 86 #[.pointer (some ⟨b0_, 0, none⟩), .int .i64 x1] w0 (Ret (fun v w => v = .int .i64 r.1 ∧ Sat (blks [(1, [(b0_, .cells #[.slice A0_0 x0.code.length p0_0, .int .i64 x0.at_, .int .i64 x0.seed] 84 (0, 0))])]) w0 w [] [(0, [(b0_, .cells #[.slice A0_0 x0.code.length p0_0, .int .i64 r.2.1, .int .i64 r.2.2] 84 (0, 0))])])) := by
  have hs := hs0
  unfold spec_l00Src_next.f at H
  refine enter Try.func86 rfl Try.ntmps86 rfl fun a hk => ?_
  apply wp_seq_k; intro K1 hK1
  apply wp_region_lit
  refine sa _ rfl hk rfl rfl rfl fun a hk => ?_
  show wpList _ _ _ [] _ _
  refine wpList_nil ?_
  refine hK1 _ _ ?_
  apply wp_seq_k; intro K2 hK2
  apply wp_seq_k; intro K3 hK3
  apply wp_region_lit
  refine sm _ rfl hk rfl rfl rfl fun a hk => ?_
  refine sv (.bool (decide (x1 ≤ 1))) hk rfl rfl rfl fun a hk => ?_
  show wpList _ _ _ [] _ _
  refine wpList_nil ?_
  refine hK3 _ _ ?_
  rcases cond_some H with ⟨c4, H⟩ | ⟨c4, H⟩
  ·have hk := hk.lit 9 c4 rfl
   refine cnd_true hk rfl rfl ?_
   apply wp_seq_k; intro K5 hK5
   apply wp_region_lit
   refine sa _ rfl hk rfl rfl rfl fun a hk => ?_
   show wpList _ _ _ [] _ _
   refine wpList_nil ?_
   refine hK5 _ _ ?_
   refine wp_ret ?_
   obtain rfl := Option.some.inj H
   exact fin hk _ [(.int .i64 0)] rfl ⟨rfl, trivial⟩ ⟨rfl, (hs.pick [(0, 1)] rfl).dnil⟩
  ·have hk := hk.lit 9 c4 rfl
   refine cnd_false hk rfl rfl ?_
   refine wp_skip ?_
   refine hK2 _ _ ?_
   apply wp_seq_k; intro K6 hK6
   apply wp_seq_k; intro K7 hK7
   apply wp_region_lit
   refine sm _ rfl hk rfl rfl rfl fun a hk => ?_
   refine sv (.bool (decide (x1 ≤ 256))) hk rfl rfl rfl fun a hk => ?_
   show wpList _ _ _ [] _ _
   refine wpList_nil ?_
   refine hK7 _ _ ?_
   have hs := hs.pick [(1, 1)] rfl
   rcases cond_some H with ⟨c8, H⟩ | ⟨c8, H⟩
   ·have hk := hk.lit 11 c8 rfl
    refine cnd_true hk rfl rfl ?_
    apply wp_seq_k; intro K9 hK9
    apply wp_region_lit
    refine sm _ rfl hk rfl rfl rfl fun a hk => ?_
    obtain ⟨y10, h11, H⟩ := bind_some H
    refine sc rfl en119 hk rfl rfl rfl (spec_l00Src_byte_t _ b0_ x0 A0_0 p0_0 _ v0_0 (hs.hasD (k := 2) rfl) ((hs.hand [(1, 1)] rfl).dpick [(2, 2)] rfl) _ h11) ?_
    rintro _ w ⟨rfl, hG⟩ a hk
    have hs := hs.back [(1, 1)] rfl hG [1] rfl
    refine sm _ rfl hk rfl rfl rfl fun a hk => ?_
    rcases ite_some H with ⟨_, H⟩ | ⟨c12, H⟩
    ·cases H
    refine srm rfl hk rfl rfl rfl rfl c12 fun a hk => ?_
    refine sa _ rfl hk rfl rfl rfl fun a hk => ?_
    show wpList _ _ _ [] _ _
    refine wpList_nil ?_
    refine hK9 _ _ ?_
    refine wp_ret ?_
    obtain rfl := Option.some.inj H
    exact fin hk _ [(.int .i64 (Int.tmod y10.1 x1))] rfl ⟨rfl, trivial⟩ ⟨rfl, (hs.pick [(0, 1)] rfl).dnil⟩
   ·have hk := hk.lit 11 c8 rfl
    refine cnd_false hk rfl rfl ?_
    refine wp_skip ?_
    refine hK6 _ _ ?_
    apply wp_seq_k; intro K13 hK13
    apply wp_region_lit
    refine sm _ rfl hk rfl rfl rfl fun a hk => ?_
    obtain ⟨y14, h15, H⟩ := bind_some H
    refine sc rfl en119 hk rfl rfl rfl (spec_l00Src_byte_t _ b0_ x0 A0_0 p0_0 _ v0_0 (hs.hasD (k := 2) rfl) ((hs.hand [(1, 1)] rfl).dpick [(2, 2)] rfl) _ h15) ?_
    rintro _ w ⟨rfl, hG⟩ a hk
    have hs := hs.back [(1, 1)] rfl hG [1] rfl
    refine sa _ rfl hk rfl rfl rfl fun a hk => ?_
    show wpList _ _ _ [] _ _
    refine wpList_nil ?_
    refine hK13 _ _ ?_
    apply wp_seq_k; intro K16 hK16
    apply wp_region_lit
    refine sm _ rfl hk rfl rfl rfl fun a hk => ?_
    obtain ⟨y17, h18, H⟩ := bind_some H
    refine sc rfl en119 hk rfl rfl rfl (spec_l00Src_byte_t _ b0_ (⟨x0.code, y14.2.1, y14.2.2⟩ : S_l00Src) A0_0 p0_0 _ v0_0 (hs.hasD (k := 2) rfl) ((hs.hand [(1, 1)] rfl).dpick [(2, 2)] rfl) _ h18) ?_
    rintro _ w ⟨rfl, hG⟩ a hk
    have hs := hs.back [(1, 1)] rfl hG [1] rfl
    refine sa _ rfl hk rfl rfl rfl fun a hk => ?_
    show wpList _ _ _ [] _ _
    refine wpList_nil ?_
    refine hK16 _ _ ?_
    apply wp_seq_k; intro K19 hK19
    apply wp_region_lit
    refine sm _ rfl hk rfl rfl rfl fun a hk => ?_
    obtain ⟨y20, h21, H⟩ := bind_some H
    refine sc rfl en119 hk rfl rfl rfl (spec_l00Src_byte_t _ b0_ (⟨x0.code, y17.2.1, y17.2.2⟩ : S_l00Src) A0_0 p0_0 _ v0_0 (hs.hasD (k := 2) rfl) ((hs.hand [(1, 1)] rfl).dpick [(2, 2)] rfl) _ h21) ?_
    rintro _ w ⟨rfl, hG⟩ a hk
    have hs := hs.back [(1, 1)] rfl hG [1] rfl
    refine sa _ rfl hk rfl rfl rfl fun a hk => ?_
    show wpList _ _ _ [] _ _
    refine wpList_nil ?_
    refine hK19 _ _ ?_
    have hs := hs.pick [(1, 1)] rfl
    apply wp_seq_k; intro K22 hK22
    apply wp_region_lit
    refine sm _ rfl hk rfl rfl rfl fun a hk => ?_
    refine sv (.int .i64 (w64 (y14.1 * 65536))) hk rfl rfl rfl fun a hk => ?_
    refine sm _ rfl hk rfl rfl rfl fun a hk => ?_
    refine sv (.int .i64 (w64 (y17.1 * 256))) hk rfl rfl rfl fun a hk => ?_
    refine sv (.int .i64 (w64 ((w64 (y14.1 * 65536)) + (w64 (y17.1 * 256))))) hk rfl rfl rfl fun a hk => ?_
    refine sm _ rfl hk rfl rfl rfl fun a hk => ?_
    refine sv (.int .i64 (w64 ((w64 ((w64 (y14.1 * 65536)) + (w64 (y17.1 * 256)))) + y20.1))) hk rfl rfl rfl fun a hk => ?_
    refine sm _ rfl hk rfl rfl rfl fun a hk => ?_
    rcases ite_some H with ⟨_, H⟩ | ⟨c23, H⟩
    ·cases H
    refine srm rfl hk rfl rfl rfl rfl c23 fun a hk => ?_
    refine sa _ rfl hk rfl rfl rfl fun a hk => ?_
    show wpList _ _ _ [] _ _
    refine wpList_nil ?_
    refine hK22 _ _ ?_
    refine wp_ret ?_
    obtain rfl := Option.some.inj H
    exact fin hk _ [(.int .i64 (Int.tmod (w64 ((w64 ((w64 (y14.1 * 65536)) + (w64 (y17.1 * 256)))) + y20.1)) x1))] rfl ⟨rfl, trivial⟩ ⟨rfl, (hs.pick [(0, 1)] rfl).dnil⟩

noncomputable def spec_l00Src_bytes.s0 (x0 : S_l00Src) (x1 : Int) (u17 : List Int) (u14 : Int) (u15 : Int) (u16 : Int) : Option (((List Int) × Int × Int × Int) ⊕ Ex ((List Int) × Int × Int) (ByteArray × Int × Int)) :=
  (bif (decide (u14 < x1)) then ((spec_l00Src_next.f (⟨x0.code, u15, u16⟩ : S_l00Src) 256).bind fun y41 => (if u17.length + ([(IntKind.wrap .u8 y41.1)]).length ≤ 1073741824 then (some (.inl ((u17 ++ ([(IntKind.wrap .u8 y41.1)])), (w64 (u14 + 1)), y41.2.1, y41.2.2))) else none)) else (some (.inr (.out (u17, u15, u16)))))
noncomputable def spec_l00Src_bytes.f (x0 : S_l00Src) (x1 : Int) : Option (ByteArray × Int × Int) :=
  ((loopO (fun s => spec_l00Src_bytes.s0 x0 x1 s.1 s.2.1 s.2.2.1 s.2.2.2) (([] : List Int), 0, x0.at_, x0.seed)).bind fun o => match o with | .out (u22, u27, u28) => (some ((strOfNums u22), u27, u28)) | .ret r => (some r))
set_option maxRecDepth 100000 in
set_option maxHeartbeats 0 in
theorem spec_l00Src_bytes_t (w0 : World) (b0_ : Nat) (x0 : S_l00Src) (A0_0 : Option Addr) (p0_0 : Nat) (k0_0 : Chunk) (v0_0 : View (Lay.int .u8) A0_0 p0_0 x0.code k0_0) (w0_0 : Has w0 k0_0) (x1 : Int) (hs0 : Sat (blks [(1, [(b0_, .cells #[.slice A0_0 x0.code.length p0_0, .int .i64 x0.at_, .int .i64 x0.seed] 84 (0, 0))])]) w0 w0 [(2, k0_0)] [(1, [(b0_, .cells #[.slice A0_0 x0.code.length p0_0, .int .i64 x0.at_, .int .i64 x0.seed] 84 (0, 0))])]) (r : ByteArray × Int × Int) (H : spec_l00Src_bytes.f x0 x1 = some r) :
    Calls Try.prog 59 #[.pointer (some ⟨b0_, 0, none⟩), .int .i64 x1] w0 (Ret (fun v w => v = .string r.1 ∧ Sat (blks [(1, [(b0_, .cells #[.slice A0_0 x0.code.length p0_0, .int .i64 x0.at_, .int .i64 x0.seed] 84 (0, 0))])]) w0 w [] [(0, [(b0_, .cells #[.slice A0_0 x0.code.length p0_0, .int .i64 r.2.1, .int .i64 r.2.2] 84 (0, 0))])])) := by
  have hs := hs0
  unfold spec_l00Src_bytes.f at H
  refine enter Try.func59 rfl Try.ntmps59 rfl fun a hk => ?_
  apply wp_seq_k; intro K1 hK1
  apply wp_region_lit
  refine sa _ rfl hk rfl rfl rfl fun a hk => ?_
  show wpList _ _ _ [] _ _
  refine wpList_nil ?_
  refine hK1 _ _ ?_
  apply wp_seq_k; intro K2 hK2
  apply wp_region_lit
  refine sbs0 3 (Lay.int .u8) hs rfl hk rfl rfl un22 sz5 fun b3 k4 w a hk o5 hs => ?_
  refine sa _ rfl hk rfl rfl rfl fun a hk => ?_
  show wpList _ _ _ [] _ _
  refine wpList_nil ?_
  refine hK2 _ _ ?_
  apply wp_seq_k; intro K6 hK6
  apply wp_seq_k; intro K7 hK7
  apply wp_region_lit
  refine sa _ rfl hk rfl rfl rfl fun a hk => ?_
  show wpList _ _ _ [] _ _
  refine wpList_nil ?_
  refine hK7 _ _ ?_
  obtain ⟨o29, h30, HL31⟩ := bind_some H
  clear H
  obtain ⟨R32, hR32⟩ : ∃ R : Act → World → Prop, R = fun a w => ∃ (u22 : List Int) (u27 : Int) (u28 : Int) (A25 : Option Addr) (p26 : Nat) (k23 : Chunk), o29 = .out (u22, u27, u28) ∧ Kn [(0, (.pointer (some ⟨b0_, 0, none⟩))), (5, (.slice A25 u22.length p26))] 21 a ∧ Sat (blks [(1, [(b0_, .cells #[.slice A0_0 x0.code.length p0_0, .int .i64 x0.at_, .int .i64 x0.seed] 84 (0, 0))])]) w0 w [(2, k0_0)] [(3, k23), (1, [(b0_, .cells #[.slice A0_0 x0.code.length p0_0, .int .i64 u27, .int .i64 u28] 84 (0, 0))])] ∧ Own (Lay.int .u8) 5 A25 p26 u22 k23 := ⟨_, rfl⟩
  refine wp_cutq R32 ?_ ?_
  ·refine wp_block ?_
   obtain ⟨fu34, h30⟩ := loopO_some h30
   obtain ⟨I33, hI33⟩ : ∃ I : Nat → Act → World → Prop, I = fun fu a w => ∃ (u17 : List Int) (u14 : Int) (u15 : Int) (u16 : Int) (A20 : Option Addr) (p21 : Nat) (k18 : Chunk), loopN (fun s => spec_l00Src_bytes.s0 x0 x1 s.1 s.2.1 s.2.2.1 s.2.2.2) fu (u17, u14, u15, u16) = some o29 ∧ Kn [(0, (.pointer (some ⟨b0_, 0, none⟩))), (1, (.int .i64 x1)), (5, (.slice A20 u17.length p21)), (6, (.int .i64 u14))] 21 a ∧ Sat (blks [(1, [(b0_, .cells #[.slice A0_0 x0.code.length p0_0, .int .i64 x0.at_, .int .i64 x0.seed] 84 (0, 0))])]) w0 w [(2, k0_0)] [(3, k18), (1, [(b0_, .cells #[.slice A0_0 x0.code.length p0_0, .int .i64 u15, .int .i64 u16] 84 (0, 0))])] ∧ Own (Lay.int .u8) 5 A20 p21 u17 k18 := ⟨_, rfl⟩
   refine wp_loop_ghost I33 fu34 ?_ ?_
   ·rw [hI33]
    exact ⟨([] : List Int), 0, x0.at_, x0.seed, (some ⟨b3, 0, none⟩), 0, _, h30, (hk.c 0 rfl (hk.c 1 rfl (hk.c 5 rfl (hk.c 6 rfl hk.k)))), (hs.pick [(3, 3), (1, 1)] rfl), o5⟩
   ·clear h30 hk hs
    intro fu34 a w hI0
    rw [hI33] at hI0
    obtain ⟨u17, u14, u15, u16, A20, p21, k18, hi, hk, hs, o19⟩ := hI0
    obtain ⟨x35, H, h36⟩ := loop_round hi
    try dsimp only at H
    unfold spec_l00Src_bytes.s0 at H
    apply wp_seq_k; intro K37 hK37
    apply wp_seq_k; intro K38 hK38
    apply wp_region_lit
    refine sm _ rfl hk rfl rfl rfl fun a hk => ?_
    refine sm _ rfl hk rfl rfl rfl fun a hk => ?_
    refine sv (.bool (decide (u14 < x1))) hk rfl rfl rfl fun a hk => ?_
    show wpList _ _ _ [] _ _
    refine wpList_nil ?_
    refine hK38 _ _ ?_
    have hs := hs.pick [(3, 3), (1, 1)] rfl
    rcases cond_some H with ⟨c39, H⟩ | ⟨c39, H⟩
    ·have hk := hk.lit 10 c39 rfl
     refine cnd_true hk rfl rfl ?_
     refine wp_skip ?_
     refine hK37 _ _ ?_
     apply wp_seq_k; intro K40 hK40
     refine wp_block ?_
     apply wp_region_lit
     refine sm _ rfl hk rfl rfl rfl fun a hk => ?_
     refine sm _ rfl hk rfl rfl rfl fun a hk => ?_
     obtain ⟨y41, h42, H⟩ := bind_some H
     refine sc rfl en86 hk rfl rfl rfl (spec_l00Src_next_t _ b0_ (⟨x0.code, u15, u16⟩ : S_l00Src) A0_0 p0_0 _ v0_0 (hs.hasD (k := 2) rfl) 256 ((hs.hand [(1, 1)] rfl).dpick [(2, 2)] rfl) _ h42) ?_
     rintro _ w ⟨rfl, hG⟩ a hk
     have hs := hs.back [(1, 1)] rfl hG [1] rfl
     refine scn rfl hk rfl rfl rfl un5 un3 fun a hk => ?_
     refine sbs (L := (Lay.int .u8)) (pv := [(0, (.int .u8 (IntKind.wrap .u8 y41.1)))]) (xs := [(IntKind.wrap .u8 y41.1)]) (ess := [[.int .u8 (IntKind.wrap .u8 y41.1)]]) 5 hs rfl hk rfl rfl rfl un22 (bs5_1 (IntKind.wrap .u8 y41.1)) (AllOwn.cons0 ⟨rfl, rfl⟩ AllOwn.nil) rfl rfl rfl fun b43 k44 w a hk o45 hs => ?_
     rcases ite_some H with ⟨c46, H⟩ | ⟨_, H⟩
     rotate_left
     ·cases H
     refine sap 3 (xs := u17) (ys := [(IntKind.wrap .u8 y41.1)]) (flat_flat : ((Lay.int .u8)).Flat) hs rfl o19 o45.view (hs.hasG (k := 5) rfl) rfl hk rfl rfl rfl rfl rfl rfl un22 mk5 rfl rfl rfl c46 fun A47 p48 k49 w a hk o50 hs => ?_
     refine sa _ rfl hk rfl rfl rfl fun a hk => ?_
     show wpList _ _ _ [] _ _
     refine wpList_nil ?_
     refine hK40 _ _ ?_
     apply wp_region_lit
     refine sm _ rfl hk rfl rfl rfl fun a hk => ?_
     refine sv (.int .i64 (w64 (u14 + 1))) hk rfl rfl rfl fun a hk => ?_
     refine sa _ rfl hk rfl rfl rfl fun a hk => ?_
     show wpList _ _ _ [] _ _
     refine wpList_nil ?_
     obtain rfl := Option.some.inj H
     obtain ⟨m51, hmm51, h36⟩ := h36
     show ∃ n', n' < _ ∧ I33 n' _ _
     refine ⟨m51, hmm51, ?_⟩
     rw [hI33]
     exact ⟨(u17 ++ ([(IntKind.wrap .u8 y41.1)])), (w64 (u14 + 1)), y41.2.1, y41.2.2, A47, p48, _, h36, (hk.c 0 rfl (hk.c 1 rfl (hk.c 5 rfl (hk.c 6 rfl hk.k)))), (hs.pick [(3, 3), (1, 1)] rfl), o50⟩
    ·have hk := hk.lit 10 c39 rfl
     refine cnd_false hk rfl rfl ?_
     refine wp_exit ?_
     obtain rfl := Option.some.inj H
     show R32 _ _
     rw [hR32]
     exact ⟨u17, u15, u16, A20, p21, _, h36.symm, (hk.c 0 rfl (hk.c 5 rfl hk.k)), (hs.pick [(3, 3), (1, 1)] rfl), o19⟩
  ·intro a w hR0
   rw [hR32] at hR0
   obtain ⟨u22, u27, u28, A25, p26, k23, rfl, hk, hs, o24⟩ := hR0
   have H := HL31
   try dsimp only at H
   refine hK6 _ _ ?_
   have hs := hs.pick [(3, 3), (1, 1)] rfl
   apply wp_seq_k; intro K52 hK52
   apply wp_region_lit
   refine sm _ rfl hk rfl rfl rfl fun a hk => ?_
   refine sbt (xs := u22) rfl hk rfl rfl rfl rfl un22 un5 un9 o24.view (hs.hasG (k := 3) rfl) fun a hk => ?_
   refine sa _ rfl hk rfl rfl rfl fun a hk => ?_
   show wpList _ _ _ [] _ _
   refine wpList_nil ?_
   refine hK52 _ _ ?_
   refine wp_ret ?_
   obtain rfl := Option.some.inj H
   exact fin hk _ [(.string (strOfNums u22))] rfl ⟨rfl, trivial⟩ ⟨rfl, (hs.pick [(0, 1)] rfl).dnil⟩

noncomputable def spec_l00Src_text.f (x0 : S_l00Src) : Option (ByteArray × Int × Int) :=
  ((spec_l00Src_next.f x0 9).bind fun y3 => ((spec_l00Src_next.f (⟨x0.code, y3.2.1, y3.2.2⟩ : S_l00Src) 200).bind fun y5 => ((spec_l00Src_next.f (⟨x0.code, y5.2.1, y5.2.2⟩ : S_l00Src) 6).bind fun y10 => (if 0 ≤ y10.1 ∧ y10.1 < (6 : Int) then ((spec_l00Src_bytes.f (⟨x0.code, y10.2.1, y10.2.2⟩ : S_l00Src) (([y3.1, 55, 56, 63, 64, y5.1]).getD (y10.1).toNat 0)).bind fun y16 => (some (y16.1, y16.2.1, y16.2.2))) else none))))
set_option maxRecDepth 100000 in
set_option maxHeartbeats 0 in
theorem spec_l00Src_text_t (w0 : World) (b0_ : Nat) (x0 : S_l00Src) (A0_0 : Option Addr) (p0_0 : Nat) (k0_0 : Chunk) (v0_0 : View (Lay.int .u8) A0_0 p0_0 x0.code k0_0) (w0_0 : Has w0 k0_0) (hs0 : Sat (blks [(1, [(b0_, .cells #[.slice A0_0 x0.code.length p0_0, .int .i64 x0.at_, .int .i64 x0.seed] 84 (0, 0))])]) w0 w0 [(2, k0_0)] [(1, [(b0_, .cells #[.slice A0_0 x0.code.length p0_0, .int .i64 x0.at_, .int .i64 x0.seed] 84 (0, 0))])]) (r : ByteArray × Int × Int) (H : spec_l00Src_text.f x0 = some r) :
    Calls Try.prog 44 #[.pointer (some ⟨b0_, 0, none⟩)] w0 (Ret (fun v w => v = .string r.1 ∧ Sat (blks [(1, [(b0_, .cells #[.slice A0_0 x0.code.length p0_0, .int .i64 x0.at_, .int .i64 x0.seed] 84 (0, 0))])]) w0 w [] [(0, [(b0_, .cells #[.slice A0_0 x0.code.length p0_0, .int .i64 r.2.1, .int .i64 r.2.2] 84 (0, 0))])])) := by
  have hs := hs0
  unfold spec_l00Src_text.f at H
  refine enter Try.func44 rfl Try.ntmps44 rfl fun a hk => ?_
  apply wp_seq_k; intro K1 hK1
  apply wp_region_lit
  refine sa _ rfl hk rfl rfl rfl fun a hk => ?_
  show wpList _ _ _ [] _ _
  refine wpList_nil ?_
  refine hK1 _ _ ?_
  apply wp_seq_k; intro K2 hK2
  apply wp_region_lit
  refine sm _ rfl hk rfl rfl rfl fun a hk => ?_
  refine sm _ rfl hk rfl rfl rfl fun a hk => ?_
  obtain ⟨y3, h4, H⟩ := bind_some H
  refine sc rfl en86 hk rfl rfl rfl (spec_l00Src_next_t _ b0_ x0 A0_0 p0_0 _ v0_0 (hs.hasD (k := 2) rfl) 9 ((hs.hand [(1, 1)] rfl).dpick [(2, 2)] rfl) _ h4) ?_
  rintro _ w ⟨rfl, hG⟩ a hk
  have hs := hs.back [(1, 1)] rfl hG [1] rfl
  refine sm _ rfl hk rfl rfl rfl fun a hk => ?_
  obtain ⟨y5, h6, H⟩ := bind_some H
  refine sc rfl en86 hk rfl rfl rfl (spec_l00Src_next_t _ b0_ (⟨x0.code, y3.2.1, y3.2.2⟩ : S_l00Src) A0_0 p0_0 _ v0_0 (hs.hasD (k := 2) rfl) 200 ((hs.hand [(1, 1)] rfl).dpick [(2, 2)] rfl) _ h6) ?_
  rintro _ w ⟨rfl, hG⟩ a hk
  have hs := hs.back [(1, 1)] rfl hG [1] rfl
  refine sbs (L := (Lay.int .i64)) (pv := [(0, (.int .i64 y3.1)), (1, (.int .i64 55)), (2, (.int .i64 56)), (3, (.int .i64 63)), (4, (.int .i64 64)), (5, (.int .i64 y5.1))]) (xs := [y3.1, 55, 56, 63, 64, y5.1]) (ess := [[.int .i64 y3.1], [.int .i64 55], [.int .i64 56], [.int .i64 63], [.int .i64 64], [.int .i64 y5.1]]) 3 hs rfl hk rfl rfl rfl un47 (bs3_2 y3.1 55 56 63 64 y5.1) (AllOwn.cons0 ⟨rfl, rfl⟩ (AllOwn.cons0 ⟨rfl, rfl⟩ (AllOwn.cons0 ⟨rfl, rfl⟩ (AllOwn.cons0 ⟨rfl, rfl⟩ (AllOwn.cons0 ⟨rfl, rfl⟩ (AllOwn.cons0 ⟨rfl, rfl⟩ AllOwn.nil)))))) rfl rfl rfl fun b7 k8 w a hk o9 hs => ?_
  refine sm _ rfl hk rfl rfl rfl fun a hk => ?_
  obtain ⟨y10, h11, H⟩ := bind_some H
  refine sc rfl en86 hk rfl rfl rfl (spec_l00Src_next_t _ b0_ (⟨x0.code, y5.2.1, y5.2.2⟩ : S_l00Src) A0_0 p0_0 _ v0_0 (hs.hasD (k := 2) rfl) 6 ((hs.hand [(1, 1)] rfl).dpick [(2, 2)] rfl) _ h11) ?_
  rintro _ w ⟨rfl, hG⟩ a hk
  have hs := hs.back [(1, 1)] rfl hG [1] rfl
  rcases ite_some H with ⟨c12, H⟩ | ⟨_, H⟩
  rotate_left
  ·cases H
  obtain ⟨b13, q14, hAc12⟩ := (o9.view).some_ y10.1 c12.1 c12.2
  refine si rfl hk rfl rfl rfl rfl un47 sz3 c12.1 c12.2 hAc12 fun a hk => ?_
  obtain ⟨_, rfl, e15⟩ := (o9.view).at_ 0 y10.1 c12.1 c12.2
  refine sl (v := (.int .i64 (([y3.1, 55, 56, 63, 64, y5.1]).getD (y10.1).toNat 0))) rfl hk rfl rfl rfl ag3 ((e15 0 _ rfl).cell (hs.hasG (k := 3) rfl)) fun a hk => ?_
  obtain ⟨y16, h17, H⟩ := bind_some H
  refine sc rfl en59 hk rfl rfl rfl (spec_l00Src_bytes_t _ b0_ (⟨x0.code, y10.2.1, y10.2.2⟩ : S_l00Src) A0_0 p0_0 _ v0_0 (hs.hasD (k := 2) rfl) (([y3.1, 55, 56, 63, 64, y5.1]).getD (y10.1).toNat 0) ((hs.hand [(1, 1)] rfl).dpick [(2, 2)] rfl) _ h17) ?_
  rintro _ w ⟨rfl, hG⟩ a hk
  have hs := hs.back [(1, 1)] rfl hG [1] rfl
  refine sa _ rfl hk rfl rfl rfl fun a hk => ?_
  show wpList _ _ _ [] _ _
  refine wpList_nil ?_
  refine hK2 _ _ ?_
  refine wp_ret ?_
  obtain rfl := Option.some.inj H
  exact fin hk _ [(.string y16.1)] rfl ⟨rfl, trivial⟩ ⟨rfl, (hs.pick [(0, 1)] rfl).dnil⟩

noncomputable def spec_TextOf.f (l0 : List Int) : Option (ByteArray) :=
  ((spec_l00Source.f l0).bind fun y3 => ((spec_l00Src_text.f y3).bind fun y10 => (some y10.1)))
set_option maxRecDepth 100000 in
set_option maxHeartbeats 0 in
theorem spec_TextOf_t (w0 : World) (A0_ : Option Addr) (p0_ : Nat) (l0 : List Int) (k0_ : Chunk) (v0_ : View (Lay.int .u8) A0_ p0_ l0 k0_) (w0_ : Has w0 k0_) (r : ByteArray) (H : spec_TextOf.f l0 = some r) :
    Calls Try.prog 8 #[.slice A0_ l0.length p0_] w0 (Ret (fun v w => v = .string r ∧ Sat [] w0 w [] [])) := by
  have hs : Sat [] w0 w0 [(1, k0_)] [] := Sat.init w0 [(1, k0_)] [] (by simp only [List.mem_cons, List.not_mem_nil, or_false]; rintro x (rfl) <;> assumption) (by simp) List.nodup_nil (by simp [blks])
  unfold spec_TextOf.f at H
  refine enter Try.func8 rfl Try.ntmps8 rfl fun a hk => ?_
  apply wp_seq_k; intro K1 hK1
  apply wp_region_lit
  refine sa _ rfl hk rfl rfl rfl fun a hk => ?_
  show wpList _ _ _ [] _ _
  refine wpList_nil ?_
  refine hK1 _ _ ?_
  apply wp_seq_k; intro K2 hK2
  apply wp_region_lit
  refine sm _ rfl hk rfl rfl rfl fun a hk => ?_
  obtain ⟨y3, h4, H⟩ := bind_some H
  refine sc rfl en43 hk rfl rfl rfl (spec_l00Source_t _ A0_ p0_ l0 _ v0_ (hs.hasD (k := 1) rfl) _ h4) ?_
  rintro _ w ⟨b6, A7, p8, k5, rfl, v9, hG⟩ a hk
  have hs := hs.call0k hG [3, 2] rfl
  obtain ⟨y10, h11, H⟩ := bind_some H
  refine sc rfl en44 hk rfl rfl rfl (spec_l00Src_text_t _ b6 y3 A7 p8 _ v9 (Has.app (hs.hasD (k := 1) rfl) (hs.hasG (k := 2) rfl)) (((hs.hand [(1, 3)] rfl).dcat 2004 (k := 1) (l := 2) rfl rfl).dpick [(2, 2004)] rfl) _ h11) ?_
  rintro _ w ⟨rfl, hG⟩ a hk
  have hs := hs.back [(1, 3)] rfl hG [3] rfl
  refine sa _ rfl hk rfl rfl rfl fun a hk => ?_
  show wpList _ _ _ [] _ _
  refine wpList_nil ?_
  refine hK2 _ _ ?_
  refine wp_ret ?_
  obtain rfl := Option.some.inj H
  exact fin hk _ [(.string y10.1)] rfl ⟨rfl, trivial⟩ ⟨rfl, (hs.pick [] rfl).dnil⟩

noncomputable def laws_at.f (l0 : List Int) (x1 : Int) (x2 : Int) : Option (Int) :=
  (bif (decide (x2 ≤ 1)) then (some 0) else (bif ((l0.length : Int) == 0) then (if x2 = 0 then none else (some (Int.tmod (w64 (x1 * 7)) x2))) else (if (l0.length : Int) = 0 then none else (if 0 ≤ (Int.tmod x1 (l0.length : Int)) ∧ (Int.tmod x1 (l0.length : Int)) < (l0.length : Int) then (if (l0.length : Int) = 0 then none else (if 0 ≤ (Int.tmod (w64 (x1 + 1)) (l0.length : Int)) ∧ (Int.tmod (w64 (x1 + 1)) (l0.length : Int)) < (l0.length : Int) then (if (l0.length : Int) = 0 then none else (if x2 = 0 then none else (some (Int.tmod (w64 ((w64 ((w64 ((IntKind.wrap .i64 (l0.getD (Int.tmod x1 (l0.length : Int)).toNat 0)) * 31)) + (IntKind.wrap .i64 (l0.getD (Int.tmod (w64 (x1 + 1)) (l0.length : Int)).toNat 0)))) + (IntKind.wrap .i64 (Int.tdiv x1 (l0.length : Int))))) x2)))) else none)) else none))))
set_option maxRecDepth 100000 in
set_option maxHeartbeats 0 in
theorem laws_at_t (w0 : World) (A0_ : Option Addr) (p0_ : Nat) (l0 : List Int) (k0_ : Chunk) (v0_ : View (Lay.int .u8) A0_ p0_ l0 k0_) (w0_ : Has w0 k0_) (x1 : Int) (x2 : Int) (r : Int) (H : laws_at.f l0 x1 x2 = some r) :
    Calls Try.prog 11 #[.slice A0_ l0.length p0_, .int .i64 x1, .int .i64 x2] w0 (Ret (fun v w => v = .int .i64 r ∧ Sat [] w0 w [] [])) := by
  have hs : Sat [] w0 w0 [(1, k0_)] [] := Sat.init w0 [(1, k0_)] [] (by simp only [List.mem_cons, List.not_mem_nil, or_false]; rintro x (rfl) <;> assumption) (by simp) List.nodup_nil (by simp [blks])
  unfold laws_at.f at H
  refine enter Try.func11 rfl Try.ntmps11 rfl fun a hk => ?_
  apply wp_seq_k; intro K1 hK1
  apply wp_region_lit
  refine sa _ rfl hk rfl rfl rfl fun a hk => ?_
  show wpList _ _ _ [] _ _
  refine wpList_nil ?_
  refine hK1 _ _ ?_
  apply wp_seq_k; intro K2 hK2
  apply wp_seq_k; intro K3 hK3
  apply wp_region_lit
  refine sm _ rfl hk rfl rfl rfl fun a hk => ?_
  refine sv (.bool (decide (x2 ≤ 1))) hk rfl rfl rfl fun a hk => ?_
  show wpList _ _ _ [] _ _
  refine wpList_nil ?_
  refine hK3 _ _ ?_
  rcases cond_some H with ⟨c4, H⟩ | ⟨c4, H⟩
  ·have hk := hk.lit 8 c4 rfl
   refine cnd_true hk rfl rfl ?_
   apply wp_seq_k; intro K5 hK5
   apply wp_region_lit
   refine sa _ rfl hk rfl rfl rfl fun a hk => ?_
   show wpList _ _ _ [] _ _
   refine wpList_nil ?_
   refine hK5 _ _ ?_
   refine wp_ret ?_
   obtain rfl := Option.some.inj H
   exact fin hk _ [(.int .i64 0)] rfl ⟨rfl, trivial⟩ ⟨rfl, (hs.pick [] rfl).dnil⟩
  ·have hk := hk.lit 8 c4 rfl
   refine cnd_false hk rfl rfl ?_
   refine wp_skip ?_
   refine hK2 _ _ ?_
   apply wp_seq_k; intro K6 hK6
   apply wp_seq_k; intro K7 hK7
   apply wp_region_lit
   refine sm _ rfl hk rfl rfl rfl fun a hk => ?_
   refine sle rfl hk rfl rfl rfl un22 fun a hk => ?_
   refine sv (.bool ((l0.length : Int) == 0)) hk rfl rfl rfl fun a hk => ?_
   show wpList _ _ _ [] _ _
   refine wpList_nil ?_
   refine hK7 _ _ ?_
   have hs := hs.pick [] rfl
   rcases cond_some H with ⟨c8, H⟩ | ⟨c8, H⟩
   ·have hk := hk.lit 11 c8 rfl
    refine cnd_true hk rfl rfl ?_
    apply wp_seq_k; intro K9 hK9
    apply wp_region_lit
    refine sm _ rfl hk rfl rfl rfl fun a hk => ?_
    refine sv (.int .i64 (w64 (x1 * 7))) hk rfl rfl rfl fun a hk => ?_
    refine sm _ rfl hk rfl rfl rfl fun a hk => ?_
    rcases ite_some H with ⟨_, H⟩ | ⟨c10, H⟩
    ·cases H
    refine srm rfl hk rfl rfl rfl rfl c10 fun a hk => ?_
    refine sa _ rfl hk rfl rfl rfl fun a hk => ?_
    show wpList _ _ _ [] _ _
    refine wpList_nil ?_
    refine hK9 _ _ ?_
    refine wp_ret ?_
    obtain rfl := Option.some.inj H
    exact fin hk _ [(.int .i64 (Int.tmod (w64 (x1 * 7)) x2))] rfl ⟨rfl, trivial⟩ ⟨rfl, (hs.pick [] rfl).dnil⟩
   ·have hk := hk.lit 11 c8 rfl
    refine cnd_false hk rfl rfl ?_
    refine wp_skip ?_
    refine hK6 _ _ ?_
    apply wp_seq_k; intro K11 hK11
    refine wp_region_tree (.q 0 (.q 1 (.q 2 (.q 3 (.q 4 (.q 5 (.q 6 (.q 7 (.q 8 (.q 9 (.q 10 (.q 11 (.q 12 (.q 13 (.q 14 (.q 15 (.q 16 (.q 17 (.q 18 (.q 19 (.q 20 (.q 21 (.q 22 (.q 23 (.alt 24 (.alt 25 (.last 26) .stop) .stop))))))))))))))))))))))))) mo (by kernel_rfl) (hs.pick [] rfl) fun _ => ?_
    have hs := hs.drew
    refine tqst (.slice A0_ l0.length p0_) hk rfl rfl rfl rfl (fun w hs => sm _ rfl hk rfl rfl rfl fun a hk => qe hk) fun a hk => ?_
    refine tqst (.int .i64 x1) hk rfl rfl rfl rfl (fun w hs => sm _ rfl hk rfl rfl rfl fun a hk => qe hk) fun a hk => ?_
    refine tqst (.slice A0_ l0.length p0_) hk rfl rfl rfl rfl (fun w hs => sm _ rfl hk rfl rfl rfl fun a hk => qe hk) fun a hk => ?_
    refine tqst (.int .i64 (l0.length : Int)) hk rfl rfl rfl rfl (fun w hs => sle rfl hk rfl rfl rfl un22 fun a hk => qe hk) fun a hk => ?_
    rcases ite_some H with ⟨_, H⟩ | ⟨c13, H⟩
    ·cases H
    refine tqst (.int .i64 (Int.tmod x1 (l0.length : Int))) hk rfl rfl rfl rfl (fun w hs => srm rfl hk rfl rfl rfl rfl c13 fun a hk => qe hk) fun a hk => ?_
    rcases ite_some H with ⟨c14, H⟩ | ⟨_, H⟩
    rotate_left
    ·cases H
    obtain ⟨b15, q16, hAc14⟩ := (v0_).some_ (Int.tmod x1 (l0.length : Int)) c14.1 c14.2
    refine tqst (.pointer (some (padd A0_ ((Int.tmod x1 (l0.length : Int)).toNat * 1)))) hk rfl rfl rfl rfl (fun w hs => si rfl hk rfl rfl rfl rfl un22 sz5 c14.1 c14.2 hAc14 fun a hk => qe hk) fun a hk => ?_
    obtain ⟨_, rfl, e17⟩ := (v0_).at_ 0 (Int.tmod x1 (l0.length : Int)) c14.1 c14.2
    refine tqst (.int .u8 (l0.getD (Int.tmod x1 (l0.length : Int)).toNat 0)) hk rfl rfl rfl rfl (fun w hs => sl (v := (.int .u8 (l0.getD (Int.tmod x1 (l0.length : Int)).toNat 0))) rfl hk rfl rfl rfl ag5 ((e17 0 _ rfl).cell (hs.hasD (k := 1) rfl)) fun a hk => qe hk) fun a hk => ?_
    refine tqst (.int .i64 (IntKind.wrap .i64 (l0.getD (Int.tmod x1 (l0.length : Int)).toNat 0))) hk rfl rfl rfl rfl (fun w hs => scn rfl hk rfl rfl rfl un3 un5 fun a hk => qe hk) fun a hk => ?_
    refine tqst (.int .i64 (w64 ((IntKind.wrap .i64 (l0.getD (Int.tmod x1 (l0.length : Int)).toNat 0)) * 31))) hk rfl rfl rfl rfl (fun w hs => sv (.int .i64 (w64 ((IntKind.wrap .i64 (l0.getD (Int.tmod x1 (l0.length : Int)).toNat 0)) * 31))) hk rfl rfl rfl fun a hk => qe hk) fun a hk => ?_
    refine tqst (.slice A0_ l0.length p0_) hk rfl rfl rfl rfl (fun w hs => sm _ rfl hk rfl rfl rfl fun a hk => qe hk) fun a hk => ?_
    refine tqst (.int .i64 x1) hk rfl rfl rfl rfl (fun w hs => sm _ rfl hk rfl rfl rfl fun a hk => qe hk) fun a hk => ?_
    refine tqst (.int .i64 (w64 (x1 + 1))) hk rfl rfl rfl rfl (fun w hs => sv (.int .i64 (w64 (x1 + 1))) hk rfl rfl rfl fun a hk => qe hk) fun a hk => ?_
    refine tqst (.slice A0_ l0.length p0_) hk rfl rfl rfl rfl (fun w hs => sm _ rfl hk rfl rfl rfl fun a hk => qe hk) fun a hk => ?_
    refine tqst (.int .i64 (l0.length : Int)) hk rfl rfl rfl rfl (fun w hs => sle rfl hk rfl rfl rfl un22 fun a hk => qe hk) fun a hk => ?_
    rcases ite_some H with ⟨_, H⟩ | ⟨c18, H⟩
    ·cases H
    refine tqst (.int .i64 (Int.tmod (w64 (x1 + 1)) (l0.length : Int))) hk rfl rfl rfl rfl (fun w hs => srm rfl hk rfl rfl rfl rfl c18 fun a hk => qe hk) fun a hk => ?_
    rcases ite_some H with ⟨c19, H⟩ | ⟨_, H⟩
    rotate_left
    ·cases H
    obtain ⟨b20, q21, hAc19⟩ := (v0_).some_ (Int.tmod (w64 (x1 + 1)) (l0.length : Int)) c19.1 c19.2
    refine tqst (.pointer (some (padd A0_ ((Int.tmod (w64 (x1 + 1)) (l0.length : Int)).toNat * 1)))) hk rfl rfl rfl rfl (fun w hs => si rfl hk rfl rfl rfl rfl un22 sz5 c19.1 c19.2 hAc19 fun a hk => qe hk) fun a hk => ?_
    obtain ⟨_, rfl, e22⟩ := (v0_).at_ 0 (Int.tmod (w64 (x1 + 1)) (l0.length : Int)) c19.1 c19.2
    refine tqst (.int .u8 (l0.getD (Int.tmod (w64 (x1 + 1)) (l0.length : Int)).toNat 0)) hk rfl rfl rfl rfl (fun w hs => sl (v := (.int .u8 (l0.getD (Int.tmod (w64 (x1 + 1)) (l0.length : Int)).toNat 0))) rfl hk rfl rfl rfl ag5 ((e22 0 _ rfl).cell (hs.hasD (k := 1) rfl)) fun a hk => qe hk) fun a hk => ?_
    refine tqst (.int .i64 (IntKind.wrap .i64 (l0.getD (Int.tmod (w64 (x1 + 1)) (l0.length : Int)).toNat 0))) hk rfl rfl rfl rfl (fun w hs => scn rfl hk rfl rfl rfl un3 un5 fun a hk => qe hk) fun a hk => ?_
    refine tqst (.int .i64 (w64 ((w64 ((IntKind.wrap .i64 (l0.getD (Int.tmod x1 (l0.length : Int)).toNat 0)) * 31)) + (IntKind.wrap .i64 (l0.getD (Int.tmod (w64 (x1 + 1)) (l0.length : Int)).toNat 0))))) hk rfl rfl rfl rfl (fun w hs => sv (.int .i64 (w64 ((w64 ((IntKind.wrap .i64 (l0.getD (Int.tmod x1 (l0.length : Int)).toNat 0)) * 31)) + (IntKind.wrap .i64 (l0.getD (Int.tmod (w64 (x1 + 1)) (l0.length : Int)).toNat 0))))) hk rfl rfl rfl fun a hk => qe hk) fun a hk => ?_
    refine tqst (.int .i64 x1) hk rfl rfl rfl rfl (fun w hs => sm _ rfl hk rfl rfl rfl fun a hk => qe hk) fun a hk => ?_
    refine tqst (.slice A0_ l0.length p0_) hk rfl rfl rfl rfl (fun w hs => sm _ rfl hk rfl rfl rfl fun a hk => qe hk) fun a hk => ?_
    refine tqst (.int .i64 (l0.length : Int)) hk rfl rfl rfl rfl (fun w hs => sle rfl hk rfl rfl rfl un22 fun a hk => qe hk) fun a hk => ?_
    rcases ite_some H with ⟨_, H⟩ | ⟨c23, H⟩
    ·cases H
    refine tqst (.int .i64 (IntKind.wrap .i64 (Int.tdiv x1 (l0.length : Int)))) hk rfl rfl rfl rfl (fun w hs => sqo rfl hk rfl rfl rfl rfl c23 fun a hk => qe hk) fun a hk => ?_
    refine tqst (.int .i64 (w64 ((w64 ((w64 ((IntKind.wrap .i64 (l0.getD (Int.tmod x1 (l0.length : Int)).toNat 0)) * 31)) + (IntKind.wrap .i64 (l0.getD (Int.tmod (w64 (x1 + 1)) (l0.length : Int)).toNat 0)))) + (IntKind.wrap .i64 (Int.tdiv x1 (l0.length : Int)))))) hk rfl rfl rfl rfl (fun w hs => sv (.int .i64 (w64 ((w64 ((w64 ((IntKind.wrap .i64 (l0.getD (Int.tmod x1 (l0.length : Int)).toNat 0)) * 31)) + (IntKind.wrap .i64 (l0.getD (Int.tmod (w64 (x1 + 1)) (l0.length : Int)).toNat 0)))) + (IntKind.wrap .i64 (Int.tdiv x1 (l0.length : Int)))))) hk rfl rfl rfl fun a hk => qe hk) fun a hk => ?_
    refine tsst hk rfl rfl (fun K_r12_24 hK_r12_24 w hF => ?_) wt_stop
    have hs := hs.f hF
    refine sm _ rfl hk rfl rfl rfl fun a hk => ?_
    refine se (hs.pick [] rfl) hk (hK_r12_24 _ _ ?_)
    refine tsst hk rfl rfl (fun K_r12_25 hK_r12_25 w hF => ?_) wt_stop
    have hs := hs.f hF
    rcases ite_some H with ⟨_, H⟩ | ⟨c24, H⟩
    ·cases H
    refine srm rfl hk rfl rfl rfl rfl c24 fun a hk => ?_
    refine se (hs.pick [] rfl) hk (hK_r12_25 _ _ ?_)
    refine tlst hk rfl rfl fun K_r12_26 hK_r12_26 w hF => ?_
    have hs := hs.f hF
    refine sa _ rfl hk rfl rfl rfl fun a hk => ?_
    refine se trivial hk (hK_r12_26 _ _ fun w hF => ?_)
    have hs := hs.f hF
    refine hK11 _ _ ?_
    refine wp_ret ?_
    obtain rfl := Option.some.inj H
    exact fin hk _ [(.int .i64 (Int.tmod (w64 ((w64 ((w64 ((IntKind.wrap .i64 (l0.getD (Int.tmod x1 (l0.length : Int)).toNat 0)) * 31)) + (IntKind.wrap .i64 (l0.getD (Int.tmod (w64 (x1 + 1)) (l0.length : Int)).toNat 0)))) + (IntKind.wrap .i64 (Int.tdiv x1 (l0.length : Int))))) x2))] rfl ⟨rfl, trivial⟩ ⟨rfl, (hs.pick [] rfl).dnil⟩

noncomputable def spec_l00Src_key.f (x0 : S_l00Src) : Option (ByteArray × Int × Int) :=
  ((spec_l00Src_bytes.f x0 32).bind fun y3 => (some (y3.1, y3.2.1, y3.2.2)))
set_option maxRecDepth 100000 in
set_option maxHeartbeats 0 in
theorem spec_l00Src_key_t (w0 : World) (b0_ : Nat) (x0 : S_l00Src) (A0_0 : Option Addr) (p0_0 : Nat) (k0_0 : Chunk) (v0_0 : View (Lay.int .u8) A0_0 p0_0 x0.code k0_0) (w0_0 : Has w0 k0_0) (hs0 : Sat (blks [(1, [(b0_, .cells #[.slice A0_0 x0.code.length p0_0, .int .i64 x0.at_, .int .i64 x0.seed] 84 (0, 0))])]) w0 w0 [(2, k0_0)] [(1, [(b0_, .cells #[.slice A0_0 x0.code.length p0_0, .int .i64 x0.at_, .int .i64 x0.seed] 84 (0, 0))])]) (r : ByteArray × Int × Int) (H : spec_l00Src_key.f x0 = some r) :
    Calls Try.prog 53 #[.pointer (some ⟨b0_, 0, none⟩)] w0 (Ret (fun v w => v = .string r.1 ∧ Sat (blks [(1, [(b0_, .cells #[.slice A0_0 x0.code.length p0_0, .int .i64 x0.at_, .int .i64 x0.seed] 84 (0, 0))])]) w0 w [] [(0, [(b0_, .cells #[.slice A0_0 x0.code.length p0_0, .int .i64 r.2.1, .int .i64 r.2.2] 84 (0, 0))])])) := by
  have hs := hs0
  unfold spec_l00Src_key.f at H
  refine enter Try.func53 rfl Try.ntmps53 rfl fun a hk => ?_
  apply wp_seq_k; intro K1 hK1
  apply wp_region_lit
  refine sa _ rfl hk rfl rfl rfl fun a hk => ?_
  show wpList _ _ _ [] _ _
  refine wpList_nil ?_
  refine hK1 _ _ ?_
  apply wp_seq_k; intro K2 hK2
  apply wp_region_lit
  refine sm _ rfl hk rfl rfl rfl fun a hk => ?_
  obtain ⟨y3, h4, H⟩ := bind_some H
  refine sc rfl en59 hk rfl rfl rfl (spec_l00Src_bytes_t _ b0_ x0 A0_0 p0_0 _ v0_0 (hs.hasD (k := 2) rfl) 32 ((hs.hand [(1, 1)] rfl).dpick [(2, 2)] rfl) _ h4) ?_
  rintro _ w ⟨rfl, hG⟩ a hk
  have hs := hs.back [(1, 1)] rfl hG [1] rfl
  refine sa _ rfl hk rfl rfl rfl fun a hk => ?_
  show wpList _ _ _ [] _ _
  refine wpList_nil ?_
  refine hK2 _ _ ?_
  refine wp_ret ?_
  obtain rfl := Option.some.inj H
  exact fin hk _ [(.string y3.1)] rfl ⟨rfl, trivial⟩ ⟨rfl, (hs.pick [(0, 1)] rfl).dnil⟩

noncomputable def spec_KeyOf.f (l0 : List Int) : Option (ByteArray) :=
  ((spec_l00Source.f l0).bind fun y3 => ((spec_l00Src_key.f y3).bind fun y10 => (some y10.1)))
set_option maxRecDepth 100000 in
set_option maxHeartbeats 0 in
theorem spec_KeyOf_t (w0 : World) (A0_ : Option Addr) (p0_ : Nat) (l0 : List Int) (k0_ : Chunk) (v0_ : View (Lay.int .u8) A0_ p0_ l0 k0_) (w0_ : Has w0 k0_) (r : ByteArray) (H : spec_KeyOf.f l0 = some r) :
    Calls Try.prog 16 #[.slice A0_ l0.length p0_] w0 (Ret (fun v w => v = .string r ∧ Sat [] w0 w [] [])) := by
  have hs : Sat [] w0 w0 [(1, k0_)] [] := Sat.init w0 [(1, k0_)] [] (by simp only [List.mem_cons, List.not_mem_nil, or_false]; rintro x (rfl) <;> assumption) (by simp) List.nodup_nil (by simp [blks])
  unfold spec_KeyOf.f at H
  refine enter Try.func16 rfl Try.ntmps16 rfl fun a hk => ?_
  apply wp_seq_k; intro K1 hK1
  apply wp_region_lit
  refine sa _ rfl hk rfl rfl rfl fun a hk => ?_
  show wpList _ _ _ [] _ _
  refine wpList_nil ?_
  refine hK1 _ _ ?_
  apply wp_seq_k; intro K2 hK2
  apply wp_region_lit
  refine sm _ rfl hk rfl rfl rfl fun a hk => ?_
  obtain ⟨y3, h4, H⟩ := bind_some H
  refine sc rfl en43 hk rfl rfl rfl (spec_l00Source_t _ A0_ p0_ l0 _ v0_ (hs.hasD (k := 1) rfl) _ h4) ?_
  rintro _ w ⟨b6, A7, p8, k5, rfl, v9, hG⟩ a hk
  have hs := hs.call0k hG [3, 2] rfl
  obtain ⟨y10, h11, H⟩ := bind_some H
  refine sc rfl en53 hk rfl rfl rfl (spec_l00Src_key_t _ b6 y3 A7 p8 _ v9 (Has.app (hs.hasD (k := 1) rfl) (hs.hasG (k := 2) rfl)) (((hs.hand [(1, 3)] rfl).dcat 2004 (k := 1) (l := 2) rfl rfl).dpick [(2, 2004)] rfl) _ h11) ?_
  rintro _ w ⟨rfl, hG⟩ a hk
  have hs := hs.back [(1, 3)] rfl hG [3] rfl
  refine sa _ rfl hk rfl rfl rfl fun a hk => ?_
  show wpList _ _ _ [] _ _
  refine wpList_nil ?_
  refine hK2 _ _ ?_
  refine wp_ret ?_
  obtain rfl := Option.some.inj H
  exact fin hk _ [(.string y10.1)] rfl ⟨rfl, trivial⟩ ⟨rfl, (hs.pick [] rfl).dnil⟩

noncomputable def slices_IndexFunc_string_string.s0 (l0 : List ByteArray) (q1 : ByteArray → Option (Bool)) (u6 : Int) : Option ((Int) ⊕ Ex (Unit) (Int)) :=
  (bif (decide (u6 < (l0.length : Int))) then (if 0 ≤ u6 ∧ u6 < (l0.length : Int) then ((q1 (l0.getD u6.toNat ByteArray.empty)).bind fun y25 => (bif y25 then (some (.inr (.ret u6))) else (some (.inl (w64 (u6 + 1)))))) else none) else (some (.inr (.out ()))))
noncomputable def slices_IndexFunc_string_string.f (l0 : List ByteArray) (q1 : ByteArray → Option (Bool)) : Option (Int) :=
  ((loopO (fun s => slices_IndexFunc_string_string.s0 l0 q1 s) 0).bind fun o => match o with | .out _ => (some (-1)) | .ret r => (some r))
set_option maxRecDepth 100000 in
set_option maxHeartbeats 0 in
theorem slices_IndexFunc_string_string_t (w0 : World) (A0_ : Option Addr) (p0_ : Nat) (l0 : List ByteArray) (k0_ : Chunk) (v0_ : View Lay.str A0_ p0_ l0 k0_) (w0_ : Has w0 k0_) (f1_ : FuncId) (c1_ : List Value) (e1_ : Enters Try.prog f1_) (q1 : ByteArray → Option (Bool)) (k1_ : Chunk) (t1_ : ∀ w, Has w k1_ → ∀ (z0 : ByteArray) (r : Bool), q1 z0 = some r → Calls Try.prog f1_ (([.string z0] : List Value) ++ c1_).toArray w (Ret (fun v w2 => v = .bool r ∧ Sat [] w w2 [] []))) (w1_ : Has w0 k1_) (r : Int) (H : slices_IndexFunc_string_string.f l0 q1 = some r) :
    Calls Try.prog 138 #[.slice A0_ l0.length p0_, .func (.func f1_) #[] c1_.toArray] w0 (Ret (fun v w => v = .int .i64 r ∧ Sat [] w0 w [] [])) := by
  have hs : Sat [] w0 w0 [(1, k0_), (2, k1_)] [] := Sat.init w0 [(1, k0_), (2, k1_)] [] (by simp only [List.mem_cons, List.not_mem_nil, or_false]; rintro x (rfl | rfl) <;> assumption) (by simp) List.nodup_nil (by simp [blks])
  unfold slices_IndexFunc_string_string.f at H
  refine enter Try.func138 rfl Try.ntmps138 rfl fun a hk => ?_
  apply wp_seq_k; intro K1 hK1
  apply wp_region_lit
  refine sa _ rfl hk rfl rfl rfl fun a hk => ?_
  show wpList _ _ _ [] _ _
  refine wpList_nil ?_
  refine hK1 _ _ ?_
  apply wp_seq_k; intro K2 hK2
  apply wp_seq_k; intro K3 hK3
  apply wp_region_lit
  refine sm _ rfl hk rfl rfl rfl fun a hk => ?_
  refine sle rfl hk rfl rfl rfl un86 fun a hk => ?_
  refine sm _ rfl hk rfl rfl rfl fun a hk => ?_
  show wpList _ _ _ [] _ _
  refine wpList_nil ?_
  refine hK3 _ _ ?_
  obtain ⟨o7, h8, HL9⟩ := bind_some H
  clear H
  obtain ⟨R10, hR10⟩ : ∃ R : Act → World → Prop, R = fun a w => o7 = .out () ∧ Kn [] 19 a ∧ Sat [] w0 w [(1, k0_), (2, k1_)] [] := ⟨_, rfl⟩
  refine wp_cutq R10 ?_ ?_
  ·refine wp_block ?_
   obtain ⟨fu12, h8⟩ := loopO_some h8
   obtain ⟨I11, hI11⟩ : ∃ I : Nat → Act → World → Prop, I = fun fu a w => ∃ (u6 : Int), loopN (fun s => slices_IndexFunc_string_string.s0 l0 q1 s) fu u6 = some o7 ∧ Kn [(0, (.slice A0_ l0.length p0_)), (1, (.func (.func f1_) #[] c1_.toArray)), (7, (.int .i64 (l0.length : Int))), (8, (.int .i64 u6))] 19 a ∧ Sat [] w0 w [(1, k0_), (2, k1_)] [] := ⟨_, rfl⟩
   refine wp_loop_ghost I11 fu12 ?_ ?_
   ·rw [hI11]
    exact ⟨0, h8, (hk.c 0 rfl (hk.c 1 rfl (hk.c 7 rfl (hk.c 8 rfl hk.k)))), (hs.pick [] rfl)⟩
   ·clear h8 hk hs
    intro fu12 a w hI0
    rw [hI11] at hI0
    obtain ⟨u6, hi, hk, hs⟩ := hI0
    obtain ⟨x13, H, h14⟩ := loop_round hi
    try dsimp only at H
    unfold slices_IndexFunc_string_string.s0 at H
    apply wp_seq_k; intro K15 hK15
    apply wp_region_lit
    refine sv (.bool (decide (u6 < (l0.length : Int)))) hk rfl rfl rfl fun a hk => ?_
    show wpList _ _ _ [] _ _
    refine wpList_nil ?_
    refine hK15 _ _ ?_
    apply wp_seq_k; intro K16 hK16
    rcases cond_some H with ⟨c17, H⟩ | ⟨c17, H⟩
    ·have hk := hk.lit 9 c17 rfl
     refine cnd_true hk rfl rfl ?_
     refine wp_skip ?_
     refine hK16 _ _ ?_
     have hs := hs.pick [] rfl
     apply wp_seq_k; intro K18 hK18
     refine wp_block ?_
     apply wp_seq_k; intro K19 hK19
     apply wp_region_lit
     refine sm _ rfl hk rfl rfl rfl fun a hk => ?_
     refine sa _ rfl hk rfl rfl rfl fun a hk => ?_
     show wpList _ _ _ [] _ _
     refine wpList_nil ?_
     refine hK19 _ _ ?_
     apply wp_seq_k; intro K20 hK20
     apply wp_region_lit
     refine sm _ rfl hk rfl rfl rfl fun a hk => ?_
     refine sm _ rfl hk rfl rfl rfl fun a hk => ?_
     refine sm _ rfl hk rfl rfl rfl fun a hk => ?_
     rcases ite_some H with ⟨c21, H⟩ | ⟨_, H⟩
     rotate_left
     ·cases H
     obtain ⟨b22, q23, hAc21⟩ := (v0_).some_ u6 c21.1 c21.2
     refine si rfl hk rfl rfl rfl rfl un86 sz9 c21.1 c21.2 hAc21 fun a hk => ?_
     obtain ⟨_, rfl, e24⟩ := (v0_).at_ ByteArray.empty u6 c21.1 c21.2
     refine sl (v := (.string (l0.getD u6.toNat ByteArray.empty))) rfl hk rfl rfl rfl ag9 ((e24 0 _ rfl).cell (hs.hasD (k := 1) rfl)) fun a hk => ?_
     obtain ⟨y25, h26, H⟩ := bind_some H
     refine scv (vs := ([(.string (l0.getD u6.toNat ByteArray.empty))] : List Value) ++ c1_) rfl rfl e1_ hk rfl rfl rfl (t1_ _ (hs.hasD (k := 2) rfl) (l0.getD u6.toNat ByteArray.empty) _ h26) ?_
     rintro _ w ⟨rfl, hG⟩ a hk
     have hs := hs.call0 hG
     show wpList _ _ _ [] _ _
     refine wpList_nil ?_
     refine hK20 _ _ ?_
     rcases cond_some H with ⟨c27, H⟩ | ⟨c27, H⟩
     ·have hk := hk.lit 16 c27 rfl
      refine cnd_true hk rfl rfl ?_
      apply wp_seq_k; intro K28 hK28
      apply wp_region_lit
      refine sm _ rfl hk rfl rfl rfl fun a hk => ?_
      refine sa _ rfl hk rfl rfl rfl fun a hk => ?_
      show wpList _ _ _ [] _ _
      refine wpList_nil ?_
      refine hK28 _ _ ?_
      refine wp_ret ?_
      obtain rfl := Option.some.inj H
      have ho7 := h14
      try dsimp only at ho7
      subst ho7
      have H := HL9
      try dsimp only at H
      obtain rfl := Option.some.inj H
      exact fin hk _ [(.int .i64 u6)] rfl ⟨rfl, trivial⟩ ⟨rfl, (hs.pick [] rfl).dnil⟩
     ·have hk := hk.lit 16 c27 rfl
      refine cnd_false hk rfl rfl ?_
      refine wp_skip ?_
      refine hK18 _ _ ?_
      apply wp_region_lit
      refine sv (.int .i64 (w64 (u6 + 1))) hk rfl rfl rfl fun a hk => ?_
      refine sm _ rfl hk rfl rfl rfl fun a hk => ?_
      show wpList _ _ _ [] _ _
      refine wpList_nil ?_
      obtain rfl := Option.some.inj H
      obtain ⟨m29, hmm29, h14⟩ := h14
      show ∃ n', n' < _ ∧ I11 n' _ _
      refine ⟨m29, hmm29, ?_⟩
      rw [hI11]
      exact ⟨(w64 (u6 + 1)), h14, (hk.c 0 rfl (hk.c 1 rfl (hk.c 7 rfl (hk.c 8 rfl hk.k)))), (hs.pick [] rfl)⟩
    ·have hk := hk.lit 9 c17 rfl
     refine cnd_false hk rfl rfl ?_
     refine wp_exit ?_
     obtain rfl := Option.some.inj H
     show R10 _ _
     rw [hR10]
     exact ⟨h14.symm, hk.k, (hs.pick [] rfl)⟩
  ·intro a w hR0
   rw [hR10] at hR0
   obtain ⟨rfl, hk, hs⟩ := hR0
   have H := HL9
   try dsimp only at H
   refine hK2 _ _ ?_
   apply wp_seq_k; intro K30 hK30
   apply wp_region_lit
   refine sa _ rfl hk rfl rfl rfl fun a hk => ?_
   show wpList _ _ _ [] _ _
   refine wpList_nil ?_
   refine hK30 _ _ ?_
   have hs := hs.pick [] rfl
   refine wp_ret ?_
   obtain rfl := Option.some.inj H
   exact fin hk _ [(.int .i64 (-1))] rfl ⟨rfl, trivial⟩ ⟨rfl, (hs.pick [] rfl).dnil⟩

noncomputable def slices_ContainsFunc_string_string.f (l0 : List ByteArray) (q1 : ByteArray → Option (Bool)) : Option (Bool) :=
  ((slices_IndexFunc_string_string.f l0 q1).bind fun y3 => (some (decide (y3 ≥ 0))))
set_option maxRecDepth 100000 in
set_option maxHeartbeats 0 in
theorem slices_ContainsFunc_string_string_t (w0 : World) (A0_ : Option Addr) (p0_ : Nat) (l0 : List ByteArray) (k0_ : Chunk) (v0_ : View Lay.str A0_ p0_ l0 k0_) (w0_ : Has w0 k0_) (f1_ : FuncId) (c1_ : List Value) (e1_ : Enters Try.prog f1_) (q1 : ByteArray → Option (Bool)) (k1_ : Chunk) (t1_ : ∀ w, Has w k1_ → ∀ (z0 : ByteArray) (r : Bool), q1 z0 = some r → Calls Try.prog f1_ (([.string z0] : List Value) ++ c1_).toArray w (Ret (fun v w2 => v = .bool r ∧ Sat [] w w2 [] []))) (w1_ : Has w0 k1_) (r : Bool) (H : slices_ContainsFunc_string_string.f l0 q1 = some r) :
    Calls Try.prog 120 #[.slice A0_ l0.length p0_, .func (.func f1_) #[] c1_.toArray] w0 (Ret (fun v w => v = .bool r ∧ Sat [] w0 w [] [])) := by
  have hs : Sat [] w0 w0 [(1, k0_), (2, k1_)] [] := Sat.init w0 [(1, k0_), (2, k1_)] [] (by simp only [List.mem_cons, List.not_mem_nil, or_false]; rintro x (rfl | rfl) <;> assumption) (by simp) List.nodup_nil (by simp [blks])
  unfold slices_ContainsFunc_string_string.f at H
  refine enter Try.func120 rfl Try.ntmps120 rfl fun a hk => ?_
  apply wp_seq_k; intro K1 hK1
  apply wp_region_lit
  refine sa _ rfl hk rfl rfl rfl fun a hk => ?_
  show wpList _ _ _ [] _ _
  refine wpList_nil ?_
  refine hK1 _ _ ?_
  apply wp_seq_k; intro K2 hK2
  apply wp_region_lit
  refine sm _ rfl hk rfl rfl rfl fun a hk => ?_
  refine sm _ rfl hk rfl rfl rfl fun a hk => ?_
  obtain ⟨y3, h4, H⟩ := bind_some H
  refine sc rfl en138 hk rfl rfl rfl (slices_IndexFunc_string_string_t _ A0_ p0_ l0 _ v0_ (hs.hasD (k := 1) rfl) f1_ c1_ e1_ q1 k1_ t1_ (hs.hasD (k := 2) rfl) _ h4) ?_
  rintro _ w ⟨rfl, hG⟩ a hk
  have hs := hs.call0 hG
  refine sv (.bool (decide (y3 ≥ 0))) hk rfl rfl rfl fun a hk => ?_
  refine sa _ rfl hk rfl rfl rfl fun a hk => ?_
  show wpList _ _ _ [] _ _
  refine wpList_nil ?_
  refine hK2 _ _ ?_
  refine wp_ret ?_
  obtain rfl := Option.some.inj H
  exact fin hk _ [(.bool (decide (y3 ≥ 0)))] rfl ⟨rfl, trivial⟩ ⟨rfl, (hs.pick [] rfl).dnil⟩

noncomputable def impl_areAll_string__c1.f (x0 : ByteArray) (q1 : ByteArray → Option (Bool)) : Option (Bool) :=
  ((q1 x0).bind fun y3 => (some (!y3)))
set_option maxRecDepth 100000 in
set_option maxHeartbeats 0 in
theorem impl_areAll_string__c1_t (w0 : World) (x0 : ByteArray) (b1_ : Nat) (f1_ : FuncId) (c1_ : List Value) (e1_ : Enters Try.prog f1_) (q1 : ByteArray → Option (Bool)) (k1_ : Chunk) (t1_ : ∀ w, Has w k1_ → ∀ (z0 : ByteArray) (r : Bool), q1 z0 = some r → Calls Try.prog f1_ (([.string z0] : List Value) ++ c1_).toArray w (Ret (fun v w2 => v = .bool r ∧ Sat [] w w2 [] []))) (w1_ : Has w0 k1_) (h1_ : Has w0 [(b1_, .cells #[.func (.func f1_) #[] c1_.toArray] 88 (0, 0))]) (r : Bool) (H : impl_areAll_string__c1.f x0 q1 = some r) :
    Calls Try.prog 121 #[.string x0, .pointer (some ⟨b1_, 0, none⟩)] w0 (Ret (fun v w => v = .bool r ∧ Sat [] w0 w [] [])) := by
  have hs : Sat [] w0 w0 [(2, k1_), (1, [(b1_, .cells #[.func (.func f1_) #[] c1_.toArray] 88 (0, 0))])] [] := Sat.init w0 [(2, k1_), (1, [(b1_, .cells #[.func (.func f1_) #[] c1_.toArray] 88 (0, 0))])] [] (by simp only [List.mem_cons, List.not_mem_nil, or_false]; rintro x (rfl | rfl) <;> assumption) (by simp) List.nodup_nil (by simp [blks])
  unfold impl_areAll_string__c1.f at H
  refine enter Try.func121 rfl Try.ntmps121 rfl fun a hk => ?_
  apply wp_seq_k; intro K1 hK1
  apply wp_region_lit
  refine sa _ rfl hk rfl rfl rfl fun a hk => ?_
  show wpList _ _ _ [] _ _
  refine wpList_nil ?_
  refine hK1 _ _ ?_
  apply wp_seq_k; intro K2 hK2
  apply wp_region_lit
  refine sl rfl hk rfl rfl rfl ag88 (box_cellD hs (k := 1) rfl rfl) fun a hk => ?_
  refine sm _ rfl hk rfl rfl rfl fun a hk => ?_
  obtain ⟨y3, h4, H⟩ := bind_some H
  refine scv (vs := ([(.string x0)] : List Value) ++ c1_) rfl rfl e1_ hk rfl rfl rfl (t1_ _ (hs.hasD (k := 2) rfl) x0 _ h4) ?_
  rintro _ w ⟨rfl, hG⟩ a hk
  have hs := hs.call0 hG
  refine sv (.bool (!y3)) hk rfl rfl rfl fun a hk => ?_
  refine sa _ rfl hk rfl rfl rfl fun a hk => ?_
  show wpList _ _ _ [] _ _
  refine wpList_nil ?_
  refine hK2 _ _ ?_
  refine wp_ret ?_
  obtain rfl := Option.some.inj H
  exact fin hk _ [(.bool (!y3))] rfl ⟨rfl, trivial⟩ ⟨rfl, (hs.pick [] rfl).dnil⟩

noncomputable def impl_areAll_string.f (l0 : List ByteArray) (q1 : ByteArray → Option (Bool)) : Option (Bool) :=
  ((slices_ContainsFunc_string_string.f l0 (fun z0 => impl_areAll_string__c1.f z0 q1)).bind fun y4 => (some (!y4)))
set_option maxRecDepth 100000 in
set_option maxHeartbeats 0 in
theorem impl_areAll_string_t (w0 : World) (A0_ : Option Addr) (p0_ : Nat) (l0 : List ByteArray) (k0_ : Chunk) (v0_ : View Lay.str A0_ p0_ l0 k0_) (w0_ : Has w0 k0_) (f1_ : FuncId) (c1_ : List Value) (e1_ : Enters Try.prog f1_) (q1 : ByteArray → Option (Bool)) (k1_ : Chunk) (t1_ : ∀ w, Has w k1_ → ∀ (z0 : ByteArray) (r : Bool), q1 z0 = some r → Calls Try.prog f1_ (([.string z0] : List Value) ++ c1_).toArray w (Ret (fun v w2 => v = .bool r ∧ Sat [] w w2 [] []))) (w1_ : Has w0 k1_) (r : Bool) (H : impl_areAll_string.f l0 q1 = some r) :
    Calls Try.prog 87 #[.slice A0_ l0.length p0_, .func (.func f1_) #[] c1_.toArray] w0 (Ret (fun v w => v = .bool r ∧ Sat [] w0 w [] [])) := by
  have hs : Sat [] w0 w0 [(1, k0_), (2, k1_)] [] := Sat.init w0 [(1, k0_), (2, k1_)] [] (by simp only [List.mem_cons, List.not_mem_nil, or_false]; rintro x (rfl | rfl) <;> assumption) (by simp) List.nodup_nil (by simp [blks])
  unfold impl_areAll_string.f at H
  refine enter Try.func87 rfl Try.ntmps87 rfl fun a hk => ?_
  apply wp_seq_k; intro K1 hK1
  apply wp_region_lit
  refine sbx 3 hs rfl hk rfl rfl rfl rfl fun b2 w a hk hs => ?_
  refine sa _ rfl hk rfl rfl rfl fun a hk => ?_
  show wpList _ _ _ [] _ _
  refine wpList_nil ?_
  refine hK1 _ _ ?_
  apply wp_seq_k; intro K3 hK3
  apply wp_region_lit
  refine sm _ rfl hk rfl rfl rfl fun a hk => ?_
  refine smf (cs := [.pointer (some ⟨b2, 0, none⟩)]) rfl hk rfl rfl rfl fun a hk => ?_
  obtain ⟨y4, h5, H⟩ := bind_some H
  refine sc rfl en120 hk rfl rfl rfl (slices_ContainsFunc_string_string_t _ A0_ p0_ l0 _ v0_ (hs.hasD (k := 1) rfl) 121 [.pointer (some ⟨b2, 0, none⟩)] en121 (fun z0 => impl_areAll_string__c1.f z0 q1) ([(b2, .cells #[.func (.func f1_) #[] c1_.toArray] 88 (0, 0))] ++ k1_) (fun w hz z0 r h => impl_areAll_string__c1_t w z0 _ f1_ c1_ e1_ q1 k1_ t1_ (Has.right hz) (Has.left hz) r h) (Has.app (hs.hasG (k := 3) rfl) (hs.hasD (k := 2) rfl)) _ h5) ?_
  rintro _ w ⟨rfl, hG⟩ a hk
  have hs := hs.call0 hG
  refine sv (.bool (!y4)) hk rfl rfl rfl fun a hk => ?_
  refine sa _ rfl hk rfl rfl rfl fun a hk => ?_
  show wpList _ _ _ [] _ _
  refine wpList_nil ?_
  refine hK3 _ _ ?_
  refine wp_ret ?_
  obtain rfl := Option.some.inj H
  exact fin hk _ [(.bool (!y4))] rfl ⟨rfl, trivial⟩ ⟨rfl, (hs.pick [] rfl).dnil⟩

noncomputable def impl_areShort_c1.f (x0 : ByteArray) : Option (Bool) :=
  (some (decide ((x0.size : Int) ≤ 65536)))
set_option maxRecDepth 100000 in
set_option maxHeartbeats 0 in
theorem impl_areShort_c1_t (w0 : World) (x0 : ByteArray) (r : Bool) (H : impl_areShort_c1.f x0 = some r) :
    Calls Try.prog 88 #[.string x0] w0 (Ret (fun v w => v = .bool r ∧ Sat [] w0 w [] [])) := by
  have hs : Sat [] w0 w0 [] [] := Sat.init w0 [] [] (by simp) (by simp) List.nodup_nil (by simp [blks])
  unfold impl_areShort_c1.f at H
  refine enter Try.func88 rfl Try.ntmps88 rfl fun a hk => ?_
  apply wp_seq_k; intro K1 hK1
  apply wp_region_lit
  refine sa _ rfl hk rfl rfl rfl fun a hk => ?_
  show wpList _ _ _ [] _ _
  refine wpList_nil ?_
  refine hK1 _ _ ?_
  apply wp_seq_k; intro K2 hK2
  apply wp_region_lit
  refine sm _ rfl hk rfl rfl rfl fun a hk => ?_
  refine sles rfl hk rfl rfl rfl un9 fun a hk => ?_
  refine sv (.bool (decide ((x0.size : Int) ≤ 65536))) hk rfl rfl rfl fun a hk => ?_
  refine sa _ rfl hk rfl rfl rfl fun a hk => ?_
  show wpList _ _ _ [] _ _
  refine wpList_nil ?_
  refine hK2 _ _ ?_
  refine wp_ret ?_
  obtain rfl := Option.some.inj H
  exact fin hk _ [(.bool (decide ((x0.size : Int) ≤ 65536)))] rfl ⟨rfl, trivial⟩ ⟨rfl, (hs.pick [] rfl).dnil⟩

noncomputable def impl_areShort.f (l0 : List ByteArray) : Option (Bool) :=
  ((impl_areAll_string.f l0 impl_areShort_c1.f).bind fun y3 => (some y3))
set_option maxRecDepth 100000 in
set_option maxHeartbeats 0 in
theorem impl_areShort_t (w0 : World) (A0_ : Option Addr) (p0_ : Nat) (l0 : List ByteArray) (k0_ : Chunk) (v0_ : View Lay.str A0_ p0_ l0 k0_) (w0_ : Has w0 k0_) (r : Bool) (H : impl_areShort.f l0 = some r) :
    Calls Try.prog 45 #[.slice A0_ l0.length p0_] w0 (Ret (fun v w => v = .bool r ∧ Sat [] w0 w [] [])) := by
  have hs : Sat [] w0 w0 [(1, k0_)] [] := Sat.init w0 [(1, k0_)] [] (by simp only [List.mem_cons, List.not_mem_nil, or_false]; rintro x (rfl) <;> assumption) (by simp) List.nodup_nil (by simp [blks])
  unfold impl_areShort.f at H
  refine enter Try.func45 rfl Try.ntmps45 rfl fun a hk => ?_
  apply wp_seq_k; intro K1 hK1
  apply wp_region_lit
  refine sa _ rfl hk rfl rfl rfl fun a hk => ?_
  show wpList _ _ _ [] _ _
  refine wpList_nil ?_
  refine hK1 _ _ ?_
  apply wp_seq_k; intro K2 hK2
  apply wp_region_lit
  refine sm _ rfl hk rfl rfl rfl fun a hk => ?_
  obtain ⟨y3, h4, H⟩ := bind_some H
  refine sc rfl en87 hk rfl rfl rfl (impl_areAll_string_t _ A0_ p0_ l0 _ v0_ (hs.hasD (k := 1) rfl) 88 [] en88 impl_areShort_c1.f [] (fun w _ z0 r h => impl_areShort_c1_t w z0 r h) (Has.nil _) _ h4) ?_
  rintro _ w ⟨rfl, hG⟩ a hk
  have hs := hs.call0 hG
  refine sa _ rfl hk rfl rfl rfl fun a hk => ?_
  show wpList _ _ _ [] _ _
  refine wpList_nil ?_
  refine hK2 _ _ ?_
  refine wp_ret ?_
  obtain rfl := Option.some.inj H
  exact fin hk _ [(.bool y3)] rfl ⟨rfl, trivial⟩ ⟨rfl, (hs.pick [] rfl).dnil⟩

noncomputable def impl_clamped.s0 (x0 : ByteArray) (u13 : List Int) (u17 : Int) : Option (((List Int) × Int) ⊕ Ex ((List Int)) (ByteArray)) :=
  (bif (decide (u17 < 16)) then (if 0 ≤ u17 ∧ u17 < ((bytesOf (x0.extract 0 (16 : Int).toNat)).length : Int) then (if 0 ≤ u17 ∧ u17 < ((bytesOf (x0.extract 0 (16 : Int).toNat)).length : Int) then (some (.inl ((u13.set u17.toNat (IntKind.wrap .u8 ((BitVec.ofInt 8 (u13.getD u17.toNat 0) &&& BitVec.ofInt 8 15).toNat : Int))), (w64 (u17 + 4))))) else none) else none) else (some (.inr (.out u13))))
noncomputable def impl_clamped.s1 (x0 : ByteArray) (u49 : List Int) (u53 : Int) : Option (((List Int) × Int) ⊕ Ex ((List Int)) (ByteArray)) :=
  (bif (decide (u53 < 16)) then (if 0 ≤ u53 ∧ u53 < ((bytesOf (x0.extract 0 (16 : Int).toNat)).length : Int) then (if 0 ≤ u53 ∧ u53 < ((bytesOf (x0.extract 0 (16 : Int).toNat)).length : Int) then (some (.inl ((u49.set u53.toNat (IntKind.wrap .u8 ((BitVec.ofInt 8 (u49.getD u53.toNat 0) &&& BitVec.ofInt 8 252).toNat : Int))), (w64 (u53 + 4))))) else none) else none) else (some (.inr (.out u49))))
noncomputable def impl_clamped.f (x0 : ByteArray) : Option (ByteArray) :=
  (if 0 ≤ (16 : Int) ∧ (16 : Int) ≤ (x0.size : Int) then (if (x0.extract 0 (16 : Int).toNat).size ≤ 1073741824 then ((loopO (fun s => impl_clamped.s0 x0 s.1 s.2) ((bytesOf (x0.extract 0 (16 : Int).toNat)), 3)).bind fun o => match o with | .out u18 => ((loopO (fun s => impl_clamped.s1 x0 s.1 s.2) (u18, 4)).bind fun o => match o with | .out u54 => (some (strOfNums u54)) | .ret r => (some r)) | .ret r => (some r)) else none) else none)
set_option maxRecDepth 100000 in
set_option maxHeartbeats 0 in
theorem impl_clamped_t (w0 : World) (x0 : ByteArray) (r : ByteArray) (H : impl_clamped.f x0 = some r) :
    Calls Try.prog 56 #[.string x0] w0 (Ret (fun v w => v = .string r ∧ Sat [] w0 w [] [])) := by
  have hs : Sat [] w0 w0 [] [] := Sat.init w0 [] [] (by simp) (by simp) List.nodup_nil (by simp [blks])
  unfold impl_clamped.f at H
  refine enter Try.func56 rfl Try.ntmps56 rfl fun a hk => ?_
  apply wp_seq_k; intro K1 hK1
  apply wp_region_lit
  refine sa _ rfl hk rfl rfl rfl fun a hk => ?_
  show wpList _ _ _ [] _ _
  refine wpList_nil ?_
  refine hK1 _ _ ?_
  apply wp_seq_k; intro K2 hK2
  apply wp_region_lit
  refine sm _ rfl hk rfl rfl rfl fun a hk => ?_
  rcases ite_some H with ⟨c3, H⟩ | ⟨_, H⟩
  rotate_left
  ·cases H
  refine ssl_h rfl hk rfl rfl rfl rfl un9 c3.1 c3.2 fun a hk => ?_
  rcases ite_some H with ⟨c4, H⟩ | ⟨_, H⟩
  rotate_left
  ·cases H
  refine scb 1 hs rfl hk rfl rfl rfl un9 un22 un5 c4 fun b5 p6 k7 w a hk o8 hs => ?_
  refine sa _ rfl hk rfl rfl rfl fun a hk => ?_
  show wpList _ _ _ [] _ _
  refine wpList_nil ?_
  refine hK2 _ _ ?_
  apply wp_seq_k; intro K9 hK9
  apply wp_seq_k; intro K10 hK10
  apply wp_region_lit
  refine sa _ rfl hk rfl rfl rfl fun a hk => ?_
  show wpList _ _ _ [] _ _
  refine wpList_nil ?_
  refine hK10 _ _ ?_
  obtain ⟨o22, h23, HL24⟩ := bind_some H
  clear H
  obtain ⟨R25, hR25⟩ : ∃ R : Act → World → Prop, R = fun a w => ∃ (u18 : List Int) (k19 : Chunk), o22 = .out u18 ∧ Kn [(3, (.slice (some ⟨b5, 0, none⟩) (bytesOf (x0.extract 0 (16 : Int).toNat)).length p6))] 31 a ∧ Sat [] w0 w [] [(1, k19)] ∧ OwnM (Lay.int .u8) 5 (some ⟨b5, 0, none⟩) p6 u18 k19 ∧ u18.length = (bytesOf (x0.extract 0 (16 : Int).toNat)).length := ⟨_, rfl⟩
  refine wp_cutq R25 ?_ ?_
  ·refine wp_block ?_
   obtain ⟨fu27, h23⟩ := loopO_some h23
   obtain ⟨I26, hI26⟩ : ∃ I : Nat → Act → World → Prop, I = fun fu a w => ∃ (u13 : List Int) (u17 : Int) (k14 : Chunk), loopN (fun s => impl_clamped.s0 x0 s.1 s.2) fu (u13, u17) = some o22 ∧ Kn [(3, (.slice (some ⟨b5, 0, none⟩) (bytesOf (x0.extract 0 (16 : Int).toNat)).length p6)), (4, (.int .i64 u17))] 31 a ∧ Sat [] w0 w [] [(1, k14)] ∧ OwnM (Lay.int .u8) 5 (some ⟨b5, 0, none⟩) p6 u13 k14 ∧ u13.length = (bytesOf (x0.extract 0 (16 : Int).toNat)).length := ⟨_, rfl⟩
   refine wp_loop_ghost I26 fu27 ?_ ?_
   ·rw [hI26]
    exact ⟨(bytesOf (x0.extract 0 (16 : Int).toNat)), 3, _, h23, (hk.c 3 rfl (hk.c 4 rfl hk.k)), (hs.pick [(1, 1)] rfl), o8, rfl⟩
   ·clear h23 hk hs
    intro fu27 a w hI0
    rw [hI26] at hI0
    obtain ⟨u13, u17, k14, hi, hk, hs, o15, lh16⟩ := hI0
    obtain ⟨x28, H, h29⟩ := loop_round hi
    try dsimp only at H
    unfold impl_clamped.s0 at H
    apply wp_seq_k; intro K30 hK30
    apply wp_seq_k; intro K31 hK31
    apply wp_region_lit
    refine sm _ rfl hk rfl rfl rfl fun a hk => ?_
    refine sv (.bool (decide (u17 < 16))) hk rfl rfl rfl fun a hk => ?_
    show wpList _ _ _ [] _ _
    refine wpList_nil ?_
    refine hK31 _ _ ?_
    have hs := hs.pick [(1, 1)] rfl
    rcases cond_some H with ⟨c32, H⟩ | ⟨c32, H⟩
    ·have hk := hk.lit 10 c32 rfl
     refine cnd_true hk rfl rfl ?_
     refine wp_skip ?_
     refine hK30 _ _ ?_
     apply wp_seq_k; intro K33 hK33
     refine wp_block ?_
     apply wp_region_lit
     refine sm _ rfl hk rfl rfl rfl fun a hk => ?_
     refine sm _ rfl hk rfl rfl rfl fun a hk => ?_
     rcases ite_some H with ⟨c34, H⟩ | ⟨_, H⟩
     rotate_left
     ·cases H
     obtain ⟨b35, q36, hAc34⟩ := (o15.view).some_ u17 c34.1 (by rw [lh16]; exact c34.2)
     refine si rfl hk rfl rfl rfl rfl un22 sz5 c34.1 c34.2 hAc34 fun a hk => ?_
     obtain ⟨_, rfl, e37⟩ := (o15.view).at_ 0 u17 c34.1 (by rw [lh16]; exact c34.2)
     refine sl (v := (.int .u8 (u13.getD u17.toNat 0))) rfl hk rfl rfl rfl ag5 ((e37 0 _ rfl).cell (hs.hasG (k := 1) rfl)) fun a hk => ?_
     refine sv (.int .u8 (IntKind.wrap .u8 ((BitVec.ofInt 8 (u13.getD u17.toNat 0) &&& BitVec.ofInt 8 15).toNat : Int))) hk rfl rfl rfl fun a hk => ?_
     rcases ite_some H with ⟨c38, H⟩ | ⟨_, H⟩
     rotate_left
     ·cases H
     obtain ⟨b39, q40, hAc38⟩ := (o15.view).some_ u17 c38.1 (by rw [lh16]; exact c38.2)
     refine si rfl hk rfl rfl rfl rfl un22 sz5 c38.1 c38.2 hAc38 fun a hk => ?_
     refine sob 1 (IntKind.wrap .u8 ((BitVec.ofInt 8 (u13.getD u17.toNat 0) &&& BitVec.ofInt 8 15).toNat : Int)) hs rfl o15 c38.1 (by rw [lh16]; exact c38.2) rfl hk rfl rfl rfl rfl rfl sz5 rfl rfl rfl ⟨rfl, rfl⟩ fun k41 w a hk o42 hs => ?_
     have lh43 : (u13.set u17.toNat (IntKind.wrap .u8 ((BitVec.ofInt 8 (u13.getD u17.toNat 0) &&& BitVec.ofInt 8 15).toNat : Int))).length = (bytesOf (x0.extract 0 (16 : Int).toNat)).length := by rw [List.length_set]; exact lh16
     show wpList _ _ _ [] _ _
     refine wpList_nil ?_
     refine hK33 _ _ ?_
     apply wp_region_lit
     refine sm _ rfl hk rfl rfl rfl fun a hk => ?_
     refine sv (.int .i64 (w64 (u17 + 4))) hk rfl rfl rfl fun a hk => ?_
     refine sa _ rfl hk rfl rfl rfl fun a hk => ?_
     show wpList _ _ _ [] _ _
     refine wpList_nil ?_
     obtain rfl := Option.some.inj H
     obtain ⟨m44, hmm44, h29⟩ := h29
     show ∃ n', n' < _ ∧ I26 n' _ _
     refine ⟨m44, hmm44, ?_⟩
     rw [hI26]
     exact ⟨(u13.set u17.toNat (IntKind.wrap .u8 ((BitVec.ofInt 8 (u13.getD u17.toNat 0) &&& BitVec.ofInt 8 15).toNat : Int))), (w64 (u17 + 4)), _, h29, (hk.c 3 rfl (hk.c 4 rfl hk.k)), (hs.pick [(1, 1)] rfl), o42, lh43⟩
    ·have hk := hk.lit 10 c32 rfl
     refine cnd_false hk rfl rfl ?_
     refine wp_exit ?_
     obtain rfl := Option.some.inj H
     show R25 _ _
     rw [hR25]
     exact ⟨u13, _, h29.symm, (hk.c 3 rfl hk.k), (hs.pick [(1, 1)] rfl), o15, lh16⟩
  ·intro a w hR0
   rw [hR25] at hR0
   obtain ⟨u18, k19, rfl, hk, hs, o20, lh21⟩ := hR0
   have H := HL24
   try dsimp only at H
   refine hK9 _ _ ?_
   have hs := hs.pick [(1, 1)] rfl
   apply wp_seq_k; intro K45 hK45
   apply wp_seq_k; intro K46 hK46
   apply wp_region_lit
   refine sa _ rfl hk rfl rfl rfl fun a hk => ?_
   show wpList _ _ _ [] _ _
   refine wpList_nil ?_
   refine hK46 _ _ ?_
   obtain ⟨o58, h59, HL60⟩ := bind_some H
   clear H
   obtain ⟨R61, hR61⟩ : ∃ R : Act → World → Prop, R = fun a w => ∃ (u54 : List Int) (k55 : Chunk), o58 = .out u54 ∧ Kn [(3, (.slice (some ⟨b5, 0, none⟩) (bytesOf (x0.extract 0 (16 : Int).toNat)).length p6))] 31 a ∧ Sat [] w0 w [] [(1, k55)] ∧ OwnM (Lay.int .u8) 5 (some ⟨b5, 0, none⟩) p6 u54 k55 ∧ u54.length = (bytesOf (x0.extract 0 (16 : Int).toNat)).length := ⟨_, rfl⟩
   refine wp_cutq R61 ?_ ?_
   ·refine wp_block ?_
    obtain ⟨fu63, h59⟩ := loopO_some h59
    obtain ⟨I62, hI62⟩ : ∃ I : Nat → Act → World → Prop, I = fun fu a w => ∃ (u49 : List Int) (u53 : Int) (k50 : Chunk), loopN (fun s => impl_clamped.s1 x0 s.1 s.2) fu (u49, u53) = some o58 ∧ Kn [(3, (.slice (some ⟨b5, 0, none⟩) (bytesOf (x0.extract 0 (16 : Int).toNat)).length p6)), (5, (.int .i64 u53))] 31 a ∧ Sat [] w0 w [] [(1, k50)] ∧ OwnM (Lay.int .u8) 5 (some ⟨b5, 0, none⟩) p6 u49 k50 ∧ u49.length = (bytesOf (x0.extract 0 (16 : Int).toNat)).length := ⟨_, rfl⟩
    refine wp_loop_ghost I62 fu63 ?_ ?_
    ·rw [hI62]
     exact ⟨u18, 4, _, h59, (hk.c 3 rfl (hk.c 5 rfl hk.k)), (hs.pick [(1, 1)] rfl), o20, lh21⟩
    ·clear h59 hk hs
     intro fu63 a w hI0
     rw [hI62] at hI0
     obtain ⟨u49, u53, k50, hi, hk, hs, o51, lh52⟩ := hI0
     obtain ⟨x64, H, h65⟩ := loop_round hi
     try dsimp only at H
     unfold impl_clamped.s1 at H
     apply wp_seq_k; intro K66 hK66
     apply wp_seq_k; intro K67 hK67
     apply wp_region_lit
     refine sm _ rfl hk rfl rfl rfl fun a hk => ?_
     refine sv (.bool (decide (u53 < 16))) hk rfl rfl rfl fun a hk => ?_
     show wpList _ _ _ [] _ _
     refine wpList_nil ?_
     refine hK67 _ _ ?_
     rcases cond_some H with ⟨c68, H⟩ | ⟨c68, H⟩
     ·have hk := hk.lit 20 c68 rfl
      refine cnd_true hk rfl rfl ?_
      refine wp_skip ?_
      refine hK66 _ _ ?_
      apply wp_seq_k; intro K69 hK69
      refine wp_block ?_
      apply wp_region_lit
      refine sm _ rfl hk rfl rfl rfl fun a hk => ?_
      refine sm _ rfl hk rfl rfl rfl fun a hk => ?_
      rcases ite_some H with ⟨c70, H⟩ | ⟨_, H⟩
      rotate_left
      ·cases H
      obtain ⟨b71, q72, hAc70⟩ := (o51.view).some_ u53 c70.1 (by rw [lh52]; exact c70.2)
      refine si rfl hk rfl rfl rfl rfl un22 sz5 c70.1 c70.2 hAc70 fun a hk => ?_
      obtain ⟨_, rfl, e73⟩ := (o51.view).at_ 0 u53 c70.1 (by rw [lh52]; exact c70.2)
      refine sl (v := (.int .u8 (u49.getD u53.toNat 0))) rfl hk rfl rfl rfl ag5 ((e73 0 _ rfl).cell (hs.hasG (k := 1) rfl)) fun a hk => ?_
      refine sv (.int .u8 (IntKind.wrap .u8 ((BitVec.ofInt 8 (u49.getD u53.toNat 0) &&& BitVec.ofInt 8 252).toNat : Int))) hk rfl rfl rfl fun a hk => ?_
      rcases ite_some H with ⟨c74, H⟩ | ⟨_, H⟩
      rotate_left
      ·cases H
      obtain ⟨b75, q76, hAc74⟩ := (o51.view).some_ u53 c74.1 (by rw [lh52]; exact c74.2)
      refine si rfl hk rfl rfl rfl rfl un22 sz5 c74.1 c74.2 hAc74 fun a hk => ?_
      refine sob 1 (IntKind.wrap .u8 ((BitVec.ofInt 8 (u49.getD u53.toNat 0) &&& BitVec.ofInt 8 252).toNat : Int)) hs rfl o51 c74.1 (by rw [lh52]; exact c74.2) rfl hk rfl rfl rfl rfl rfl sz5 rfl rfl rfl ⟨rfl, rfl⟩ fun k77 w a hk o78 hs => ?_
      have lh79 : (u49.set u53.toNat (IntKind.wrap .u8 ((BitVec.ofInt 8 (u49.getD u53.toNat 0) &&& BitVec.ofInt 8 252).toNat : Int))).length = (bytesOf (x0.extract 0 (16 : Int).toNat)).length := by rw [List.length_set]; exact lh52
      show wpList _ _ _ [] _ _
      refine wpList_nil ?_
      refine hK69 _ _ ?_
      have hs := hs.pick [(1, 1)] rfl
      apply wp_region_lit
      refine sm _ rfl hk rfl rfl rfl fun a hk => ?_
      refine sv (.int .i64 (w64 (u53 + 4))) hk rfl rfl rfl fun a hk => ?_
      refine sa _ rfl hk rfl rfl rfl fun a hk => ?_
      show wpList _ _ _ [] _ _
      refine wpList_nil ?_
      obtain rfl := Option.some.inj H
      obtain ⟨m80, hmm80, h65⟩ := h65
      show ∃ n', n' < _ ∧ I62 n' _ _
      refine ⟨m80, hmm80, ?_⟩
      rw [hI62]
      exact ⟨(u49.set u53.toNat (IntKind.wrap .u8 ((BitVec.ofInt 8 (u49.getD u53.toNat 0) &&& BitVec.ofInt 8 252).toNat : Int))), (w64 (u53 + 4)), _, h65, (hk.c 3 rfl (hk.c 5 rfl hk.k)), (hs.pick [(1, 1)] rfl), o78, lh79⟩
     ·have hk := hk.lit 20 c68 rfl
      refine cnd_false hk rfl rfl ?_
      refine wp_exit ?_
      obtain rfl := Option.some.inj H
      show R61 _ _
      rw [hR61]
      exact ⟨u49, _, h65.symm, (hk.c 3 rfl hk.k), (hs.pick [(1, 1)] rfl), o51, lh52⟩
   ·intro a w hR0
    rw [hR61] at hR0
    obtain ⟨u54, k55, rfl, hk, hs, o56, lh57⟩ := hR0
    have H := HL60
    try dsimp only at H
    refine hK45 _ _ ?_
    apply wp_seq_k; intro K81 hK81
    apply wp_region_lit
    refine sm _ rfl hk rfl rfl rfl fun a hk => ?_
    refine sbt (xs := u54) rfl hk rfl rfl lh57.symm rfl un22 un5 un9 o56.view (hs.hasG (k := 1) rfl) fun a hk => ?_
    refine sa _ rfl hk rfl rfl rfl fun a hk => ?_
    show wpList _ _ _ [] _ _
    refine wpList_nil ?_
    refine hK81 _ _ ?_
    refine wp_ret ?_
    obtain rfl := Option.some.inj H
    exact fin hk _ [(.string (strOfNums u54))] rfl ⟨rfl, trivial⟩ ⟨rfl, (hs.pick [] rfl).dnil⟩

noncomputable def impl_limbsOf.s1 (x0 : ByteArray) (u24 : Int) (u49 : List Int) (u53 : Int) : Option (((List Int) × Int) ⊕ Ex ((List Int)) ((List Int))) :=
  (bif (decide (u53 < 8)) then (if 0 ≤ u53 then (((bif ((IntKind.wrap .u8 ((BitVec.ofInt 8 (Int.fdiv ((bytesOf x0).getD u24.toNat 0) (2 ^ min u53.toNat 8)) &&& BitVec.ofInt 8 1).toNat : Int)) == 1) then (if 0 ≤ (IntKind.wrap .i64 (Int.tdiv (w64 ((w64 (8 * u24)) + u53)) 26)) ∧ (IntKind.wrap .i64 (Int.tdiv (w64 ((w64 (8 * u24)) + u53)) 26)) < (5 : Int) then (if 0 ≤ (Int.tmod (w64 ((w64 (8 * u24)) + u53)) 26) then (if 0 ≤ (IntKind.wrap .i64 (Int.tdiv (w64 ((w64 (8 * u24)) + u53)) 26)) ∧ (IntKind.wrap .i64 (Int.tdiv (w64 ((w64 (8 * u24)) + u53)) 26)) < (5 : Int) then (some (u49.set (IntKind.wrap .i64 (Int.tdiv (w64 ((w64 (8 * u24)) + u53)) 26)).toNat (IntKind.wrap .u64 ((BitVec.ofInt 64 (u49.getD (IntKind.wrap .i64 (Int.tdiv (w64 ((w64 (8 * u24)) + u53)) 26)).toNat 0) ||| BitVec.ofInt 64 (IntKind.wrap .u64 (1 * 2 ^ min (Int.tmod (w64 ((w64 (8 * u24)) + u53)) 26).toNat 64))).toNat : Int)))) else none) else none) else none) else (some u49)) : Option ((List Int))).bind fun u75 => (some (.inl (u75, (w64 (u53 + 1)))))) else none) else (some (.inr (.out u49))))
noncomputable def impl_limbsOf.s0 (x0 : ByteArray) (u20 : List Int) (u24 : Int) : Option (((List Int) × Int) ⊕ Ex ((List Int)) ((List Int))) :=
  (bif (decide (u24 < ((bytesOf x0).length : Int))) then (if 0 ≤ u24 ∧ u24 < ((bytesOf x0).length : Int) then ((loopO (fun s => impl_limbsOf.s1 x0 u24 s.1 s.2) (u20, 0)).bind fun o => match o with | .out u54 => (some (.inl (u54, (w64 (u24 + 1))))) | .ret r => (some (.inr (.ret r)))) else none) else (some (.inr (.out u20))))
noncomputable def impl_limbsOf.f (x0 : ByteArray) : Option ((List Int)) :=
  (if x0.size ≤ 1073741824 then ((loopO (fun s => impl_limbsOf.s0 x0 s.1 s.2) ((List.replicate 5 (0 : Int)), 0)).bind fun o => match o with | .out u25 => (some u25) | .ret r => (some r)) else none)
set_option maxRecDepth 100000 in
set_option maxHeartbeats 0 in
theorem impl_limbsOf_t (w0 : World) (x0 : ByteArray) (r : (List Int)) (H : impl_limbsOf.f x0 = some r) :
    Calls Try.prog 97 #[.string x0] w0 (Ret (fun v w => v = aggI .u64 r ∧ r.length = 5 ∧ Sat [] w0 w [] [])) := by
  have hs : Sat [] w0 w0 [] [] := Sat.init w0 [] [] (by simp) (by simp) List.nodup_nil (by simp [blks])
  unfold impl_limbsOf.f at H
  refine enter Try.func97 rfl Try.ntmps97 rfl fun a hk => ?_
  apply wp_seq_k; intro K1 hK1
  apply wp_region_lit
  refine sala 1 ((Lay.int .u64)) (m := 5) (z := 0) (zc := [.int .u64 0]) hs rfl hk rfl rfl ze99 (by exact ⟨rfl, rfl⟩) rfl rfl rfl fun b2 k3 w a hk o4 hs => ?_
  have lh5 : (List.replicate 5 (0 : Int)).length = 5 := List.length_replicate
  show wpList _ _ _ [] _ _
  refine wpList_nil ?_
  refine hK1 _ _ ?_
  apply wp_seq_k; intro K6 hK6
  apply wp_region_lit
  refine sala 2 ((Lay.int .u64)) (m := 5) (z := 0) (zc := [.int .u64 0]) hs rfl hk rfl rfl ze99 (by exact ⟨rfl, rfl⟩) rfl rfl rfl fun b7 k8 w a hk o9 hs => ?_
  have lh10 : (List.replicate 5 (0 : Int)).length = 5 := List.length_replicate
  show wpList _ _ _ [] _ _
  refine wpList_nil ?_
  refine hK6 _ _ ?_
  apply wp_seq_k; intro K11 hK11
  apply wp_seq_k; intro K12 hK12
  apply wp_region_lit
  refine sm _ rfl hk rfl rfl rfl fun a hk => ?_
  rcases ite_some H with ⟨c13, H⟩ | ⟨_, H⟩
  rotate_left
  ·cases H
  refine scb 3 hs rfl hk rfl rfl rfl un9 un22 un5 c13 fun b14 p15 k16 w a hk o17 hs => ?_
  refine sle rfl hk rfl rfl rfl un22 fun a hk => ?_
  refine sm _ rfl hk rfl rfl rfl fun a hk => ?_
  show wpList _ _ _ [] _ _
  refine wpList_nil ?_
  refine hK12 _ _ ?_
  obtain ⟨o29, h30, HL31⟩ := bind_some H
  clear H
  obtain ⟨R32, hR32⟩ : ∃ R : Act → World → Prop, R = fun a w => ∃ (u25 : List Int) (k26 : Chunk), o29 = .out u25 ∧ Kn [(2, (.pointer (some ⟨b2, 0, none⟩))), (3, (.pointer (some ⟨b7, 0, none⟩)))] 40 a ∧ Sat [] w0 w [] [(1, k3), (2, k26)] ∧ Own (Lay.int .u64) 99 (some ⟨b7, 0, none⟩) 5 u25 k26 ∧ u25.length = 5 := ⟨_, rfl⟩
  refine wp_cutq R32 ?_ ?_
  ·refine wp_block ?_
   obtain ⟨fu34, h30⟩ := loopO_some h30
   obtain ⟨I33, hI33⟩ : ∃ I : Nat → Act → World → Prop, I = fun fu a w => ∃ (u20 : List Int) (u24 : Int) (k21 : Chunk), loopN (fun s => impl_limbsOf.s0 x0 s.1 s.2) fu (u20, u24) = some o29 ∧ Kn [(2, (.pointer (some ⟨b2, 0, none⟩))), (3, (.pointer (some ⟨b7, 0, none⟩))), (9, (.slice (some ⟨b14, 0, none⟩) (bytesOf x0).length p15)), (10, (.int .i64 ((bytesOf x0).length : Int))), (11, (.int .i64 u24))] 40 a ∧ Sat [] w0 w [] [(1, k3), (2, k21), (3, k16)] ∧ Own (Lay.int .u64) 99 (some ⟨b7, 0, none⟩) 5 u20 k21 ∧ u20.length = 5 := ⟨_, rfl⟩
   refine wp_loop_ghost I33 fu34 ?_ ?_
   ·rw [hI33]
    exact ⟨(List.replicate 5 (0 : Int)), 0, _, h30, (hk.c 2 rfl (hk.c 3 rfl (hk.c 9 rfl (hk.c 10 rfl (hk.c 11 rfl hk.k))))), (hs.pick [(1, 1), (2, 2), (3, 3)] rfl), o9, lh10⟩
   ·clear h30 hk hs
    intro fu34 a w hI0
    rw [hI33] at hI0
    obtain ⟨u20, u24, k21, hi, hk, hs, o22, lh23⟩ := hI0
    obtain ⟨x35, H, h36⟩ := loop_round hi
    try dsimp only at H
    unfold impl_limbsOf.s0 at H
    apply wp_seq_k; intro K37 hK37
    apply wp_region_lit
    refine sv (.bool (decide (u24 < ((bytesOf x0).length : Int)))) hk rfl rfl rfl fun a hk => ?_
    show wpList _ _ _ [] _ _
    refine wpList_nil ?_
    refine hK37 _ _ ?_
    have hs := hs.pick [(1, 1), (2, 2), (3, 3)] rfl
    apply wp_seq_k; intro K38 hK38
    rcases cond_some H with ⟨c39, H⟩ | ⟨c39, H⟩
    ·have hk := hk.lit 12 c39 rfl
     refine cnd_true hk rfl rfl ?_
     refine wp_skip ?_
     refine hK38 _ _ ?_
     apply wp_seq_k; intro K40 hK40
     refine wp_block ?_
     apply wp_seq_k; intro K41 hK41
     apply wp_region_lit
     refine sm _ rfl hk rfl rfl rfl fun a hk => ?_
     rcases ite_some H with ⟨c42, H⟩ | ⟨_, H⟩
     rotate_left
     ·cases H
     obtain ⟨b43, q44, hAc42⟩ := (o17.view).some_ u24 c42.1 c42.2
     refine si rfl hk rfl rfl rfl rfl un22 sz5 c42.1 c42.2 hAc42 fun a hk => ?_
     obtain ⟨_, rfl, e45⟩ := (o17.view).at_ 0 u24 c42.1 c42.2
     refine sl (v := (.int .u8 ((bytesOf x0).getD u24.toNat 0))) rfl hk rfl rfl rfl ag5 ((e45 0 _ rfl).cell (hs.hasG (k := 3) rfl)) fun a hk => ?_
     refine sa _ rfl hk rfl rfl rfl fun a hk => ?_
     refine sa _ rfl hk rfl rfl rfl fun a hk => ?_
     show wpList _ _ _ [] _ _
     refine wpList_nil ?_
     refine hK41 _ _ ?_
     apply wp_seq_k; intro K46 hK46
     apply wp_region_lit
     refine sm _ rfl hk rfl rfl rfl fun a hk => ?_
     show wpList _ _ _ [] _ _
     refine wpList_nil ?_
     refine hK46 _ _ ?_
     obtain ⟨o58, h59, HL60⟩ := bind_some H
     clear H
     obtain ⟨R61, hR61⟩ : ∃ R : Act → World → Prop, R = fun a w => ∃ (u54 : List Int) (k55 : Chunk), o58 = .out u54 ∧ Kn [(2, (.pointer (some ⟨b2, 0, none⟩))), (3, (.pointer (some ⟨b7, 0, none⟩))), (9, (.slice (some ⟨b14, 0, none⟩) (bytesOf x0).length p15)), (10, (.int .i64 ((bytesOf x0).length : Int))), (11, (.int .i64 u24))] 40 a ∧ Sat [] w0 w [] [(1, k3), (2, k55), (3, k16)] ∧ Own (Lay.int .u64) 99 (some ⟨b7, 0, none⟩) 5 u54 k55 ∧ u54.length = 5 := ⟨_, rfl⟩
     refine wp_cutq R61 ?_ ?_
     ·refine wp_block ?_
      obtain ⟨fu63, h59⟩ := loopO_some h59
      obtain ⟨I62, hI62⟩ : ∃ I : Nat → Act → World → Prop, I = fun fu a w => ∃ (u49 : List Int) (u53 : Int) (k50 : Chunk), loopN (fun s => impl_limbsOf.s1 x0 u24 s.1 s.2) fu (u49, u53) = some o58 ∧ Kn [(2, (.pointer (some ⟨b2, 0, none⟩))), (3, (.pointer (some ⟨b7, 0, none⟩))), (4, (.int .i64 u24)), (5, (.int .u8 ((bytesOf x0).getD u24.toNat 0))), (9, (.slice (some ⟨b14, 0, none⟩) (bytesOf x0).length p15)), (10, (.int .i64 ((bytesOf x0).length : Int))), (11, (.int .i64 u24)), (16, (.int .i64 u53))] 40 a ∧ Sat [] w0 w [] [(1, k3), (2, k50), (3, k16)] ∧ Own (Lay.int .u64) 99 (some ⟨b7, 0, none⟩) 5 u49 k50 ∧ u49.length = 5 := ⟨_, rfl⟩
      refine wp_loop_ghost I62 fu63 ?_ ?_
      ·rw [hI62]
       exact ⟨u20, 0, _, h59, (hk.c 2 rfl (hk.c 3 rfl (hk.c 4 rfl (hk.c 5 rfl (hk.c 9 rfl (hk.c 10 rfl (hk.c 11 rfl (hk.c 16 rfl hk.k)))))))), (hs.pick [(1, 1), (2, 2), (3, 3)] rfl), o22, lh23⟩
      ·clear h59 hk hs
       intro fu63 a w hI0
       rw [hI62] at hI0
       obtain ⟨u49, u53, k50, hi, hk, hs, o51, lh52⟩ := hI0
       obtain ⟨x64, H, h65⟩ := loop_round hi
       try dsimp only at H
       unfold impl_limbsOf.s1 at H
       apply wp_seq_k; intro K66 hK66
       apply wp_region_lit
       refine sv (.bool (decide (u53 < 8))) hk rfl rfl rfl fun a hk => ?_
       show wpList _ _ _ [] _ _
       refine wpList_nil ?_
       refine hK66 _ _ ?_
       have hs := hs.pick [(1, 1), (2, 2), (3, 3)] rfl
       apply wp_seq_k; intro K67 hK67
       rcases cond_some H with ⟨c68, H⟩ | ⟨c68, H⟩
       ·have hk := hk.lit 17 c68 rfl
        refine cnd_true hk rfl rfl ?_
        refine wp_skip ?_
        refine hK67 _ _ ?_
        apply wp_seq_k; intro K69 hK69
        refine wp_block ?_
        apply wp_seq_k; intro K70 hK70
        apply wp_region_lit
        refine sm _ rfl hk rfl rfl rfl fun a hk => ?_
        refine sa _ rfl hk rfl rfl rfl fun a hk => ?_
        show wpList _ _ _ [] _ _
        refine wpList_nil ?_
        refine hK70 _ _ ?_
        apply wp_seq_k; intro K71 hK71
        apply wp_region_lit
        refine sm _ rfl hk rfl rfl rfl fun a hk => ?_
        refine sv (.int .i64 (w64 (8 * u24))) hk rfl rfl rfl fun a hk => ?_
        refine sm _ rfl hk rfl rfl rfl fun a hk => ?_
        refine sv (.int .i64 (w64 ((w64 (8 * u24)) + u53))) hk rfl rfl rfl fun a hk => ?_
        refine sa _ rfl hk rfl rfl rfl fun a hk => ?_
        show wpList _ _ _ [] _ _
        refine wpList_nil ?_
        refine hK71 _ _ ?_
        apply wp_seq_k; intro K72 hK72
        apply wp_region_lit
        refine sm _ rfl hk rfl rfl rfl fun a hk => ?_
        refine sm _ rfl hk rfl rfl rfl fun a hk => ?_
        rcases ite_some H with ⟨c73, H⟩ | ⟨_, H⟩
        rotate_left
        ·cases H
        refine ssr rfl hk rfl rfl rfl rfl c73 fun a hk => ?_
        refine sv (.int .u8 (IntKind.wrap .u8 ((BitVec.ofInt 8 (Int.fdiv ((bytesOf x0).getD u24.toNat 0) (2 ^ min u53.toNat 8)) &&& BitVec.ofInt 8 1).toNat : Int))) hk rfl rfl rfl fun a hk => ?_
        refine sv (.bool ((IntKind.wrap .u8 ((BitVec.ofInt 8 (Int.fdiv ((bytesOf x0).getD u24.toNat 0) (2 ^ min u53.toNat 8)) &&& BitVec.ofInt 8 1).toNat : Int)) == 1)) hk rfl rfl rfl fun a hk => ?_
        show wpList _ _ _ [] _ _
        refine wpList_nil ?_
        refine hK72 _ _ ?_
        have hs := hs.pick [(1, 1), (2, 2), (3, 3)] rfl
        obtain ⟨o79, h80, HL81⟩ := bind_some H
        clear H
        obtain ⟨R82, hR82⟩ : ∃ R : Act → World → Prop, R = fun a w => ∃ (u75 : List Int) (k76 : Chunk), u75 = o79 ∧ Kn [(2, (.pointer (some ⟨b2, 0, none⟩))), (3, (.pointer (some ⟨b7, 0, none⟩))), (4, (.int .i64 u24)), (5, (.int .u8 ((bytesOf x0).getD u24.toNat 0))), (9, (.slice (some ⟨b14, 0, none⟩) (bytesOf x0).length p15)), (10, (.int .i64 ((bytesOf x0).length : Int))), (11, (.int .i64 u24)), (16, (.int .i64 u53))] 40 a ∧ Sat [] w0 w [] [(1, k3), (2, k76), (3, k16)] ∧ Own (Lay.int .u64) 99 (some ⟨b7, 0, none⟩) 5 u75 k76 ∧ u75.length = 5 := ⟨_, rfl⟩
        refine wp_cutq R82 ?_ ?_
        ·have H := h80
         rcases cond_some H with ⟨c83, H⟩ | ⟨c83, H⟩
         ·have hk := hk.lit 27 c83 rfl
          refine cnd_true hk rfl rfl ?_
          refine wp_region_tree (.q 0 (.q 1 (.q 2 (.q 3 (.alt 4 (.alt 5 (.alt 6 (.alt 7 (.alt 8 (.last 9) .stop) .stop) .stop) .stop) .stop))))) mo (by kernel_rfl) (hs.pick [(1, 1), (2, 2), (3, 3)] rfl) fun _ => ?_
          have hs := hs.drew
          refine tqst (.int .i64 (w64 ((w64 (8 * u24)) + u53))) hk rfl rfl rfl rfl (fun w hs => sm _ rfl hk rfl rfl rfl fun a hk => qe hk) fun a hk => ?_
          refine tqst (.int .i64 (IntKind.wrap .i64 (Int.tdiv (w64 ((w64 (8 * u24)) + u53)) 26))) hk rfl rfl rfl rfl (fun w hs => sv (.int .i64 (IntKind.wrap .i64 (Int.tdiv (w64 ((w64 (8 * u24)) + u53)) 26))) hk rfl rfl rfl fun a hk => qe hk) fun a hk => ?_
          rcases ite_some H with ⟨c85, H⟩ | ⟨_, H⟩
          rotate_left
          ·cases H
          obtain ⟨b86, q87, hAc85⟩ := (o51.view).some_ (IntKind.wrap .i64 (Int.tdiv (w64 ((w64 (8 * u24)) + u53)) 26)) c85.1 (by rw [lh52]; exact c85.2)
          refine tqst (.pointer (some (padd (some ⟨b7, 0, none⟩) ((IntKind.wrap .i64 (Int.tdiv (w64 ((w64 (8 * u24)) + u53)) 26)).toNat * 1)))) hk rfl rfl rfl rfl (fun w hs => sia rfl hk rfl rfl rfl rfl un99 sz97 c85.1 c85.2 hAc85 fun a hk => qe hk) fun a hk => ?_
          obtain ⟨_, rfl, e88⟩ := (o51.view).at_ 0 (IntKind.wrap .i64 (Int.tdiv (w64 ((w64 (8 * u24)) + u53)) 26)) c85.1 (by rw [lh52]; exact c85.2)
          refine tqst (.int .u64 (u49.getD (IntKind.wrap .i64 (Int.tdiv (w64 ((w64 (8 * u24)) + u53)) 26)).toNat 0)) hk rfl rfl rfl rfl (fun w hs => sl (v := (.int .u64 (u49.getD (IntKind.wrap .i64 (Int.tdiv (w64 ((w64 (8 * u24)) + u53)) 26)).toNat 0))) rfl hk rfl rfl rfl ag97 ((e88 0 _ rfl).cell (hs.hasG (k := 2) rfl)) fun a hk => qe hk) fun a hk => ?_
          refine tsst hk rfl rfl (fun K_r84_4 hK_r84_4 w hF => ?_) wt_stop
          have hs := hs.f hF
          refine sm _ rfl hk rfl rfl rfl fun a hk => ?_
          refine se (hs.pick [(1, 1), (2, 2), (3, 3)] rfl) hk (hK_r84_4 _ _ ?_)
          refine tsst hk rfl rfl (fun K_r84_5 hK_r84_5 w hF => ?_) wt_stop
          have hs := hs.f hF
          refine sv (.int .i64 (Int.tmod (w64 ((w64 (8 * u24)) + u53)) 26)) hk rfl rfl rfl fun a hk => ?_
          refine se (hs.pick [(1, 1), (2, 2), (3, 3)] rfl) hk (hK_r84_5 _ _ ?_)
          refine tsst hk rfl rfl (fun K_r84_6 hK_r84_6 w hF => ?_) wt_stop
          have hs := hs.f hF
          rcases ite_some H with ⟨c89, H⟩ | ⟨_, H⟩
          rotate_left
          ·cases H
          refine ssh rfl hk rfl rfl rfl rfl c89 fun a hk => ?_
          refine se (hs.pick [(1, 1), (2, 2), (3, 3)] rfl) hk (hK_r84_6 _ _ ?_)
          refine tsst hk rfl rfl (fun K_r84_7 hK_r84_7 w hF => ?_) wt_stop
          have hs := hs.f hF
          refine sv (.int .u64 (IntKind.wrap .u64 ((BitVec.ofInt 64 (u49.getD (IntKind.wrap .i64 (Int.tdiv (w64 ((w64 (8 * u24)) + u53)) 26)).toNat 0) ||| BitVec.ofInt 64 (IntKind.wrap .u64 (1 * 2 ^ min (Int.tmod (w64 ((w64 (8 * u24)) + u53)) 26).toNat 64))).toNat : Int))) hk rfl rfl rfl fun a hk => ?_
          refine se (hs.pick [(1, 1), (2, 2), (3, 3)] rfl) hk (hK_r84_7 _ _ ?_)
          refine tsst hk rfl rfl (fun K_r84_8 hK_r84_8 w hF => ?_) wt_stop
          have hs := hs.f hF
          rcases ite_some H with ⟨c90, H⟩ | ⟨_, H⟩
          rotate_left
          ·cases H
          obtain ⟨b91, q92, hAc90⟩ := (o51.view).some_ (IntKind.wrap .i64 (Int.tdiv (w64 ((w64 (8 * u24)) + u53)) 26)) c90.1 (by rw [lh52]; exact c90.2)
          refine sia rfl hk rfl rfl rfl rfl un99 sz97 c90.1 c90.2 hAc90 fun a hk => ?_
          refine se (hs.pick [(1, 1), (2, 2), (3, 3)] rfl) hk (hK_r84_8 _ _ ?_)
          refine tlst hk rfl rfl fun K_r84_9 hK_r84_9 w hF => ?_
          have hs := hs.f hF
          refine so (j := 0) 2 0 (IntKind.wrap .u64 ((BitVec.ofInt 64 (u49.getD (IntKind.wrap .i64 (Int.tdiv (w64 ((w64 (8 * u24)) + u53)) 26)).toNat 0) ||| BitVec.ofInt 64 (IntKind.wrap .u64 (1 * 2 ^ min (Int.tmod (w64 ((w64 (8 * u24)) + u53)) 26).toNat 64))).toNat : Int)) hs rfl o51 c90.1 (by rw [lh52]; exact c90.2) rfl hk rfl rfl rfl rfl rfl sz97 (by simp [Value.cells, Value.oneCell']) (Nat.le_of_ble_eq_true rfl) (fun _ _ h => ⟨by rw [h.1]; rfl, h.2⟩) fun k93 w a hk o94 hs => ?_
          have lh95 : (u49.set (IntKind.wrap .i64 (Int.tdiv (w64 ((w64 (8 * u24)) + u53)) 26)).toNat (IntKind.wrap .u64 ((BitVec.ofInt 64 (u49.getD (IntKind.wrap .i64 (Int.tdiv (w64 ((w64 (8 * u24)) + u53)) 26)).toNat 0) ||| BitVec.ofInt 64 (IntKind.wrap .u64 (1 * 2 ^ min (Int.tmod (w64 ((w64 (8 * u24)) + u53)) 26).toNat 64))).toNat : Int))).length = 5 := by rw [List.length_set]; exact lh52
          refine se trivial hk (hK_r84_9 _ _ fun w hF => ?_)
          have hs := hs.f hF
          obtain rfl := Option.some.inj H
          show R82 _ _
          rw [hR82]
          exact ⟨(u49.set (IntKind.wrap .i64 (Int.tdiv (w64 ((w64 (8 * u24)) + u53)) 26)).toNat (IntKind.wrap .u64 ((BitVec.ofInt 64 (u49.getD (IntKind.wrap .i64 (Int.tdiv (w64 ((w64 (8 * u24)) + u53)) 26)).toNat 0) ||| BitVec.ofInt 64 (IntKind.wrap .u64 (1 * 2 ^ min (Int.tmod (w64 ((w64 (8 * u24)) + u53)) 26).toNat 64))).toNat : Int))), _, rfl, (hk.c 2 rfl (hk.c 3 rfl (hk.c 4 rfl (hk.c 5 rfl (hk.c 9 rfl (hk.c 10 rfl (hk.c 11 rfl (hk.c 16 rfl hk.k)))))))), (hs.pick [(1, 1), (2, 2), (3, 3)] rfl), o94, lh95⟩
         ·have hk := hk.lit 27 c83 rfl
          refine cnd_false hk rfl rfl ?_
          refine wp_skip ?_
          obtain rfl := Option.some.inj H
          show R82 _ _
          rw [hR82]
          exact ⟨u49, _, rfl, (hk.c 2 rfl (hk.c 3 rfl (hk.c 4 rfl (hk.c 5 rfl (hk.c 9 rfl (hk.c 10 rfl (hk.c 11 rfl (hk.c 16 rfl hk.k)))))))), (hs.pick [(1, 1), (2, 2), (3, 3)] rfl), o51, lh52⟩
        ·intro a w hR0
         rw [hR82] at hR0
         obtain ⟨u75, k76, rfl, hk, hs, o77, lh78⟩ := hR0
         have H := HL81
         try dsimp only at H
         refine hK69 _ _ ?_
         apply wp_region_lit
         refine sv (.int .i64 (w64 (u53 + 1))) hk rfl rfl rfl fun a hk => ?_
         refine sm _ rfl hk rfl rfl rfl fun a hk => ?_
         show wpList _ _ _ [] _ _
         refine wpList_nil ?_
         obtain rfl := Option.some.inj H
         obtain ⟨m96, hmm96, h65⟩ := h65
         show ∃ n', n' < _ ∧ I62 n' _ _
         refine ⟨m96, hmm96, ?_⟩
         rw [hI62]
         exact ⟨u75, (w64 (u53 + 1)), _, h65, (hk.c 2 rfl (hk.c 3 rfl (hk.c 4 rfl (hk.c 5 rfl (hk.c 9 rfl (hk.c 10 rfl (hk.c 11 rfl (hk.c 16 rfl hk.k)))))))), (hs.pick [(1, 1), (2, 2), (3, 3)] rfl), o77, lh78⟩
       ·have hk := hk.lit 17 c68 rfl
        refine cnd_false hk rfl rfl ?_
        refine wp_exit ?_
        obtain rfl := Option.some.inj H
        show R61 _ _
        rw [hR61]
        exact ⟨u49, _, h65.symm, (hk.c 2 rfl (hk.c 3 rfl (hk.c 9 rfl (hk.c 10 rfl (hk.c 11 rfl hk.k))))), (hs.pick [(1, 1), (2, 2), (3, 3)] rfl), o51, lh52⟩
     ·intro a w hR0
      rw [hR61] at hR0
      obtain ⟨u54, k55, rfl, hk, hs, o56, lh57⟩ := hR0
      have H := HL60
      try dsimp only at H
      refine hK40 _ _ ?_
      have hs := hs.pick [(1, 1), (2, 2), (3, 3)] rfl
      apply wp_region_lit
      refine sv (.int .i64 (w64 (u24 + 1))) hk rfl rfl rfl fun a hk => ?_
      refine sm _ rfl hk rfl rfl rfl fun a hk => ?_
      show wpList _ _ _ [] _ _
      refine wpList_nil ?_
      obtain rfl := Option.some.inj H
      obtain ⟨m97, hmm97, h36⟩ := h36
      show ∃ n', n' < _ ∧ I33 n' _ _
      refine ⟨m97, hmm97, ?_⟩
      rw [hI33]
      exact ⟨u54, (w64 (u24 + 1)), _, h36, (hk.c 2 rfl (hk.c 3 rfl (hk.c 9 rfl (hk.c 10 rfl (hk.c 11 rfl hk.k))))), (hs.pick [(1, 1), (2, 2), (3, 3)] rfl), o56, lh57⟩
    ·have hk := hk.lit 12 c39 rfl
     refine cnd_false hk rfl rfl ?_
     refine wp_exit ?_
     obtain rfl := Option.some.inj H
     show R32 _ _
     rw [hR32]
     exact ⟨u20, _, h36.symm, (hk.c 2 rfl (hk.c 3 rfl hk.k)), (hs.pick [(1, 1), (2, 2)] rfl), o22, lh23⟩
  ·intro a w hR0
   rw [hR32] at hR0
   obtain ⟨u25, k26, rfl, hk, hs, o27, lh28⟩ := hR0
   have H := HL31
   try dsimp only at H
   refine hK11 _ _ ?_
   have hs := hs.pick [(1, 1), (2, 2)] rfl
   apply wp_seq_k; intro K98 hK98
   apply wp_region_lit
   refine slna (k := 2) hs rfl o27 lh28 rfl hk rfl rfl rfl ag99 sz99 fun a hk => ?_
   refine sswa 1 u25 hs rfl o4 lh5 lh28 rfl rfl hk rfl rfl rfl rfl sz99 fun k99 w a hk o100 hs => ?_
   show wpList _ _ _ [] _ _
   refine wpList_nil ?_
   refine hK98 _ _ ?_
   refine wp_ret ?_
   obtain rfl := Option.some.inj H
   exact fin hk _ [(aggI .u64 u25)] rfl ⟨⟨_, rfl, run_loadA ag99 sz99 o100 lh28 hs (q := 1) rfl⟩, trivial⟩ ⟨rfl, lh28, (hs.pick [] rfl).dnil⟩

noncomputable def impl_limbs_carried.s1  (u39 : List Int) (u43 : Int) (u44 : Int) : Option (((List Int) × Int × Int) ⊕ Ex ((List Int) × Int) ((List Int))) :=
  (bif (decide (u44 < 5)) then (if 0 ≤ u44 ∧ u44 < (5 : Int) then (if 0 ≤ u44 ∧ u44 < (5 : Int) then (if 0 ≤ u44 ∧ u44 < (5 : Int) then (if 0 ≤ u44 ∧ u44 < (5 : Int) then (if 0 ≤ u44 ∧ u44 < (5 : Int) then (some (.inl (((u39.set u44.toNat (IntKind.wrap .u64 ((u39.getD u44.toNat 0) + u43))).set u44.toNat (IntKind.wrap .u64 ((BitVec.ofInt 64 ((u39.set u44.toNat (IntKind.wrap .u64 ((u39.getD u44.toNat 0) + u43))).getD u44.toNat 0) &&& BitVec.ofInt 64 67108863).toNat : Int))), (Int.fdiv ((u39.set u44.toNat (IntKind.wrap .u64 ((u39.getD u44.toNat 0) + u43))).getD u44.toNat 0) (2 ^ 26)), (w64 (u44 + 1))))) else none) else none) else none) else none) else none) else (some (.inr (.out (u39, u43)))))
noncomputable def impl_limbs_carried.s0  (u13 : List Int) (u17 : Int) : Option (((List Int) × Int) ⊕ Ex ((List Int)) ((List Int))) :=
  (bif (decide (u17 < 3)) then ((loopO (fun s => impl_limbs_carried.s1  s.1 s.2.1 s.2.2) (u13, 0, 0)).bind fun o => match o with | .out (u45, u49) => (if 0 ≤ (0 : Int) ∧ (0 : Int) < (5 : Int) then (if 0 ≤ (0 : Int) ∧ (0 : Int) < (5 : Int) then (some (.inl ((u45.set (0 : Int).toNat (IntKind.wrap .u64 ((u45.getD (0 : Int).toNat 0) + (IntKind.wrap .u64 (5 * u49))))), (w64 (u17 + 1))))) else none) else none) | .ret r => (some (.inr (.ret r)))) else (some (.inr (.out u13))))
noncomputable def impl_limbs_carried.f (x0 : List Int) : Option ((List Int)) :=
  ((loopO (fun s => impl_limbs_carried.s0  s.1 s.2) (x0, 0)).bind fun o => match o with | .out u18 => (some u18) | .ret r => (some r))
set_option maxRecDepth 100000 in
set_option maxHeartbeats 0 in
theorem impl_limbs_carried_t (w0 : World) (x0 : List Int) (e0_ : x0.length = 5) (r : (List Int)) (H : impl_limbs_carried.f x0 = some r) :
    Calls Try.prog 130 #[aggI .u64 x0] w0 (Ret (fun v w => v = aggI .u64 r ∧ r.length = 5 ∧ Sat [] w0 w [] [])) := by
  have hs : Sat [] w0 w0 [] [] := Sat.init w0 [] [] (by simp) (by simp) List.nodup_nil (by simp [blks])
  unfold impl_limbs_carried.f at H
  refine enter Try.func130 rfl Try.ntmps130 rfl fun a hk => ?_
  apply wp_seq_k; intro K1 hK1
  apply wp_region_lit
  refine sbxa 1 hs rfl hk rfl rfl rfl e0_ rfl fun b2 k3 w a hk o4 hs => ?_
  refine sala 2 ((Lay.int .u64)) (m := 5) (z := 0) (zc := [.int .u64 0]) hs rfl hk rfl rfl ze99 (by exact ⟨rfl, rfl⟩) rfl rfl rfl fun b5 k6 w a hk o7 hs => ?_
  have lh8 : (List.replicate 5 (0 : Int)).length = 5 := List.length_replicate
  show wpList _ _ _ [] _ _
  refine wpList_nil ?_
  refine hK1 _ _ ?_
  apply wp_seq_k; intro K9 hK9
  apply wp_seq_k; intro K10 hK10
  apply wp_region_lit
  refine sm _ rfl hk rfl rfl rfl fun a hk => ?_
  show wpList _ _ _ [] _ _
  refine wpList_nil ?_
  refine hK10 _ _ ?_
  obtain ⟨o22, h23, HL24⟩ := bind_some H
  clear H
  obtain ⟨R25, hR25⟩ : ∃ R : Act → World → Prop, R = fun a w => ∃ (u18 : List Int) (k19 : Chunk), o22 = .out u18 ∧ Kn [(1, (.pointer (some ⟨b2, 0, none⟩))), (2, (.pointer (some ⟨b5, 0, none⟩)))] 34 a ∧ Sat [] w0 w [] [(1, k19), (2, k6)] ∧ Own (Lay.int .u64) 99 (some ⟨b2, 0, none⟩) 5 u18 k19 ∧ u18.length = 5 := ⟨_, rfl⟩
  refine wp_cutq R25 ?_ ?_
  ·refine wp_block ?_
   obtain ⟨fu27, h23⟩ := loopO_some h23
   obtain ⟨I26, hI26⟩ : ∃ I : Nat → Act → World → Prop, I = fun fu a w => ∃ (u13 : List Int) (u17 : Int) (k14 : Chunk), loopN (fun s => impl_limbs_carried.s0  s.1 s.2) fu (u13, u17) = some o22 ∧ Kn [(1, (.pointer (some ⟨b2, 0, none⟩))), (2, (.pointer (some ⟨b5, 0, none⟩))), (5, (.int .i64 u17))] 34 a ∧ Sat [] w0 w [] [(1, k14), (2, k6)] ∧ Own (Lay.int .u64) 99 (some ⟨b2, 0, none⟩) 5 u13 k14 ∧ u13.length = 5 := ⟨_, rfl⟩
   refine wp_loop_ghost I26 fu27 ?_ ?_
   ·rw [hI26]
    exact ⟨x0, 0, _, h23, (hk.c 1 rfl (hk.c 2 rfl (hk.c 5 rfl hk.k))), (hs.pick [(1, 1), (2, 2)] rfl), o4, e0_⟩
   ·clear h23 hk hs
    intro fu27 a w hI0
    rw [hI26] at hI0
    obtain ⟨u13, u17, k14, hi, hk, hs, o15, lh16⟩ := hI0
    obtain ⟨x28, H, h29⟩ := loop_round hi
    try dsimp only at H
    unfold impl_limbs_carried.s0 at H
    apply wp_seq_k; intro K30 hK30
    apply wp_region_lit
    refine sv (.bool (decide (u17 < 3))) hk rfl rfl rfl fun a hk => ?_
    show wpList _ _ _ [] _ _
    refine wpList_nil ?_
    refine hK30 _ _ ?_
    apply wp_seq_k; intro K31 hK31
    rcases cond_some H with ⟨c32, H⟩ | ⟨c32, H⟩
    ·have hk := hk.lit 6 c32 rfl
     refine cnd_true hk rfl rfl ?_
     refine wp_skip ?_
     refine hK31 _ _ ?_
     have hs := hs.pick [(1, 1), (2, 2)] rfl
     apply wp_seq_k; intro K33 hK33
     refine wp_block ?_
     apply wp_seq_k; intro K34 hK34
     apply wp_region_lit
     refine sa _ rfl hk rfl rfl rfl fun a hk => ?_
     show wpList _ _ _ [] _ _
     refine wpList_nil ?_
     refine hK34 _ _ ?_
     apply wp_seq_k; intro K35 hK35
     apply wp_seq_k; intro K36 hK36
     apply wp_region_lit
     refine sm _ rfl hk rfl rfl rfl fun a hk => ?_
     show wpList _ _ _ [] _ _
     refine wpList_nil ?_
     refine hK36 _ _ ?_
     obtain ⟨o50, h51, HL52⟩ := bind_some H
     clear H
     obtain ⟨R53, hR53⟩ : ∃ R : Act → World → Prop, R = fun a w => ∃ (u45 : List Int) (u49 : Int) (k46 : Chunk), o50 = .out (u45, u49) ∧ Kn [(1, (.pointer (some ⟨b2, 0, none⟩))), (2, (.pointer (some ⟨b5, 0, none⟩))), (3, (.int .u64 u49)), (5, (.int .i64 u17))] 34 a ∧ Sat [] w0 w [] [(1, k46), (2, k6)] ∧ Own (Lay.int .u64) 99 (some ⟨b2, 0, none⟩) 5 u45 k46 ∧ u45.length = 5 := ⟨_, rfl⟩
     refine wp_cutq R53 ?_ ?_
     ·refine wp_block ?_
      obtain ⟨fu55, h51⟩ := loopO_some h51
      obtain ⟨I54, hI54⟩ : ∃ I : Nat → Act → World → Prop, I = fun fu a w => ∃ (u39 : List Int) (u43 : Int) (u44 : Int) (k40 : Chunk), loopN (fun s => impl_limbs_carried.s1  s.1 s.2.1 s.2.2) fu (u39, u43, u44) = some o50 ∧ Kn [(1, (.pointer (some ⟨b2, 0, none⟩))), (2, (.pointer (some ⟨b5, 0, none⟩))), (3, (.int .u64 u43)), (5, (.int .i64 u17)), (7, (.int .i64 u44))] 34 a ∧ Sat [] w0 w [] [(1, k40), (2, k6)] ∧ Own (Lay.int .u64) 99 (some ⟨b2, 0, none⟩) 5 u39 k40 ∧ u39.length = 5 := ⟨_, rfl⟩
      refine wp_loop_ghost I54 fu55 ?_ ?_
      ·rw [hI54]
       exact ⟨u13, 0, 0, _, h51, (hk.c 1 rfl (hk.c 2 rfl (hk.c 3 rfl (hk.c 5 rfl (hk.c 7 rfl hk.k))))), (hs.pick [(1, 1), (2, 2)] rfl), o15, lh16⟩
      ·clear h51 hk hs
       intro fu55 a w hI0
       rw [hI54] at hI0
       obtain ⟨u39, u43, u44, k40, hi, hk, hs, o41, lh42⟩ := hI0
       obtain ⟨x56, H, h57⟩ := loop_round hi
       try dsimp only at H
       unfold impl_limbs_carried.s1 at H
       apply wp_seq_k; intro K58 hK58
       apply wp_region_lit
       refine sv (.bool (decide (u44 < 5))) hk rfl rfl rfl fun a hk => ?_
       show wpList _ _ _ [] _ _
       refine wpList_nil ?_
       refine hK58 _ _ ?_
       apply wp_seq_k; intro K59 hK59
       rcases cond_some H with ⟨c60, H⟩ | ⟨c60, H⟩
       ·have hk := hk.lit 8 c60 rfl
        refine cnd_true hk rfl rfl ?_
        refine wp_skip ?_
        refine hK59 _ _ ?_
        have hs := hs.pick [(1, 1), (2, 2)] rfl
        apply wp_seq_k; intro K61 hK61
        refine wp_block ?_
        apply wp_seq_k; intro K62 hK62
        apply wp_region_lit
        refine sm _ rfl hk rfl rfl rfl fun a hk => ?_
        refine sa _ rfl hk rfl rfl rfl fun a hk => ?_
        show wpList _ _ _ [] _ _
        refine wpList_nil ?_
        refine hK62 _ _ ?_
        apply wp_seq_k; intro K63 hK63
        apply wp_region_lit
        refine sm _ rfl hk rfl rfl rfl fun a hk => ?_
        rcases ite_some H with ⟨c64, H⟩ | ⟨_, H⟩
        rotate_left
        ·cases H
        obtain ⟨b65, q66, hAc64⟩ := (o41.view).some_ u44 c64.1 (by rw [lh42]; exact c64.2)
        refine sia rfl hk rfl rfl rfl rfl un99 sz97 c64.1 c64.2 hAc64 fun a hk => ?_
        obtain ⟨_, rfl, e67⟩ := (o41.view).at_ 0 u44 c64.1 (by rw [lh42]; exact c64.2)
        refine sl (v := (.int .u64 (u39.getD u44.toNat 0))) rfl hk rfl rfl rfl ag97 ((e67 0 _ rfl).cell (hs.hasG (k := 1) rfl)) fun a hk => ?_
        refine sm _ rfl hk rfl rfl rfl fun a hk => ?_
        refine sv (.int .u64 (IntKind.wrap .u64 ((u39.getD u44.toNat 0) + u43))) hk rfl rfl rfl fun a hk => ?_
        rcases ite_some H with ⟨c68, H⟩ | ⟨_, H⟩
        rotate_left
        ·cases H
        obtain ⟨b69, q70, hAc68⟩ := (o41.view).some_ u44 c68.1 (by rw [lh42]; exact c68.2)
        refine sia rfl hk rfl rfl rfl rfl un99 sz97 c68.1 c68.2 hAc68 fun a hk => ?_
        refine so (j := 0) 1 0 (IntKind.wrap .u64 ((u39.getD u44.toNat 0) + u43)) hs rfl o41 c68.1 (by rw [lh42]; exact c68.2) rfl hk rfl rfl rfl rfl rfl sz97 (by simp [Value.cells, Value.oneCell']) (Nat.le_of_ble_eq_true rfl) (fun _ _ h => ⟨by rw [h.1]; rfl, h.2⟩) fun k71 w a hk o72 hs => ?_
        have lh73 : (u39.set u44.toNat (IntKind.wrap .u64 ((u39.getD u44.toNat 0) + u43))).length = 5 := by rw [List.length_set]; exact lh42
        show wpList _ _ _ [] _ _
        refine wpList_nil ?_
        refine hK63 _ _ ?_
        apply wp_seq_k; intro K74 hK74
        apply wp_region_lit
        refine sm _ rfl hk rfl rfl rfl fun a hk => ?_
        rcases ite_some H with ⟨c75, H⟩ | ⟨_, H⟩
        rotate_left
        ·cases H
        obtain ⟨b76, q77, hAc75⟩ := (o72.view).some_ u44 c75.1 (by rw [lh73]; exact c75.2)
        refine sia rfl hk rfl rfl rfl rfl un99 sz97 c75.1 c75.2 hAc75 fun a hk => ?_
        obtain ⟨_, rfl, e78⟩ := (o72.view).at_ 0 u44 c75.1 (by rw [lh73]; exact c75.2)
        refine sl (v := (.int .u64 ((u39.set u44.toNat (IntKind.wrap .u64 ((u39.getD u44.toNat 0) + u43))).getD u44.toNat 0))) rfl hk rfl rfl rfl ag97 ((e78 0 _ rfl).cell (hs.hasG (k := 1) rfl)) fun a hk => ?_
        refine sv (.int .u64 (Int.fdiv ((u39.set u44.toNat (IntKind.wrap .u64 ((u39.getD u44.toNat 0) + u43))).getD u44.toNat 0) (2 ^ 26))) hk rfl rfl rfl fun a hk => ?_
        refine sa _ rfl hk rfl rfl rfl fun a hk => ?_
        show wpList _ _ _ [] _ _
        refine wpList_nil ?_
        refine hK74 _ _ ?_
        apply wp_region_lit
        refine sm _ rfl hk rfl rfl rfl fun a hk => ?_
        rcases ite_some H with ⟨c79, H⟩ | ⟨_, H⟩
        rotate_left
        ·cases H
        obtain ⟨b80, q81, hAc79⟩ := (o72.view).some_ u44 c79.1 (by rw [lh73]; exact c79.2)
        refine sia rfl hk rfl rfl rfl rfl un99 sz97 c79.1 c79.2 hAc79 fun a hk => ?_
        obtain ⟨_, rfl, e82⟩ := (o72.view).at_ 0 u44 c79.1 (by rw [lh73]; exact c79.2)
        refine sl (v := (.int .u64 ((u39.set u44.toNat (IntKind.wrap .u64 ((u39.getD u44.toNat 0) + u43))).getD u44.toNat 0))) rfl hk rfl rfl rfl ag97 ((e82 0 _ rfl).cell (hs.hasG (k := 1) rfl)) fun a hk => ?_
        refine sv (.int .u64 (IntKind.wrap .u64 ((BitVec.ofInt 64 ((u39.set u44.toNat (IntKind.wrap .u64 ((u39.getD u44.toNat 0) + u43))).getD u44.toNat 0) &&& BitVec.ofInt 64 67108863).toNat : Int))) hk rfl rfl rfl fun a hk => ?_
        rcases ite_some H with ⟨c83, H⟩ | ⟨_, H⟩
        rotate_left
        ·cases H
        obtain ⟨b84, q85, hAc83⟩ := (o72.view).some_ u44 c83.1 (by rw [lh73]; exact c83.2)
        refine sia rfl hk rfl rfl rfl rfl un99 sz97 c83.1 c83.2 hAc83 fun a hk => ?_
        refine so (j := 0) 1 0 (IntKind.wrap .u64 ((BitVec.ofInt 64 ((u39.set u44.toNat (IntKind.wrap .u64 ((u39.getD u44.toNat 0) + u43))).getD u44.toNat 0) &&& BitVec.ofInt 64 67108863).toNat : Int)) hs rfl o72 c83.1 (by rw [lh73]; exact c83.2) rfl hk rfl rfl rfl rfl rfl sz97 (by simp [Value.cells, Value.oneCell']) (Nat.le_of_ble_eq_true rfl) (fun _ _ h => ⟨by rw [h.1]; rfl, h.2⟩) fun k86 w a hk o87 hs => ?_
        have lh88 : ((u39.set u44.toNat (IntKind.wrap .u64 ((u39.getD u44.toNat 0) + u43))).set u44.toNat (IntKind.wrap .u64 ((BitVec.ofInt 64 ((u39.set u44.toNat (IntKind.wrap .u64 ((u39.getD u44.toNat 0) + u43))).getD u44.toNat 0) &&& BitVec.ofInt 64 67108863).toNat : Int))).length = 5 := by rw [List.length_set]; exact lh73
        show wpList _ _ _ [] _ _
        refine wpList_nil ?_
        refine hK61 _ _ ?_
        have hs := hs.pick [(1, 1), (2, 2)] rfl
        apply wp_region_lit
        refine sv (.int .i64 (w64 (u44 + 1))) hk rfl rfl rfl fun a hk => ?_
        refine sm _ rfl hk rfl rfl rfl fun a hk => ?_
        show wpList _ _ _ [] _ _
        refine wpList_nil ?_
        obtain rfl := Option.some.inj H
        obtain ⟨m89, hmm89, h57⟩ := h57
        show ∃ n', n' < _ ∧ I54 n' _ _
        refine ⟨m89, hmm89, ?_⟩
        rw [hI54]
        exact ⟨((u39.set u44.toNat (IntKind.wrap .u64 ((u39.getD u44.toNat 0) + u43))).set u44.toNat (IntKind.wrap .u64 ((BitVec.ofInt 64 ((u39.set u44.toNat (IntKind.wrap .u64 ((u39.getD u44.toNat 0) + u43))).getD u44.toNat 0) &&& BitVec.ofInt 64 67108863).toNat : Int))), (Int.fdiv ((u39.set u44.toNat (IntKind.wrap .u64 ((u39.getD u44.toNat 0) + u43))).getD u44.toNat 0) (2 ^ 26)), (w64 (u44 + 1)), _, h57, (hk.c 1 rfl (hk.c 2 rfl (hk.c 3 rfl (hk.c 5 rfl (hk.c 7 rfl hk.k))))), (hs.pick [(1, 1), (2, 2)] rfl), o87, lh88⟩
       ·have hk := hk.lit 8 c60 rfl
        refine cnd_false hk rfl rfl ?_
        refine wp_exit ?_
        obtain rfl := Option.some.inj H
        show R53 _ _
        rw [hR53]
        exact ⟨u39, u43, _, h57.symm, (hk.c 1 rfl (hk.c 2 rfl (hk.c 3 rfl (hk.c 5 rfl hk.k)))), (hs.pick [(1, 1), (2, 2)] rfl), o41, lh42⟩
     ·intro a w hR0
      rw [hR53] at hR0
      obtain ⟨u45, u49, k46, rfl, hk, hs, o47, lh48⟩ := hR0
      have H := HL52
      try dsimp only at H
      refine hK35 _ _ ?_
      apply wp_region_lit
      rcases ite_some H with ⟨c90, H⟩ | ⟨_, H⟩
      rotate_left
      ·cases H
      obtain ⟨b91, q92, hAc90⟩ := (o47.view).some_ (0 : Int) c90.1 (by rw [lh48]; exact c90.2)
      refine sia rfl hk rfl rfl rfl rfl un99 sz97 c90.1 c90.2 hAc90 fun a hk => ?_
      obtain ⟨_, rfl, e93⟩ := (o47.view).at_ 0 (0 : Int) c90.1 (by rw [lh48]; exact c90.2)
      refine sl (v := (.int .u64 (u45.getD (0 : Int).toNat 0))) rfl hk rfl rfl rfl ag97 ((e93 0 _ rfl).cell (hs.hasG (k := 1) rfl)) fun a hk => ?_
      refine sm _ rfl hk rfl rfl rfl fun a hk => ?_
      refine sv (.int .u64 (IntKind.wrap .u64 (5 * u49))) hk rfl rfl rfl fun a hk => ?_
      refine sv (.int .u64 (IntKind.wrap .u64 ((u45.getD (0 : Int).toNat 0) + (IntKind.wrap .u64 (5 * u49))))) hk rfl rfl rfl fun a hk => ?_
      rcases ite_some H with ⟨c94, H⟩ | ⟨_, H⟩
      rotate_left
      ·cases H
      obtain ⟨b95, q96, hAc94⟩ := (o47.view).some_ (0 : Int) c94.1 (by rw [lh48]; exact c94.2)
      refine sia rfl hk rfl rfl rfl rfl un99 sz97 c94.1 c94.2 hAc94 fun a hk => ?_
      refine so (j := 0) 1 0 (IntKind.wrap .u64 ((u45.getD (0 : Int).toNat 0) + (IntKind.wrap .u64 (5 * u49)))) hs rfl o47 c94.1 (by rw [lh48]; exact c94.2) rfl hk rfl rfl rfl rfl rfl sz97 (by simp [Value.cells, Value.oneCell']) (Nat.le_of_ble_eq_true rfl) (fun _ _ h => ⟨by rw [h.1]; rfl, h.2⟩) fun k97 w a hk o98 hs => ?_
      have lh99 : (u45.set (0 : Int).toNat (IntKind.wrap .u64 ((u45.getD (0 : Int).toNat 0) + (IntKind.wrap .u64 (5 * u49))))).length = 5 := by rw [List.length_set]; exact lh48
      show wpList _ _ _ [] _ _
      refine wpList_nil ?_
      refine hK33 _ _ ?_
      have hs := hs.pick [(1, 1), (2, 2)] rfl
      apply wp_region_lit
      refine sv (.int .i64 (w64 (u17 + 1))) hk rfl rfl rfl fun a hk => ?_
      refine sm _ rfl hk rfl rfl rfl fun a hk => ?_
      show wpList _ _ _ [] _ _
      refine wpList_nil ?_
      obtain rfl := Option.some.inj H
      obtain ⟨m100, hmm100, h29⟩ := h29
      show ∃ n', n' < _ ∧ I26 n' _ _
      refine ⟨m100, hmm100, ?_⟩
      rw [hI26]
      exact ⟨(u45.set (0 : Int).toNat (IntKind.wrap .u64 ((u45.getD (0 : Int).toNat 0) + (IntKind.wrap .u64 (5 * u49))))), (w64 (u17 + 1)), _, h29, (hk.c 1 rfl (hk.c 2 rfl (hk.c 5 rfl hk.k))), (hs.pick [(1, 1), (2, 2)] rfl), o98, lh99⟩
    ·have hk := hk.lit 6 c32 rfl
     refine cnd_false hk rfl rfl ?_
     refine wp_exit ?_
     obtain rfl := Option.some.inj H
     show R25 _ _
     rw [hR25]
     exact ⟨u13, _, h29.symm, (hk.c 1 rfl (hk.c 2 rfl hk.k)), (hs.pick [(1, 1), (2, 2)] rfl), o15, lh16⟩
  ·intro a w hR0
   rw [hR25] at hR0
   obtain ⟨u18, k19, rfl, hk, hs, o20, lh21⟩ := hR0
   have H := HL24
   try dsimp only at H
   refine hK9 _ _ ?_
   apply wp_seq_k; intro K101 hK101
   apply wp_region_lit
   refine slna (k := 1) hs rfl o20 lh21 rfl hk rfl rfl rfl ag99 sz99 fun a hk => ?_
   refine sswa 2 u18 hs rfl o7 lh8 lh21 rfl rfl hk rfl rfl rfl rfl sz99 fun k102 w a hk o103 hs => ?_
   show wpList _ _ _ [] _ _
   refine wpList_nil ?_
   refine hK101 _ _ ?_
   have hs := hs.pick [(2, 2)] rfl
   refine wp_ret ?_
   obtain rfl := Option.some.inj H
   exact fin hk _ [(aggI .u64 u18)] rfl ⟨⟨_, rfl, run_loadA ag99 sz99 o103 lh21 hs (q := 2) rfl⟩, trivial⟩ ⟨rfl, lh21, (hs.pick [] rfl).dnil⟩

noncomputable def impl_limbs_plus.s0 (x1 : List Int) (u16 : List Int) (u20 : Int) : Option (((List Int) × Int) ⊕ Ex ((List Int)) ((List Int))) :=
  (bif (decide (u20 < 5)) then (if 0 ≤ u20 ∧ u20 < (5 : Int) then (if 0 ≤ u20 ∧ u20 < (5 : Int) then (if 0 ≤ u20 ∧ u20 < (5 : Int) then (some (.inl ((u16.set u20.toNat (IntKind.wrap .u64 ((u16.getD u20.toNat 0) + (x1.getD u20.toNat 0)))), (w64 (u20 + 1))))) else none) else none) else none) else (some (.inr (.out u16))))
noncomputable def impl_limbs_plus.f (x0 : List Int) (x1 : List Int) : Option ((List Int)) :=
  ((loopO (fun s => impl_limbs_plus.s0 x1 s.1 s.2) (x0, 0)).bind fun o => match o with | .out u21 => ((impl_limbs_carried.f u21).bind fun y55 => (some y55)) | .ret r => (some r))
set_option maxRecDepth 100000 in
set_option maxHeartbeats 0 in
theorem impl_limbs_plus_t (w0 : World) (x0 : List Int) (e0_ : x0.length = 5) (x1 : List Int) (e1_ : x1.length = 5) (r : (List Int)) (H : impl_limbs_plus.f x0 x1 = some r) :
    Calls Try.prog 98 #[aggI .u64 x0, aggI .u64 x1] w0 (Ret (fun v w => v = aggI .u64 r ∧ r.length = 5 ∧ Sat [] w0 w [] [])) := by
  have hs : Sat [] w0 w0 [] [] := Sat.init w0 [] [] (by simp) (by simp) List.nodup_nil (by simp [blks])
  unfold impl_limbs_plus.f at H
  refine enter Try.func98 rfl Try.ntmps98 rfl fun a hk => ?_
  apply wp_seq_k; intro K1 hK1
  apply wp_region_lit
  refine sbxa 1 hs rfl hk rfl rfl rfl e0_ rfl fun b2 k3 w a hk o4 hs => ?_
  refine sbxa 2 hs rfl hk rfl rfl rfl e1_ rfl fun b5 k6 w a hk o7 hs => ?_
  refine sala 3 ((Lay.int .u64)) (m := 5) (z := 0) (zc := [.int .u64 0]) hs rfl hk rfl rfl ze99 (by exact ⟨rfl, rfl⟩) rfl rfl rfl fun b8 k9 w a hk o10 hs => ?_
  have lh11 : (List.replicate 5 (0 : Int)).length = 5 := List.length_replicate
  show wpList _ _ _ [] _ _
  refine wpList_nil ?_
  refine hK1 _ _ ?_
  apply wp_seq_k; intro K12 hK12
  apply wp_seq_k; intro K13 hK13
  apply wp_region_lit
  refine sm _ rfl hk rfl rfl rfl fun a hk => ?_
  show wpList _ _ _ [] _ _
  refine wpList_nil ?_
  refine hK13 _ _ ?_
  obtain ⟨o25, h26, HL27⟩ := bind_some H
  clear H
  obtain ⟨R28, hR28⟩ : ∃ R : Act → World → Prop, R = fun a w => ∃ (u21 : List Int) (k22 : Chunk), o25 = .out u21 ∧ Kn [(2, (.pointer (some ⟨b2, 0, none⟩))), (4, (.pointer (some ⟨b8, 0, none⟩)))] 20 a ∧ Sat [] w0 w [] [(1, k22), (3, k9)] ∧ Own (Lay.int .u64) 99 (some ⟨b2, 0, none⟩) 5 u21 k22 ∧ u21.length = 5 := ⟨_, rfl⟩
  refine wp_cutq R28 ?_ ?_
  ·refine wp_block ?_
   obtain ⟨fu30, h26⟩ := loopO_some h26
   obtain ⟨I29, hI29⟩ : ∃ I : Nat → Act → World → Prop, I = fun fu a w => ∃ (u16 : List Int) (u20 : Int) (k17 : Chunk), loopN (fun s => impl_limbs_plus.s0 x1 s.1 s.2) fu (u16, u20) = some o25 ∧ Kn [(2, (.pointer (some ⟨b2, 0, none⟩))), (3, (.pointer (some ⟨b5, 0, none⟩))), (4, (.pointer (some ⟨b8, 0, none⟩))), (6, (.int .i64 u20))] 20 a ∧ Sat [] w0 w [] [(1, k17), (2, k6), (3, k9)] ∧ Own (Lay.int .u64) 99 (some ⟨b2, 0, none⟩) 5 u16 k17 ∧ u16.length = 5 := ⟨_, rfl⟩
   refine wp_loop_ghost I29 fu30 ?_ ?_
   ·rw [hI29]
    exact ⟨x0, 0, _, h26, (hk.c 2 rfl (hk.c 3 rfl (hk.c 4 rfl (hk.c 6 rfl hk.k)))), (hs.pick [(1, 1), (2, 2), (3, 3)] rfl), o4, e0_⟩
   ·clear h26 hk hs
    intro fu30 a w hI0
    rw [hI29] at hI0
    obtain ⟨u16, u20, k17, hi, hk, hs, o18, lh19⟩ := hI0
    obtain ⟨x31, H, h32⟩ := loop_round hi
    try dsimp only at H
    unfold impl_limbs_plus.s0 at H
    apply wp_seq_k; intro K33 hK33
    apply wp_region_lit
    refine sv (.bool (decide (u20 < 5))) hk rfl rfl rfl fun a hk => ?_
    show wpList _ _ _ [] _ _
    refine wpList_nil ?_
    refine hK33 _ _ ?_
    apply wp_seq_k; intro K34 hK34
    rcases cond_some H with ⟨c35, H⟩ | ⟨c35, H⟩
    ·have hk := hk.lit 7 c35 rfl
     refine cnd_true hk rfl rfl ?_
     refine wp_skip ?_
     refine hK34 _ _ ?_
     have hs := hs.pick [(1, 1), (2, 2), (3, 3)] rfl
     apply wp_seq_k; intro K36 hK36
     refine wp_block ?_
     apply wp_seq_k; intro K37 hK37
     apply wp_region_lit
     refine sm _ rfl hk rfl rfl rfl fun a hk => ?_
     refine sa _ rfl hk rfl rfl rfl fun a hk => ?_
     show wpList _ _ _ [] _ _
     refine wpList_nil ?_
     refine hK37 _ _ ?_
     refine wp_region_tree (.q 0 (.q 1 (.q 2 (.alt 3 (.alt 4 (.alt 5 (.alt 6 (.alt 7 (.last 8) .stop) .stop) .stop) .stop) .stop)))) mo (by kernel_rfl) (hs.pick [(1, 1), (2, 2), (3, 3)] rfl) fun _ => ?_
     have hs := hs.drew
     refine tqst (.int .i64 u20) hk rfl rfl rfl rfl (fun w hs => sm _ rfl hk rfl rfl rfl fun a hk => qe hk) fun a hk => ?_
     rcases ite_some H with ⟨c39, H⟩ | ⟨_, H⟩
     rotate_left
     ·cases H
     obtain ⟨b40, q41, hAc39⟩ := (o18.view).some_ u20 c39.1 (by rw [lh19]; exact c39.2)
     refine tqst (.pointer (some (padd (some ⟨b2, 0, none⟩) (u20.toNat * 1)))) hk rfl rfl rfl rfl (fun w hs => sia rfl hk rfl rfl rfl rfl un99 sz97 c39.1 c39.2 hAc39 fun a hk => qe hk) fun a hk => ?_
     obtain ⟨_, rfl, e42⟩ := (o18.view).at_ 0 u20 c39.1 (by rw [lh19]; exact c39.2)
     refine tqst (.int .u64 (u16.getD u20.toNat 0)) hk rfl rfl rfl rfl (fun w hs => sl (v := (.int .u64 (u16.getD u20.toNat 0))) rfl hk rfl rfl rfl ag97 ((e42 0 _ rfl).cell (hs.hasG (k := 1) rfl)) fun a hk => qe hk) fun a hk => ?_
     refine tsst hk rfl rfl (fun K_r38_3 hK_r38_3 w hF => ?_) wt_stop
     have hs := hs.f hF
     refine sm _ rfl hk rfl rfl rfl fun a hk => ?_
     refine se (hs.pick [(1, 1), (2, 2), (3, 3)] rfl) hk (hK_r38_3 _ _ ?_)
     refine tsst hk rfl rfl (fun K_r38_4 hK_r38_4 w hF => ?_) wt_stop
     have hs := hs.f hF
     rcases ite_some H with ⟨c43, H⟩ | ⟨_, H⟩
     rotate_left
     ·cases H
     obtain ⟨b44, q45, hAc43⟩ := (o7.view).some_ u20 c43.1 (by rw [e1_]; exact c43.2)
     refine sia rfl hk rfl rfl rfl rfl un99 sz97 c43.1 c43.2 hAc43 fun a hk => ?_
     refine se (hs.pick [(1, 1), (2, 2), (3, 3)] rfl) hk (hK_r38_4 _ _ ?_)
     refine tsst hk rfl rfl (fun K_r38_5 hK_r38_5 w hF => ?_) wt_stop
     have hs := hs.f hF
     obtain ⟨_, rfl, e46⟩ := (o7.view).at_ 0 u20 c43.1 (by rw [e1_]; exact c43.2)
     refine sl (v := (.int .u64 (x1.getD u20.toNat 0))) rfl hk rfl rfl rfl ag97 ((e46 0 _ rfl).cell (hs.hasG (k := 2) rfl)) fun a hk => ?_
     refine se (hs.pick [(1, 1), (2, 2), (3, 3)] rfl) hk (hK_r38_5 _ _ ?_)
     refine tsst hk rfl rfl (fun K_r38_6 hK_r38_6 w hF => ?_) wt_stop
     have hs := hs.f hF
     refine sv (.int .u64 (IntKind.wrap .u64 ((u16.getD u20.toNat 0) + (x1.getD u20.toNat 0)))) hk rfl rfl rfl fun a hk => ?_
     refine se (hs.pick [(1, 1), (2, 2), (3, 3)] rfl) hk (hK_r38_6 _ _ ?_)
     refine tsst hk rfl rfl (fun K_r38_7 hK_r38_7 w hF => ?_) wt_stop
     have hs := hs.f hF
     rcases ite_some H with ⟨c47, H⟩ | ⟨_, H⟩
     rotate_left
     ·cases H
     obtain ⟨b48, q49, hAc47⟩ := (o18.view).some_ u20 c47.1 (by rw [lh19]; exact c47.2)
     refine sia rfl hk rfl rfl rfl rfl un99 sz97 c47.1 c47.2 hAc47 fun a hk => ?_
     refine se (hs.pick [(1, 1), (2, 2), (3, 3)] rfl) hk (hK_r38_7 _ _ ?_)
     refine tlst hk rfl rfl fun K_r38_8 hK_r38_8 w hF => ?_
     have hs := hs.f hF
     refine so (j := 0) 1 0 (IntKind.wrap .u64 ((u16.getD u20.toNat 0) + (x1.getD u20.toNat 0))) hs rfl o18 c47.1 (by rw [lh19]; exact c47.2) rfl hk rfl rfl rfl rfl rfl sz97 (by simp [Value.cells, Value.oneCell']) (Nat.le_of_ble_eq_true rfl) (fun _ _ h => ⟨by rw [h.1]; rfl, h.2⟩) fun k50 w a hk o51 hs => ?_
     have lh52 : (u16.set u20.toNat (IntKind.wrap .u64 ((u16.getD u20.toNat 0) + (x1.getD u20.toNat 0)))).length = 5 := by rw [List.length_set]; exact lh19
     refine se trivial hk (hK_r38_8 _ _ fun w hF => ?_)
     have hs := hs.f hF
     refine hK36 _ _ ?_
     apply wp_region_lit
     refine sv (.int .i64 (w64 (u20 + 1))) hk rfl rfl rfl fun a hk => ?_
     refine sm _ rfl hk rfl rfl rfl fun a hk => ?_
     show wpList _ _ _ [] _ _
     refine wpList_nil ?_
     obtain rfl := Option.some.inj H
     obtain ⟨m53, hmm53, h32⟩ := h32
     show ∃ n', n' < _ ∧ I29 n' _ _
     refine ⟨m53, hmm53, ?_⟩
     rw [hI29]
     exact ⟨(u16.set u20.toNat (IntKind.wrap .u64 ((u16.getD u20.toNat 0) + (x1.getD u20.toNat 0)))), (w64 (u20 + 1)), _, h32, (hk.c 2 rfl (hk.c 3 rfl (hk.c 4 rfl (hk.c 6 rfl hk.k)))), (hs.pick [(1, 1), (2, 2), (3, 3)] rfl), o51, lh52⟩
    ·have hk := hk.lit 7 c35 rfl
     refine cnd_false hk rfl rfl ?_
     refine wp_exit ?_
     obtain rfl := Option.some.inj H
     show R28 _ _
     rw [hR28]
     exact ⟨u16, _, h32.symm, (hk.c 2 rfl (hk.c 4 rfl hk.k)), (hs.pick [(1, 1), (3, 3)] rfl), o18, lh19⟩
  ·intro a w hR0
   rw [hR28] at hR0
   obtain ⟨u21, k22, rfl, hk, hs, o23, lh24⟩ := hR0
   have H := HL27
   try dsimp only at H
   refine hK12 _ _ ?_
   apply wp_seq_k; intro K54 hK54
   apply wp_region_lit
   refine slna (k := 1) hs rfl o23 lh24 rfl hk rfl rfl rfl ag99 sz99 fun a hk => ?_
   obtain ⟨y55, h56, H⟩ := bind_some H
   refine sc rfl en130 hk rfl rfl rfl (impl_limbs_carried_t _ u21 lh24 _ h56) ?_
   rintro _ w ⟨rfl, lh57, hG⟩ a hk
   have hs := hs.call0 hG
   refine sswa 3 y55 hs rfl o10 lh11 lh57 rfl rfl hk rfl rfl rfl rfl sz99 fun k58 w a hk o59 hs => ?_
   show wpList _ _ _ [] _ _
   refine wpList_nil ?_
   refine hK54 _ _ ?_
   have hs := hs.pick [(3, 3)] rfl
   refine wp_ret ?_
   obtain rfl := Option.some.inj H
   exact fin hk _ [(aggI .u64 y55)] rfl ⟨⟨_, rfl, run_loadA ag99 sz99 o59 lh57 hs (q := 3) rfl⟩, trivial⟩ ⟨rfl, lh57, (hs.pick [] rfl).dnil⟩

noncomputable def impl_limbs_times.s1 (x0 : List Int) (x1 : List Int) (u25 : Int) (u47 : List Int) (u51 : Int) : Option (((List Int) × Int) ⊕ Ex ((List Int)) ((List Int))) :=
  (bif (decide (u51 < 5)) then (if 0 ≤ u51 ∧ u51 < (5 : Int) then (((bif (decide ((w64 (u25 + u51)) < 5)) then (if 0 ≤ (w64 (u25 + u51)) ∧ (w64 (u25 + u51)) < (5 : Int) then (if 0 ≤ (w64 (u25 + u51)) ∧ (w64 (u25 + u51)) < (5 : Int) then (some (u47.set (w64 (u25 + u51)).toNat (IntKind.wrap .u64 ((u47.getD (w64 (u25 + u51)).toNat 0) + (IntKind.wrap .u64 ((x0.getD u25.toNat 0) * (x1.getD u51.toNat 0))))))) else none) else none) else (if 0 ≤ (w64 ((w64 (u25 + u51)) - 5)) ∧ (w64 ((w64 (u25 + u51)) - 5)) < (5 : Int) then (if 0 ≤ (w64 ((w64 (u25 + u51)) - 5)) ∧ (w64 ((w64 (u25 + u51)) - 5)) < (5 : Int) then (some (u47.set (w64 ((w64 (u25 + u51)) - 5)).toNat (IntKind.wrap .u64 ((u47.getD (w64 ((w64 (u25 + u51)) - 5)).toNat 0) + (IntKind.wrap .u64 ((IntKind.wrap .u64 (5 * (x0.getD u25.toNat 0))) * (x1.getD u51.toNat 0))))))) else none) else none)) : Option ((List Int))).bind fun u72 => (some (.inl (u72, (w64 (u51 + 1)))))) else none) else (some (.inr (.out u47))))
noncomputable def impl_limbs_times.s0 (x0 : List Int) (x1 : List Int) (u21 : List Int) (u25 : Int) : Option (((List Int) × Int) ⊕ Ex ((List Int)) ((List Int))) :=
  (bif (decide (u25 < 5)) then (if 0 ≤ u25 ∧ u25 < (5 : Int) then ((loopO (fun s => impl_limbs_times.s1 x0 x1 u25 s.1 s.2) (u21, 0)).bind fun o => match o with | .out u52 => (some (.inl (u52, (w64 (u25 + 1))))) | .ret r => (some (.inr (.ret r)))) else none) else (some (.inr (.out u21))))
noncomputable def impl_limbs_times.f (x0 : List Int) (x1 : List Int) : Option ((List Int)) :=
  ((loopO (fun s => impl_limbs_times.s0 x0 x1 s.1 s.2) ((List.replicate 5 (0 : Int)), 0)).bind fun o => match o with | .out u26 => ((impl_limbs_carried.f u26).bind fun y104 => (some y104)) | .ret r => (some r))
set_option maxRecDepth 100000 in
set_option maxHeartbeats 0 in
theorem impl_limbs_times_t (w0 : World) (x0 : List Int) (e0_ : x0.length = 5) (x1 : List Int) (e1_ : x1.length = 5) (r : (List Int)) (H : impl_limbs_times.f x0 x1 = some r) :
    Calls Try.prog 99 #[aggI .u64 x0, aggI .u64 x1] w0 (Ret (fun v w => v = aggI .u64 r ∧ r.length = 5 ∧ Sat [] w0 w [] [])) := by
  have hs : Sat [] w0 w0 [] [] := Sat.init w0 [] [] (by simp) (by simp) List.nodup_nil (by simp [blks])
  unfold impl_limbs_times.f at H
  refine enter Try.func99 rfl Try.ntmps99 rfl fun a hk => ?_
  apply wp_seq_k; intro K1 hK1
  apply wp_region_lit
  refine sbxa 1 hs rfl hk rfl rfl rfl e0_ rfl fun b2 k3 w a hk o4 hs => ?_
  refine sbxa 2 hs rfl hk rfl rfl rfl e1_ rfl fun b5 k6 w a hk o7 hs => ?_
  refine sala 3 ((Lay.int .u64)) (m := 5) (z := 0) (zc := [.int .u64 0]) hs rfl hk rfl rfl ze99 (by exact ⟨rfl, rfl⟩) rfl rfl rfl fun b8 k9 w a hk o10 hs => ?_
  have lh11 : (List.replicate 5 (0 : Int)).length = 5 := List.length_replicate
  show wpList _ _ _ [] _ _
  refine wpList_nil ?_
  refine hK1 _ _ ?_
  apply wp_seq_k; intro K12 hK12
  apply wp_region_lit
  refine sala 4 ((Lay.int .u64)) (m := 5) (z := 0) (zc := [.int .u64 0]) hs rfl hk rfl rfl ze99 (by exact ⟨rfl, rfl⟩) rfl rfl rfl fun b13 k14 w a hk o15 hs => ?_
  have lh16 : (List.replicate 5 (0 : Int)).length = 5 := List.length_replicate
  show wpList _ _ _ [] _ _
  refine wpList_nil ?_
  refine hK12 _ _ ?_
  apply wp_seq_k; intro K17 hK17
  apply wp_seq_k; intro K18 hK18
  apply wp_region_lit
  refine slna (k := 1) hs rfl o4 e0_ rfl hk rfl rfl rfl ag99 sz99 fun a hk => ?_
  refine sm _ rfl hk rfl rfl rfl fun a hk => ?_
  show wpList _ _ _ [] _ _
  refine wpList_nil ?_
  refine hK18 _ _ ?_
  obtain ⟨o30, h31, HL32⟩ := bind_some H
  clear H
  obtain ⟨R33, hR33⟩ : ∃ R : Act → World → Prop, R = fun a w => ∃ (u26 : List Int) (k27 : Chunk), o30 = .out u26 ∧ Kn [(4, (.pointer (some ⟨b8, 0, none⟩))), (5, (.pointer (some ⟨b13, 0, none⟩)))] 50 a ∧ Sat [] w0 w [] [(3, k9), (4, k27)] ∧ Own (Lay.int .u64) 99 (some ⟨b13, 0, none⟩) 5 u26 k27 ∧ u26.length = 5 := ⟨_, rfl⟩
  refine wp_cutq R33 ?_ ?_
  ·refine wp_block ?_
   obtain ⟨fu35, h31⟩ := loopO_some h31
   obtain ⟨I34, hI34⟩ : ∃ I : Nat → Act → World → Prop, I = fun fu a w => ∃ (u21 : List Int) (u25 : Int) (k22 : Chunk), loopN (fun s => impl_limbs_times.s0 x0 x1 s.1 s.2) fu (u21, u25) = some o30 ∧ Kn [(3, (.pointer (some ⟨b5, 0, none⟩))), (4, (.pointer (some ⟨b8, 0, none⟩))), (5, (.pointer (some ⟨b13, 0, none⟩))), (10, (aggI .u64 x0)), (11, (.int .i64 u25))] 50 a ∧ Sat [] w0 w [] [(2, k6), (3, k9), (4, k22)] ∧ Own (Lay.int .u64) 99 (some ⟨b13, 0, none⟩) 5 u21 k22 ∧ u21.length = 5 := ⟨_, rfl⟩
   refine wp_loop_ghost I34 fu35 ?_ ?_
   ·rw [hI34]
    exact ⟨(List.replicate 5 (0 : Int)), 0, _, h31, (hk.c 3 rfl (hk.c 4 rfl (hk.c 5 rfl (hk.c 10 rfl (hk.c 11 rfl hk.k))))), (hs.pick [(2, 2), (3, 3), (4, 4)] rfl), o15, lh16⟩
   ·clear h31 hk hs
    intro fu35 a w hI0
    rw [hI34] at hI0
    obtain ⟨u21, u25, k22, hi, hk, hs, o23, lh24⟩ := hI0
    obtain ⟨x36, H, h37⟩ := loop_round hi
    try dsimp only at H
    unfold impl_limbs_times.s0 at H
    apply wp_seq_k; intro K38 hK38
    apply wp_region_lit
    refine sv (.bool (decide (u25 < 5))) hk rfl rfl rfl fun a hk => ?_
    show wpList _ _ _ [] _ _
    refine wpList_nil ?_
    refine hK38 _ _ ?_
    have hs := hs.pick [(2, 2), (3, 3), (4, 4)] rfl
    apply wp_seq_k; intro K39 hK39
    rcases cond_some H with ⟨c40, H⟩ | ⟨c40, H⟩
    ·have hk := hk.lit 12 c40 rfl
     refine cnd_true hk rfl rfl ?_
     refine wp_skip ?_
     refine hK39 _ _ ?_
     apply wp_seq_k; intro K41 hK41
     refine wp_block ?_
     apply wp_seq_k; intro K42 hK42
     apply wp_region_lit
     refine sm _ rfl hk rfl rfl rfl fun a hk => ?_
     rcases ite_some H with ⟨c43, H⟩ | ⟨_, H⟩
     rotate_left
     ·cases H
     refine sixa rfl hk rfl rfl rfl rfl un99 sz97 ag97 e0_ c43.1 c43.2 fun a hk => ?_
     refine sa _ rfl hk rfl rfl rfl fun a hk => ?_
     refine sa _ rfl hk rfl rfl rfl fun a hk => ?_
     show wpList _ _ _ [] _ _
     refine wpList_nil ?_
     refine hK42 _ _ ?_
     apply wp_seq_k; intro K44 hK44
     apply wp_region_lit
     refine slna (k := 2) hs rfl o7 e1_ rfl hk rfl rfl rfl ag99 sz99 fun a hk => ?_
     refine sm _ rfl hk rfl rfl rfl fun a hk => ?_
     show wpList _ _ _ [] _ _
     refine wpList_nil ?_
     refine hK44 _ _ ?_
     obtain ⟨o56, h57, HL58⟩ := bind_some H
     clear H
     obtain ⟨R59, hR59⟩ : ∃ R : Act → World → Prop, R = fun a w => ∃ (u52 : List Int) (k53 : Chunk), o56 = .out u52 ∧ Kn [(3, (.pointer (some ⟨b5, 0, none⟩))), (4, (.pointer (some ⟨b8, 0, none⟩))), (5, (.pointer (some ⟨b13, 0, none⟩))), (10, (aggI .u64 x0)), (11, (.int .i64 u25))] 50 a ∧ Sat [] w0 w [] [(2, k6), (3, k9), (4, k53)] ∧ Own (Lay.int .u64) 99 (some ⟨b13, 0, none⟩) 5 u52 k53 ∧ u52.length = 5 := ⟨_, rfl⟩
     refine wp_cutq R59 ?_ ?_
     ·refine wp_block ?_
      obtain ⟨fu61, h57⟩ := loopO_some h57
      obtain ⟨I60, hI60⟩ : ∃ I : Nat → Act → World → Prop, I = fun fu a w => ∃ (u47 : List Int) (u51 : Int) (k48 : Chunk), loopN (fun s => impl_limbs_times.s1 x0 x1 u25 s.1 s.2) fu (u47, u51) = some o56 ∧ Kn [(3, (.pointer (some ⟨b5, 0, none⟩))), (4, (.pointer (some ⟨b8, 0, none⟩))), (5, (.pointer (some ⟨b13, 0, none⟩))), (6, (.int .i64 u25)), (7, (.int .u64 (x0.getD u25.toNat 0))), (10, (aggI .u64 x0)), (11, (.int .i64 u25)), (15, (aggI .u64 x1)), (16, (.int .i64 u51))] 50 a ∧ Sat [] w0 w [] [(2, k6), (3, k9), (4, k48)] ∧ Own (Lay.int .u64) 99 (some ⟨b13, 0, none⟩) 5 u47 k48 ∧ u47.length = 5 := ⟨_, rfl⟩
      refine wp_loop_ghost I60 fu61 ?_ ?_
      ·rw [hI60]
       exact ⟨u21, 0, _, h57, (hk.c 3 rfl (hk.c 4 rfl (hk.c 5 rfl (hk.c 6 rfl (hk.c 7 rfl (hk.c 10 rfl (hk.c 11 rfl (hk.c 15 rfl (hk.c 16 rfl hk.k))))))))), (hs.pick [(2, 2), (3, 3), (4, 4)] rfl), o23, lh24⟩
      ·clear h57 hk hs
       intro fu61 a w hI0
       rw [hI60] at hI0
       obtain ⟨u47, u51, k48, hi, hk, hs, o49, lh50⟩ := hI0
       obtain ⟨x62, H, h63⟩ := loop_round hi
       try dsimp only at H
       unfold impl_limbs_times.s1 at H
       apply wp_seq_k; intro K64 hK64
       apply wp_region_lit
       refine sv (.bool (decide (u51 < 5))) hk rfl rfl rfl fun a hk => ?_
       show wpList _ _ _ [] _ _
       refine wpList_nil ?_
       refine hK64 _ _ ?_
       have hs := hs.pick [(2, 2), (3, 3), (4, 4)] rfl
       apply wp_seq_k; intro K65 hK65
       rcases cond_some H with ⟨c66, H⟩ | ⟨c66, H⟩
       ·have hk := hk.lit 17 c66 rfl
        refine cnd_true hk rfl rfl ?_
        refine wp_skip ?_
        refine hK65 _ _ ?_
        apply wp_seq_k; intro K67 hK67
        refine wp_block ?_
        apply wp_seq_k; intro K68 hK68
        apply wp_region_lit
        refine sm _ rfl hk rfl rfl rfl fun a hk => ?_
        rcases ite_some H with ⟨c69, H⟩ | ⟨_, H⟩
        rotate_left
        ·cases H
        refine sixa rfl hk rfl rfl rfl rfl un99 sz97 ag97 e1_ c69.1 c69.2 fun a hk => ?_
        refine sa _ rfl hk rfl rfl rfl fun a hk => ?_
        refine sa _ rfl hk rfl rfl rfl fun a hk => ?_
        show wpList _ _ _ [] _ _
        refine wpList_nil ?_
        refine hK68 _ _ ?_
        apply wp_seq_k; intro K70 hK70
        apply wp_region_lit
        refine sm _ rfl hk rfl rfl rfl fun a hk => ?_
        refine sm _ rfl hk rfl rfl rfl fun a hk => ?_
        refine sv (.int .i64 (w64 (u25 + u51))) hk rfl rfl rfl fun a hk => ?_
        refine sv (.bool (decide ((w64 (u25 + u51)) < 5))) hk rfl rfl rfl fun a hk => ?_
        show wpList _ _ _ [] _ _
        refine wpList_nil ?_
        refine hK70 _ _ ?_
        obtain ⟨o76, h77, HL78⟩ := bind_some H
        clear H
        obtain ⟨R79, hR79⟩ : ∃ R : Act → World → Prop, R = fun a w => ∃ (u72 : List Int) (k73 : Chunk), u72 = o76 ∧ Kn [(3, (.pointer (some ⟨b5, 0, none⟩))), (4, (.pointer (some ⟨b8, 0, none⟩))), (5, (.pointer (some ⟨b13, 0, none⟩))), (6, (.int .i64 u25)), (7, (.int .u64 (x0.getD u25.toNat 0))), (10, (aggI .u64 x0)), (11, (.int .i64 u25)), (15, (aggI .u64 x1)), (16, (.int .i64 u51))] 50 a ∧ Sat [] w0 w [] [(2, k6), (3, k9), (4, k73)] ∧ Own (Lay.int .u64) 99 (some ⟨b13, 0, none⟩) 5 u72 k73 ∧ u72.length = 5 := ⟨_, rfl⟩
        refine wp_cutq R79 ?_ ?_
        ·have H := h77
         rcases cond_some H with ⟨c80, H⟩ | ⟨c80, H⟩
         ·have hk := hk.lit 23 c80 rfl
          refine cnd_true hk rfl rfl ?_
          apply wp_region_lit
          refine sm _ rfl hk rfl rfl rfl fun a hk => ?_
          refine sm _ rfl hk rfl rfl rfl fun a hk => ?_
          refine sv (.int .i64 (w64 (u25 + u51))) hk rfl rfl rfl fun a hk => ?_
          rcases ite_some H with ⟨c81, H⟩ | ⟨_, H⟩
          rotate_left
          ·cases H
          obtain ⟨b82, q83, hAc81⟩ := (o49.view).some_ (w64 (u25 + u51)) c81.1 (by rw [lh50]; exact c81.2)
          refine sia rfl hk rfl rfl rfl rfl un99 sz97 c81.1 c81.2 hAc81 fun a hk => ?_
          obtain ⟨_, rfl, e84⟩ := (o49.view).at_ 0 (w64 (u25 + u51)) c81.1 (by rw [lh50]; exact c81.2)
          refine sl (v := (.int .u64 (u47.getD (w64 (u25 + u51)).toNat 0))) rfl hk rfl rfl rfl ag97 ((e84 0 _ rfl).cell (hs.hasG (k := 4) rfl)) fun a hk => ?_
          refine sm _ rfl hk rfl rfl rfl fun a hk => ?_
          refine sm _ rfl hk rfl rfl rfl fun a hk => ?_
          refine sv (.int .u64 (IntKind.wrap .u64 ((x0.getD u25.toNat 0) * (x1.getD u51.toNat 0)))) hk rfl rfl rfl fun a hk => ?_
          refine sv (.int .u64 (IntKind.wrap .u64 ((u47.getD (w64 (u25 + u51)).toNat 0) + (IntKind.wrap .u64 ((x0.getD u25.toNat 0) * (x1.getD u51.toNat 0)))))) hk rfl rfl rfl fun a hk => ?_
          rcases ite_some H with ⟨c85, H⟩ | ⟨_, H⟩
          rotate_left
          ·cases H
          obtain ⟨b86, q87, hAc85⟩ := (o49.view).some_ (w64 (u25 + u51)) c85.1 (by rw [lh50]; exact c85.2)
          refine sia rfl hk rfl rfl rfl rfl un99 sz97 c85.1 c85.2 hAc85 fun a hk => ?_
          refine so (j := 0) 4 0 (IntKind.wrap .u64 ((u47.getD (w64 (u25 + u51)).toNat 0) + (IntKind.wrap .u64 ((x0.getD u25.toNat 0) * (x1.getD u51.toNat 0))))) hs rfl o49 c85.1 (by rw [lh50]; exact c85.2) rfl hk rfl rfl rfl rfl rfl sz97 (by simp [Value.cells, Value.oneCell']) (Nat.le_of_ble_eq_true rfl) (fun _ _ h => ⟨by rw [h.1]; rfl, h.2⟩) fun k88 w a hk o89 hs => ?_
          have lh90 : (u47.set (w64 (u25 + u51)).toNat (IntKind.wrap .u64 ((u47.getD (w64 (u25 + u51)).toNat 0) + (IntKind.wrap .u64 ((x0.getD u25.toNat 0) * (x1.getD u51.toNat 0)))))).length = 5 := by rw [List.length_set]; exact lh50
          show wpList _ _ _ [] _ _
          refine wpList_nil ?_
          obtain rfl := Option.some.inj H
          show R79 _ _
          rw [hR79]
          exact ⟨(u47.set (w64 (u25 + u51)).toNat (IntKind.wrap .u64 ((u47.getD (w64 (u25 + u51)).toNat 0) + (IntKind.wrap .u64 ((x0.getD u25.toNat 0) * (x1.getD u51.toNat 0)))))), _, rfl, (hk.c 3 rfl (hk.c 4 rfl (hk.c 5 rfl (hk.c 6 rfl (hk.c 7 rfl (hk.c 10 rfl (hk.c 11 rfl (hk.c 15 rfl (hk.c 16 rfl hk.k))))))))), (hs.pick [(2, 2), (3, 3), (4, 4)] rfl), o89, lh90⟩
         ·have hk := hk.lit 23 c80 rfl
          refine cnd_false hk rfl rfl ?_
          apply wp_region_lit
          refine sm _ rfl hk rfl rfl rfl fun a hk => ?_
          refine sm _ rfl hk rfl rfl rfl fun a hk => ?_
          refine sv (.int .i64 (w64 (u25 + u51))) hk rfl rfl rfl fun a hk => ?_
          refine sv (.int .i64 (w64 ((w64 (u25 + u51)) - 5))) hk rfl rfl rfl fun a hk => ?_
          rcases ite_some H with ⟨c91, H⟩ | ⟨_, H⟩
          rotate_left
          ·cases H
          obtain ⟨b92, q93, hAc91⟩ := (o49.view).some_ (w64 ((w64 (u25 + u51)) - 5)) c91.1 (by rw [lh50]; exact c91.2)
          refine sia rfl hk rfl rfl rfl rfl un99 sz97 c91.1 c91.2 hAc91 fun a hk => ?_
          obtain ⟨_, rfl, e94⟩ := (o49.view).at_ 0 (w64 ((w64 (u25 + u51)) - 5)) c91.1 (by rw [lh50]; exact c91.2)
          refine sl (v := (.int .u64 (u47.getD (w64 ((w64 (u25 + u51)) - 5)).toNat 0))) rfl hk rfl rfl rfl ag97 ((e94 0 _ rfl).cell (hs.hasG (k := 4) rfl)) fun a hk => ?_
          refine sm _ rfl hk rfl rfl rfl fun a hk => ?_
          refine sv (.int .u64 (IntKind.wrap .u64 (5 * (x0.getD u25.toNat 0)))) hk rfl rfl rfl fun a hk => ?_
          refine sm _ rfl hk rfl rfl rfl fun a hk => ?_
          refine sv (.int .u64 (IntKind.wrap .u64 ((IntKind.wrap .u64 (5 * (x0.getD u25.toNat 0))) * (x1.getD u51.toNat 0)))) hk rfl rfl rfl fun a hk => ?_
          refine sv (.int .u64 (IntKind.wrap .u64 ((u47.getD (w64 ((w64 (u25 + u51)) - 5)).toNat 0) + (IntKind.wrap .u64 ((IntKind.wrap .u64 (5 * (x0.getD u25.toNat 0))) * (x1.getD u51.toNat 0)))))) hk rfl rfl rfl fun a hk => ?_
          rcases ite_some H with ⟨c95, H⟩ | ⟨_, H⟩
          rotate_left
          ·cases H
          obtain ⟨b96, q97, hAc95⟩ := (o49.view).some_ (w64 ((w64 (u25 + u51)) - 5)) c95.1 (by rw [lh50]; exact c95.2)
          refine sia rfl hk rfl rfl rfl rfl un99 sz97 c95.1 c95.2 hAc95 fun a hk => ?_
          refine so (j := 0) 4 0 (IntKind.wrap .u64 ((u47.getD (w64 ((w64 (u25 + u51)) - 5)).toNat 0) + (IntKind.wrap .u64 ((IntKind.wrap .u64 (5 * (x0.getD u25.toNat 0))) * (x1.getD u51.toNat 0))))) hs rfl o49 c95.1 (by rw [lh50]; exact c95.2) rfl hk rfl rfl rfl rfl rfl sz97 (by simp [Value.cells, Value.oneCell']) (Nat.le_of_ble_eq_true rfl) (fun _ _ h => ⟨by rw [h.1]; rfl, h.2⟩) fun k98 w a hk o99 hs => ?_
          have lh100 : (u47.set (w64 ((w64 (u25 + u51)) - 5)).toNat (IntKind.wrap .u64 ((u47.getD (w64 ((w64 (u25 + u51)) - 5)).toNat 0) + (IntKind.wrap .u64 ((IntKind.wrap .u64 (5 * (x0.getD u25.toNat 0))) * (x1.getD u51.toNat 0)))))).length = 5 := by rw [List.length_set]; exact lh50
          show wpList _ _ _ [] _ _
          refine wpList_nil ?_
          obtain rfl := Option.some.inj H
          show R79 _ _
          rw [hR79]
          exact ⟨(u47.set (w64 ((w64 (u25 + u51)) - 5)).toNat (IntKind.wrap .u64 ((u47.getD (w64 ((w64 (u25 + u51)) - 5)).toNat 0) + (IntKind.wrap .u64 ((IntKind.wrap .u64 (5 * (x0.getD u25.toNat 0))) * (x1.getD u51.toNat 0)))))), _, rfl, (hk.c 3 rfl (hk.c 4 rfl (hk.c 5 rfl (hk.c 6 rfl (hk.c 7 rfl (hk.c 10 rfl (hk.c 11 rfl (hk.c 15 rfl (hk.c 16 rfl hk.k))))))))), (hs.pick [(2, 2), (3, 3), (4, 4)] rfl), o99, lh100⟩
        ·intro a w hR0
         rw [hR79] at hR0
         obtain ⟨u72, k73, rfl, hk, hs, o74, lh75⟩ := hR0
         have H := HL78
         try dsimp only at H
         refine hK67 _ _ ?_
         have hs := hs.pick [(2, 2), (3, 3), (4, 4)] rfl
         apply wp_region_lit
         refine sv (.int .i64 (w64 (u51 + 1))) hk rfl rfl rfl fun a hk => ?_
         refine sm _ rfl hk rfl rfl rfl fun a hk => ?_
         show wpList _ _ _ [] _ _
         refine wpList_nil ?_
         obtain rfl := Option.some.inj H
         obtain ⟨m101, hmm101, h63⟩ := h63
         show ∃ n', n' < _ ∧ I60 n' _ _
         refine ⟨m101, hmm101, ?_⟩
         rw [hI60]
         exact ⟨u72, (w64 (u51 + 1)), _, h63, (hk.c 3 rfl (hk.c 4 rfl (hk.c 5 rfl (hk.c 6 rfl (hk.c 7 rfl (hk.c 10 rfl (hk.c 11 rfl (hk.c 15 rfl (hk.c 16 rfl hk.k))))))))), (hs.pick [(2, 2), (3, 3), (4, 4)] rfl), o74, lh75⟩
       ·have hk := hk.lit 17 c66 rfl
        refine cnd_false hk rfl rfl ?_
        refine wp_exit ?_
        obtain rfl := Option.some.inj H
        show R59 _ _
        rw [hR59]
        exact ⟨u47, _, h63.symm, (hk.c 3 rfl (hk.c 4 rfl (hk.c 5 rfl (hk.c 10 rfl (hk.c 11 rfl hk.k))))), (hs.pick [(2, 2), (3, 3), (4, 4)] rfl), o49, lh50⟩
     ·intro a w hR0
      rw [hR59] at hR0
      obtain ⟨u52, k53, rfl, hk, hs, o54, lh55⟩ := hR0
      have H := HL58
      try dsimp only at H
      refine hK41 _ _ ?_
      have hs := hs.pick [(2, 2), (3, 3), (4, 4)] rfl
      apply wp_region_lit
      refine sv (.int .i64 (w64 (u25 + 1))) hk rfl rfl rfl fun a hk => ?_
      refine sm _ rfl hk rfl rfl rfl fun a hk => ?_
      show wpList _ _ _ [] _ _
      refine wpList_nil ?_
      obtain rfl := Option.some.inj H
      obtain ⟨m102, hmm102, h37⟩ := h37
      show ∃ n', n' < _ ∧ I34 n' _ _
      refine ⟨m102, hmm102, ?_⟩
      rw [hI34]
      exact ⟨u52, (w64 (u25 + 1)), _, h37, (hk.c 3 rfl (hk.c 4 rfl (hk.c 5 rfl (hk.c 10 rfl (hk.c 11 rfl hk.k))))), (hs.pick [(2, 2), (3, 3), (4, 4)] rfl), o54, lh55⟩
    ·have hk := hk.lit 12 c40 rfl
     refine cnd_false hk rfl rfl ?_
     refine wp_exit ?_
     obtain rfl := Option.some.inj H
     show R33 _ _
     rw [hR33]
     exact ⟨u21, _, h37.symm, (hk.c 4 rfl (hk.c 5 rfl hk.k)), (hs.pick [(3, 3), (4, 4)] rfl), o23, lh24⟩
  ·intro a w hR0
   rw [hR33] at hR0
   obtain ⟨u26, k27, rfl, hk, hs, o28, lh29⟩ := hR0
   have H := HL32
   try dsimp only at H
   refine hK17 _ _ ?_
   have hs := hs.pick [(3, 3), (4, 4)] rfl
   apply wp_seq_k; intro K103 hK103
   apply wp_region_lit
   refine slna (k := 4) hs rfl o28 lh29 rfl hk rfl rfl rfl ag99 sz99 fun a hk => ?_
   obtain ⟨y104, h105, H⟩ := bind_some H
   refine sc rfl en130 hk rfl rfl rfl (impl_limbs_carried_t _ u26 lh29 _ h105) ?_
   rintro _ w ⟨rfl, lh106, hG⟩ a hk
   have hs := hs.call0 hG
   refine sswa 3 y104 hs rfl o10 lh11 lh106 rfl rfl hk rfl rfl rfl rfl sz99 fun k107 w a hk o108 hs => ?_
   show wpList _ _ _ [] _ _
   refine wpList_nil ?_
   refine hK103 _ _ ?_
   refine wp_ret ?_
   obtain rfl := Option.some.inj H
   exact fin hk _ [(aggI .u64 y104)] rfl ⟨⟨_, rfl, run_loadA ag99 sz99 o108 lh106 hs (q := 3) rfl⟩, trivial⟩ ⟨rfl, lh106, (hs.pick [] rfl).dnil⟩

noncomputable def impl_limbs_reduced.s0 (y10 : (List Int)) (u27 : Int) : Option ((Int) ⊕ Ex (Unit) ((List Int))) :=
  (bif (decide (u27 ≥ 0)) then (if 0 ≤ u27 ∧ u27 < (5 : Int) then (if 0 ≤ u27 ∧ u27 < (5 : Int) then (bif ((y10.getD u27.toNat 0) != (([67108859, 67108863, 67108863, 67108863, 67108863] : List Int).getD u27.toNat 0)) then (if 0 ≤ u27 ∧ u27 < (5 : Int) then (if 0 ≤ u27 ∧ u27 < (5 : Int) then (bif (decide ((y10.getD u27.toNat 0) < (([67108859, 67108863, 67108863, 67108863, 67108863] : List Int).getD u27.toNat 0))) then (some (.inr (.ret y10))) else (some (.inr (.out ())))) else none) else none) else (some (.inl (w64 (u27 - 1))))) else none) else none) else (some (.inr (.out ()))))
noncomputable def impl_limbs_reduced.s1  (u71 : List Int) (u75 : Int) : Option (((List Int) × Int) ⊕ Ex ((List Int)) ((List Int))) :=
  (bif (decide (u75 < 5)) then (if 0 ≤ u75 ∧ u75 < (5 : Int) then (if 0 ≤ u75 ∧ u75 < (5 : Int) then (if 0 ≤ u75 ∧ u75 < (5 : Int) then (some (.inl ((u71.set u75.toNat (IntKind.wrap .u64 ((u71.getD u75.toNat 0) - (([67108859, 67108863, 67108863, 67108863, 67108863] : List Int).getD u75.toNat 0)))), (w64 (u75 + 1))))) else none) else none) else none) else (some (.inr (.out u71))))
noncomputable def impl_limbs_reduced.f (x0 : List Int) : Option ((List Int)) :=
  ((impl_limbs_carried.f x0).bind fun y10 => ((loopO (fun s => impl_limbs_reduced.s0 y10 s) 4).bind fun o => match o with | .out _ => ((loopO (fun s => impl_limbs_reduced.s1  s.1 s.2) (y10, 0)).bind fun o => match o with | .out u76 => (some u76) | .ret r => (some r)) | .ret r => (some r)))
set_option maxRecDepth 100000 in
set_option maxHeartbeats 0 in
theorem impl_limbs_reduced_t (w0 : World) (x0 : List Int) (e0_ : x0.length = 5) (r : (List Int)) (H : impl_limbs_reduced.f x0 = some r) :
    Calls Try.prog 100 #[aggI .u64 x0] w0 (Ret (fun v w => v = aggI .u64 r ∧ r.length = 5 ∧ Sat [] w0 w [] [])) := by
  have hs : Sat [] w0 w0 [] [] := Sat.init w0 [] [] (by simp) (by simp) List.nodup_nil (by simp [blks])
  unfold impl_limbs_reduced.f at H
  refine enter Try.func100 rfl Try.ntmps100 rfl fun a hk => ?_
  apply wp_seq_k; intro K1 hK1
  apply wp_region_lit
  refine sbxa 1 hs rfl hk rfl rfl rfl e0_ rfl fun b2 k3 w a hk o4 hs => ?_
  refine sala 2 ((Lay.int .u64)) (m := 5) (z := 0) (zc := [.int .u64 0]) hs rfl hk rfl rfl ze99 (by exact ⟨rfl, rfl⟩) rfl rfl rfl fun b5 k6 w a hk o7 hs => ?_
  have lh8 : (List.replicate 5 (0 : Int)).length = 5 := List.length_replicate
  show wpList _ _ _ [] _ _
  refine wpList_nil ?_
  refine hK1 _ _ ?_
  apply wp_seq_k; intro K9 hK9
  apply wp_region_lit
  refine slna (k := 1) hs rfl o4 e0_ rfl hk rfl rfl rfl ag99 sz99 fun a hk => ?_
  obtain ⟨y10, h11, H⟩ := bind_some H
  refine sc rfl en130 hk rfl rfl rfl (impl_limbs_carried_t _ x0 e0_ _ h11) ?_
  rintro _ w ⟨rfl, lh12, hG⟩ a hk
  have hs := hs.call0 hG
  refine sswa 1 y10 hs rfl o4 e0_ lh12 rfl rfl hk rfl rfl rfl rfl sz99 fun k13 w a hk o14 hs => ?_
  show wpList _ _ _ [] _ _
  refine wpList_nil ?_
  refine hK9 _ _ ?_
  apply wp_seq_k; intro K15 hK15
  apply wp_region_lit
  refine sbd (pv := [(0, (.int .u64 67108859)), (1, (.int .u64 67108863)), (2, (.int .u64 67108863)), (3, (.int .u64 67108863)), (4, (.int .u64 67108863))]) rfl hk rfl rfl rfl (bd99_3 67108859 67108863 67108863 67108863 67108863) fun a hk => ?_
  have lh16 : ([67108859, 67108863, 67108863, 67108863, 67108863] : List Int).length = 5 := rfl
  refine sala 3 ((Lay.int .u64)) (m := 5) (z := 0) (zc := [.int .u64 0]) hs rfl hk rfl rfl ze99 (by exact ⟨rfl, rfl⟩) rfl rfl rfl fun b17 k18 w a hk o19 hs => ?_
  have lh20 : (List.replicate 5 (0 : Int)).length = 5 := List.length_replicate
  refine sswa 3 ([67108859, 67108863, 67108863, 67108863, 67108863] : List Int) hs rfl o19 lh20 lh16 rfl rfl hk rfl rfl rfl rfl sz99 fun k21 w a hk o22 hs => ?_
  show wpList _ _ _ [] _ _
  refine wpList_nil ?_
  refine hK15 _ _ ?_
  apply wp_seq_k; intro K23 hK23
  apply wp_seq_k; intro K24 hK24
  apply wp_region_lit
  refine sa _ rfl hk rfl rfl rfl fun a hk => ?_
  show wpList _ _ _ [] _ _
  refine wpList_nil ?_
  refine hK24 _ _ ?_
  have hs := hs.pick [(1, 1), (2, 2), (3, 3)] rfl
  obtain ⟨o28, h29, HL30⟩ := bind_some H
  clear H
  obtain ⟨R31, hR31⟩ : ∃ R : Act → World → Prop, R = fun a w => o28 = .out () ∧ Kn [(1, (.pointer (some ⟨b2, 0, none⟩))), (2, (.pointer (some ⟨b5, 0, none⟩))), (3, (.pointer (some ⟨b17, 0, none⟩)))] 41 a ∧ Sat [] w0 w [] [(1, k13), (2, k6), (3, k21)] := ⟨_, rfl⟩
  refine wp_cutq R31 ?_ ?_
  ·refine wp_block ?_
   obtain ⟨fu33, h29⟩ := loopO_some h29
   obtain ⟨I32, hI32⟩ : ∃ I : Nat → Act → World → Prop, I = fun fu a w => ∃ (u27 : Int), loopN (fun s => impl_limbs_reduced.s0 y10 s) fu u27 = some o28 ∧ Kn [(1, (.pointer (some ⟨b2, 0, none⟩))), (2, (.pointer (some ⟨b5, 0, none⟩))), (3, (.pointer (some ⟨b17, 0, none⟩))), (4, (.int .i64 u27))] 41 a ∧ Sat [] w0 w [] [(1, k13), (2, k6), (3, k21)] := ⟨_, rfl⟩
   refine wp_loop_ghost I32 fu33 ?_ ?_
   ·rw [hI32]
    exact ⟨4, h29, (hk.c 1 rfl (hk.c 2 rfl (hk.c 3 rfl (hk.c 4 rfl hk.k)))), (hs.pick [(1, 1), (2, 2), (3, 3)] rfl)⟩
   ·clear h29 hk hs
    intro fu33 a w hI0
    rw [hI32] at hI0
    obtain ⟨u27, hi, hk, hs⟩ := hI0
    obtain ⟨x34, H, h35⟩ := loop_round hi
    try dsimp only at H
    unfold impl_limbs_reduced.s0 at H
    apply wp_seq_k; intro K36 hK36
    apply wp_seq_k; intro K37 hK37
    apply wp_region_lit
    refine sm _ rfl hk rfl rfl rfl fun a hk => ?_
    refine sv (.bool (decide (u27 ≥ 0))) hk rfl rfl rfl fun a hk => ?_
    show wpList _ _ _ [] _ _
    refine wpList_nil ?_
    refine hK37 _ _ ?_
    rcases cond_some H with ⟨c38, H⟩ | ⟨c38, H⟩
    ·have hk := hk.lit 10 c38 rfl
     refine cnd_true hk rfl rfl ?_
     refine wp_skip ?_
     refine hK36 _ _ ?_
     apply wp_seq_k; intro K39 hK39
     refine wp_block ?_
     apply wp_seq_k; intro K40 hK40
     refine wp_region_tree (.q 0 (.q 1 (.q 2 (.alt 3 (.alt 4 (.alt 5 (.alt 6 .done .stop) .stop) .stop) .stop)))) mo (by kernel_rfl) (hs.pick [(1, 1), (2, 2), (3, 3)] rfl) fun _ => ?_
     have hs := hs.drew
     refine tqst (.int .i64 u27) hk rfl rfl rfl rfl (fun w hs => sm _ rfl hk rfl rfl rfl fun a hk => qe hk) fun a hk => ?_
     rcases ite_some H with ⟨c42, H⟩ | ⟨_, H⟩
     rotate_left
     ·cases H
     obtain ⟨b43, q44, hAc42⟩ := (o14.view).some_ u27 c42.1 (by rw [lh12]; exact c42.2)
     refine tqst (.pointer (some (padd (some ⟨b2, 0, none⟩) (u27.toNat * 1)))) hk rfl rfl rfl rfl (fun w hs => sia rfl hk rfl rfl rfl rfl un99 sz97 c42.1 c42.2 hAc42 fun a hk => qe hk) fun a hk => ?_
     obtain ⟨_, rfl, e45⟩ := (o14.view).at_ 0 u27 c42.1 (by rw [lh12]; exact c42.2)
     refine tqst (.int .u64 (y10.getD u27.toNat 0)) hk rfl rfl rfl rfl (fun w hs => sl (v := (.int .u64 (y10.getD u27.toNat 0))) rfl hk rfl rfl rfl ag97 ((e45 0 _ rfl).cell (hs.hasG (k := 1) rfl)) fun a hk => qe hk) fun a hk => ?_
     refine tsst hk rfl rfl (fun K_r41_3 hK_r41_3 w hF => ?_) wt_stop
     have hs := hs.f hF
     refine sm _ rfl hk rfl rfl rfl fun a hk => ?_
     refine se (hs.pick [(1, 1), (2, 2), (3, 3)] rfl) hk (hK_r41_3 _ _ ?_)
     refine tsst hk rfl rfl (fun K_r41_4 hK_r41_4 w hF => ?_) wt_stop
     have hs := hs.f hF
     rcases ite_some H with ⟨c46, H⟩ | ⟨_, H⟩
     rotate_left
     ·cases H
     obtain ⟨b47, q48, hAc46⟩ := (o22.view).some_ u27 c46.1 (by rw [lh16]; exact c46.2)
     refine sia rfl hk rfl rfl rfl rfl un99 sz97 c46.1 c46.2 hAc46 fun a hk => ?_
     refine se (hs.pick [(1, 1), (2, 2), (3, 3)] rfl) hk (hK_r41_4 _ _ ?_)
     refine tsst hk rfl rfl (fun K_r41_5 hK_r41_5 w hF => ?_) wt_stop
     have hs := hs.f hF
     obtain ⟨_, rfl, e49⟩ := (o22.view).at_ 0 u27 c46.1 (by rw [lh16]; exact c46.2)
     refine sl (v := (.int .u64 (([67108859, 67108863, 67108863, 67108863, 67108863] : List Int).getD u27.toNat 0))) rfl hk rfl rfl rfl ag97 ((e49 0 _ rfl).cell (hs.hasG (k := 3) rfl)) fun a hk => ?_
     refine se (hs.pick [(1, 1), (2, 2), (3, 3)] rfl) hk (hK_r41_5 _ _ ?_)
     refine tsst hk rfl rfl (fun K_r41_6 hK_r41_6 w hF => ?_) wt_stop
     have hs := hs.f hF
     refine sv (.bool ((y10.getD u27.toNat 0) != (([67108859, 67108863, 67108863, 67108863, 67108863] : List Int).getD u27.toNat 0))) hk rfl rfl rfl fun a hk => ?_
     refine se (hs.pick [(1, 1), (2, 2), (3, 3)] rfl) hk (hK_r41_6 _ _ ?_)
     refine wtl_nil fun w hF _ => ?_
     have hs := hs.f hF
     refine hK40 _ _ ?_
     rcases cond_some H with ⟨c50, H⟩ | ⟨c50, H⟩
     ·have hk := hk.lit 19 c50 rfl
      refine cnd_true hk rfl rfl ?_
      apply wp_seq_k; intro K51 hK51
      apply wp_seq_k; intro K52 hK52
      refine wp_region_tree (.q 0 (.q 1 (.q 2 (.alt 3 (.alt 4 (.alt 5 (.alt 6 .done .stop) .stop) .stop) .stop)))) mo (by kernel_rfl) (hs.pick [(1, 1), (2, 2), (3, 3)] rfl) fun _ => ?_
      have hs := hs.drew
      refine tqst (.int .i64 u27) hk rfl rfl rfl rfl (fun w hs => sm _ rfl hk rfl rfl rfl fun a hk => qe hk) fun a hk => ?_
      rcases ite_some H with ⟨c54, H⟩ | ⟨_, H⟩
      rotate_left
      ·cases H
      obtain ⟨b55, q56, hAc54⟩ := (o14.view).some_ u27 c54.1 (by rw [lh12]; exact c54.2)
      refine tqst (.pointer (some (padd (some ⟨b2, 0, none⟩) (u27.toNat * 1)))) hk rfl rfl rfl rfl (fun w hs => sia rfl hk rfl rfl rfl rfl un99 sz97 c54.1 c54.2 hAc54 fun a hk => qe hk) fun a hk => ?_
      obtain ⟨_, rfl, e57⟩ := (o14.view).at_ 0 u27 c54.1 (by rw [lh12]; exact c54.2)
      refine tqst (.int .u64 (y10.getD u27.toNat 0)) hk rfl rfl rfl rfl (fun w hs => sl (v := (.int .u64 (y10.getD u27.toNat 0))) rfl hk rfl rfl rfl ag97 ((e57 0 _ rfl).cell (hs.hasG (k := 1) rfl)) fun a hk => qe hk) fun a hk => ?_
      refine tsst hk rfl rfl (fun K_r53_3 hK_r53_3 w hF => ?_) wt_stop
      have hs := hs.f hF
      refine sm _ rfl hk rfl rfl rfl fun a hk => ?_
      refine se (hs.pick [(1, 1), (2, 2), (3, 3)] rfl) hk (hK_r53_3 _ _ ?_)
      refine tsst hk rfl rfl (fun K_r53_4 hK_r53_4 w hF => ?_) wt_stop
      have hs := hs.f hF
      rcases ite_some H with ⟨c58, H⟩ | ⟨_, H⟩
      rotate_left
      ·cases H
      obtain ⟨b59, q60, hAc58⟩ := (o22.view).some_ u27 c58.1 (by rw [lh16]; exact c58.2)
      refine sia rfl hk rfl rfl rfl rfl un99 sz97 c58.1 c58.2 hAc58 fun a hk => ?_
      refine se (hs.pick [(1, 1), (2, 2), (3, 3)] rfl) hk (hK_r53_4 _ _ ?_)
      refine tsst hk rfl rfl (fun K_r53_5 hK_r53_5 w hF => ?_) wt_stop
      have hs := hs.f hF
      obtain ⟨_, rfl, e61⟩ := (o22.view).at_ 0 u27 c58.1 (by rw [lh16]; exact c58.2)
      refine sl (v := (.int .u64 (([67108859, 67108863, 67108863, 67108863, 67108863] : List Int).getD u27.toNat 0))) rfl hk rfl rfl rfl ag97 ((e61 0 _ rfl).cell (hs.hasG (k := 3) rfl)) fun a hk => ?_
      refine se (hs.pick [(1, 1), (2, 2), (3, 3)] rfl) hk (hK_r53_5 _ _ ?_)
      refine tsst hk rfl rfl (fun K_r53_6 hK_r53_6 w hF => ?_) wt_stop
      have hs := hs.f hF
      refine sv (.bool (decide ((y10.getD u27.toNat 0) < (([67108859, 67108863, 67108863, 67108863, 67108863] : List Int).getD u27.toNat 0)))) hk rfl rfl rfl fun a hk => ?_
      refine se (hs.pick [(1, 1), (2, 2), (3, 3)] rfl) hk (hK_r53_6 _ _ ?_)
      refine wtl_nil fun w hF _ => ?_
      have hs := hs.f hF
      refine hK52 _ _ ?_
      have hs := hs.pick [(1, 1), (2, 2), (3, 3)] rfl
      rcases cond_some H with ⟨c62, H⟩ | ⟨c62, H⟩
      ·have hk := hk.lit 26 c62 rfl
       refine cnd_true hk rfl rfl ?_
       apply wp_seq_k; intro K63 hK63
       apply wp_region_lit
       refine slna (k := 1) hs rfl o14 lh12 rfl hk rfl rfl rfl ag99 sz99 fun a hk => ?_
       refine sswa 2 y10 hs rfl o7 lh8 lh12 rfl rfl hk rfl rfl rfl rfl sz99 fun k64 w a hk o65 hs => ?_
       show wpList _ _ _ [] _ _
       refine wpList_nil ?_
       refine hK63 _ _ ?_
       refine wp_ret ?_
       obtain rfl := Option.some.inj H
       have ho28 := h35
       try dsimp only at ho28
       subst ho28
       have H := HL30
       try dsimp only at H
       obtain rfl := Option.some.inj H
       exact fin hk _ [(aggI .u64 y10)] rfl ⟨⟨_, rfl, run_loadA ag99 sz99 o65 lh12 hs (q := 2) rfl⟩, trivial⟩ ⟨rfl, lh12, (hs.pick [] rfl).dnil⟩
      ·have hk := hk.lit 26 c62 rfl
       refine cnd_false hk rfl rfl ?_
       refine wp_skip ?_
       refine hK51 _ _ ?_
       refine wp_exit ?_
       obtain rfl := Option.some.inj H
       show R31 _ _
       rw [hR31]
       exact ⟨h35.symm, (hk.c 1 rfl (hk.c 2 rfl (hk.c 3 rfl hk.k))), (hs.pick [(1, 1), (2, 2), (3, 3)] rfl)⟩
     ·have hk := hk.lit 19 c50 rfl
      refine cnd_false hk rfl rfl ?_
      refine wp_skip ?_
      refine hK39 _ _ ?_
      have hs := hs.pick [(1, 1), (2, 2), (3, 3)] rfl
      apply wp_region_lit
      refine sm _ rfl hk rfl rfl rfl fun a hk => ?_
      refine sv (.int .i64 (w64 (u27 - 1))) hk rfl rfl rfl fun a hk => ?_
      refine sa _ rfl hk rfl rfl rfl fun a hk => ?_
      show wpList _ _ _ [] _ _
      refine wpList_nil ?_
      obtain rfl := Option.some.inj H
      obtain ⟨m66, hmm66, h35⟩ := h35
      show ∃ n', n' < _ ∧ I32 n' _ _
      refine ⟨m66, hmm66, ?_⟩
      rw [hI32]
      exact ⟨(w64 (u27 - 1)), h35, (hk.c 1 rfl (hk.c 2 rfl (hk.c 3 rfl (hk.c 4 rfl hk.k)))), (hs.pick [(1, 1), (2, 2), (3, 3)] rfl)⟩
    ·have hk := hk.lit 10 c38 rfl
     refine cnd_false hk rfl rfl ?_
     refine wp_exit ?_
     obtain rfl := Option.some.inj H
     show R31 _ _
     rw [hR31]
     exact ⟨h35.symm, (hk.c 1 rfl (hk.c 2 rfl (hk.c 3 rfl hk.k))), (hs.pick [(1, 1), (2, 2), (3, 3)] rfl)⟩
  ·intro a w hR0
   rw [hR31] at hR0
   obtain ⟨rfl, hk, hs⟩ := hR0
   have H := HL30
   try dsimp only at H
   refine hK23 _ _ ?_
   apply wp_seq_k; intro K67 hK67
   apply wp_seq_k; intro K68 hK68
   apply wp_region_lit
   refine sm _ rfl hk rfl rfl rfl fun a hk => ?_
   show wpList _ _ _ [] _ _
   refine wpList_nil ?_
   refine hK68 _ _ ?_
   obtain ⟨o80, h81, HL82⟩ := bind_some H
   clear H
   obtain ⟨R83, hR83⟩ : ∃ R : Act → World → Prop, R = fun a w => ∃ (u76 : List Int) (k77 : Chunk), o80 = .out u76 ∧ Kn [(1, (.pointer (some ⟨b2, 0, none⟩))), (2, (.pointer (some ⟨b5, 0, none⟩)))] 41 a ∧ Sat [] w0 w [] [(1, k77), (2, k6)] ∧ Own (Lay.int .u64) 99 (some ⟨b2, 0, none⟩) 5 u76 k77 ∧ u76.length = 5 := ⟨_, rfl⟩
   refine wp_cutq R83 ?_ ?_
   ·refine wp_block ?_
    obtain ⟨fu85, h81⟩ := loopO_some h81
    obtain ⟨I84, hI84⟩ : ∃ I : Nat → Act → World → Prop, I = fun fu a w => ∃ (u71 : List Int) (u75 : Int) (k72 : Chunk), loopN (fun s => impl_limbs_reduced.s1  s.1 s.2) fu (u71, u75) = some o80 ∧ Kn [(1, (.pointer (some ⟨b2, 0, none⟩))), (2, (.pointer (some ⟨b5, 0, none⟩))), (3, (.pointer (some ⟨b17, 0, none⟩))), (28, (.int .i64 u75))] 41 a ∧ Sat [] w0 w [] [(1, k72), (2, k6), (3, k21)] ∧ Own (Lay.int .u64) 99 (some ⟨b2, 0, none⟩) 5 u71 k72 ∧ u71.length = 5 := ⟨_, rfl⟩
    refine wp_loop_ghost I84 fu85 ?_ ?_
    ·rw [hI84]
     exact ⟨y10, 0, _, h81, (hk.c 1 rfl (hk.c 2 rfl (hk.c 3 rfl (hk.c 28 rfl hk.k)))), (hs.pick [(1, 1), (2, 2), (3, 3)] rfl), o14, lh12⟩
    ·clear h81 hk hs
     intro fu85 a w hI0
     rw [hI84] at hI0
     obtain ⟨u71, u75, k72, hi, hk, hs, o73, lh74⟩ := hI0
     obtain ⟨x86, H, h87⟩ := loop_round hi
     try dsimp only at H
     unfold impl_limbs_reduced.s1 at H
     apply wp_seq_k; intro K88 hK88
     apply wp_region_lit
     refine sv (.bool (decide (u75 < 5))) hk rfl rfl rfl fun a hk => ?_
     show wpList _ _ _ [] _ _
     refine wpList_nil ?_
     refine hK88 _ _ ?_
     apply wp_seq_k; intro K89 hK89
     rcases cond_some H with ⟨c90, H⟩ | ⟨c90, H⟩
     ·have hk := hk.lit 29 c90 rfl
      refine cnd_true hk rfl rfl ?_
      refine wp_skip ?_
      refine hK89 _ _ ?_
      have hs := hs.pick [(1, 1), (2, 2), (3, 3)] rfl
      apply wp_seq_k; intro K91 hK91
      refine wp_block ?_
      apply wp_seq_k; intro K92 hK92
      apply wp_region_lit
      refine sm _ rfl hk rfl rfl rfl fun a hk => ?_
      refine sa _ rfl hk rfl rfl rfl fun a hk => ?_
      show wpList _ _ _ [] _ _
      refine wpList_nil ?_
      refine hK92 _ _ ?_
      refine wp_region_tree (.q 0 (.q 1 (.q 2 (.alt 3 (.alt 4 (.alt 5 (.alt 6 (.alt 7 (.last 8) .stop) .stop) .stop) .stop) .stop)))) mo (by kernel_rfl) (hs.pick [(1, 1), (2, 2), (3, 3)] rfl) fun _ => ?_
      have hs := hs.drew
      refine tqst (.int .i64 u75) hk rfl rfl rfl rfl (fun w hs => sm _ rfl hk rfl rfl rfl fun a hk => qe hk) fun a hk => ?_
      rcases ite_some H with ⟨c94, H⟩ | ⟨_, H⟩
      rotate_left
      ·cases H
      obtain ⟨b95, q96, hAc94⟩ := (o73.view).some_ u75 c94.1 (by rw [lh74]; exact c94.2)
      refine tqst (.pointer (some (padd (some ⟨b2, 0, none⟩) (u75.toNat * 1)))) hk rfl rfl rfl rfl (fun w hs => sia rfl hk rfl rfl rfl rfl un99 sz97 c94.1 c94.2 hAc94 fun a hk => qe hk) fun a hk => ?_
      obtain ⟨_, rfl, e97⟩ := (o73.view).at_ 0 u75 c94.1 (by rw [lh74]; exact c94.2)
      refine tqst (.int .u64 (u71.getD u75.toNat 0)) hk rfl rfl rfl rfl (fun w hs => sl (v := (.int .u64 (u71.getD u75.toNat 0))) rfl hk rfl rfl rfl ag97 ((e97 0 _ rfl).cell (hs.hasG (k := 1) rfl)) fun a hk => qe hk) fun a hk => ?_
      refine tsst hk rfl rfl (fun K_r93_3 hK_r93_3 w hF => ?_) wt_stop
      have hs := hs.f hF
      refine sm _ rfl hk rfl rfl rfl fun a hk => ?_
      refine se (hs.pick [(1, 1), (2, 2), (3, 3)] rfl) hk (hK_r93_3 _ _ ?_)
      refine tsst hk rfl rfl (fun K_r93_4 hK_r93_4 w hF => ?_) wt_stop
      have hs := hs.f hF
      rcases ite_some H with ⟨c98, H⟩ | ⟨_, H⟩
      rotate_left
      ·cases H
      obtain ⟨b99, q100, hAc98⟩ := (o22.view).some_ u75 c98.1 (by rw [lh16]; exact c98.2)
      refine sia rfl hk rfl rfl rfl rfl un99 sz97 c98.1 c98.2 hAc98 fun a hk => ?_
      refine se (hs.pick [(1, 1), (2, 2), (3, 3)] rfl) hk (hK_r93_4 _ _ ?_)
      refine tsst hk rfl rfl (fun K_r93_5 hK_r93_5 w hF => ?_) wt_stop
      have hs := hs.f hF
      obtain ⟨_, rfl, e101⟩ := (o22.view).at_ 0 u75 c98.1 (by rw [lh16]; exact c98.2)
      refine sl (v := (.int .u64 (([67108859, 67108863, 67108863, 67108863, 67108863] : List Int).getD u75.toNat 0))) rfl hk rfl rfl rfl ag97 ((e101 0 _ rfl).cell (hs.hasG (k := 3) rfl)) fun a hk => ?_
      refine se (hs.pick [(1, 1), (2, 2), (3, 3)] rfl) hk (hK_r93_5 _ _ ?_)
      refine tsst hk rfl rfl (fun K_r93_6 hK_r93_6 w hF => ?_) wt_stop
      have hs := hs.f hF
      refine sv (.int .u64 (IntKind.wrap .u64 ((u71.getD u75.toNat 0) - (([67108859, 67108863, 67108863, 67108863, 67108863] : List Int).getD u75.toNat 0)))) hk rfl rfl rfl fun a hk => ?_
      refine se (hs.pick [(1, 1), (2, 2), (3, 3)] rfl) hk (hK_r93_6 _ _ ?_)
      refine tsst hk rfl rfl (fun K_r93_7 hK_r93_7 w hF => ?_) wt_stop
      have hs := hs.f hF
      rcases ite_some H with ⟨c102, H⟩ | ⟨_, H⟩
      rotate_left
      ·cases H
      obtain ⟨b103, q104, hAc102⟩ := (o73.view).some_ u75 c102.1 (by rw [lh74]; exact c102.2)
      refine sia rfl hk rfl rfl rfl rfl un99 sz97 c102.1 c102.2 hAc102 fun a hk => ?_
      refine se (hs.pick [(1, 1), (2, 2), (3, 3)] rfl) hk (hK_r93_7 _ _ ?_)
      refine tlst hk rfl rfl fun K_r93_8 hK_r93_8 w hF => ?_
      have hs := hs.f hF
      refine so (j := 0) 1 0 (IntKind.wrap .u64 ((u71.getD u75.toNat 0) - (([67108859, 67108863, 67108863, 67108863, 67108863] : List Int).getD u75.toNat 0))) hs rfl o73 c102.1 (by rw [lh74]; exact c102.2) rfl hk rfl rfl rfl rfl rfl sz97 (by simp [Value.cells, Value.oneCell']) (Nat.le_of_ble_eq_true rfl) (fun _ _ h => ⟨by rw [h.1]; rfl, h.2⟩) fun k105 w a hk o106 hs => ?_
      have lh107 : (u71.set u75.toNat (IntKind.wrap .u64 ((u71.getD u75.toNat 0) - (([67108859, 67108863, 67108863, 67108863, 67108863] : List Int).getD u75.toNat 0)))).length = 5 := by rw [List.length_set]; exact lh74
      refine se trivial hk (hK_r93_8 _ _ fun w hF => ?_)
      have hs := hs.f hF
      refine hK91 _ _ ?_
      apply wp_region_lit
      refine sv (.int .i64 (w64 (u75 + 1))) hk rfl rfl rfl fun a hk => ?_
      refine sm _ rfl hk rfl rfl rfl fun a hk => ?_
      show wpList _ _ _ [] _ _
      refine wpList_nil ?_
      obtain rfl := Option.some.inj H
      obtain ⟨m108, hmm108, h87⟩ := h87
      show ∃ n', n' < _ ∧ I84 n' _ _
      refine ⟨m108, hmm108, ?_⟩
      rw [hI84]
      exact ⟨(u71.set u75.toNat (IntKind.wrap .u64 ((u71.getD u75.toNat 0) - (([67108859, 67108863, 67108863, 67108863, 67108863] : List Int).getD u75.toNat 0)))), (w64 (u75 + 1)), _, h87, (hk.c 1 rfl (hk.c 2 rfl (hk.c 3 rfl (hk.c 28 rfl hk.k)))), (hs.pick [(1, 1), (2, 2), (3, 3)] rfl), o106, lh107⟩
     ·have hk := hk.lit 29 c90 rfl
      refine cnd_false hk rfl rfl ?_
      refine wp_exit ?_
      obtain rfl := Option.some.inj H
      show R83 _ _
      rw [hR83]
      exact ⟨u71, _, h87.symm, (hk.c 1 rfl (hk.c 2 rfl hk.k)), (hs.pick [(1, 1), (2, 2)] rfl), o73, lh74⟩
   ·intro a w hR0
    rw [hR83] at hR0
    obtain ⟨u76, k77, rfl, hk, hs, o78, lh79⟩ := hR0
    have H := HL82
    try dsimp only at H
    refine hK67 _ _ ?_
    apply wp_seq_k; intro K109 hK109
    apply wp_region_lit
    refine slna (k := 1) hs rfl o78 lh79 rfl hk rfl rfl rfl ag99 sz99 fun a hk => ?_
    refine sswa 2 u76 hs rfl o7 lh8 lh79 rfl rfl hk rfl rfl rfl rfl sz99 fun k110 w a hk o111 hs => ?_
    show wpList _ _ _ [] _ _
    refine wpList_nil ?_
    refine hK109 _ _ ?_
    have hs := hs.pick [(2, 2)] rfl
    refine wp_ret ?_
    obtain rfl := Option.some.inj H
    exact fin hk _ [(aggI .u64 u76)] rfl ⟨⟨_, rfl, run_loadA ag99 sz99 o111 lh79 hs (q := 2) rfl⟩, trivial⟩ ⟨rfl, lh79, (hs.pick [] rfl).dnil⟩

noncomputable def impl_limbs_bytes.s1 (x0 : List Int) (u21 : Int) (u44 : Int) (u45 : Int) : Option ((Int × Int) ⊕ Ex (Int) (ByteArray)) :=
  (bif (decide (u45 < 8)) then (if 0 ≤ (IntKind.wrap .i64 (Int.tdiv (w64 ((w64 (8 * u21)) + u45)) 26)) ∧ (IntKind.wrap .i64 (Int.tdiv (w64 ((w64 (8 * u21)) + u45)) 26)) < (5 : Int) then (if 0 ≤ (Int.tmod (w64 ((w64 (8 * u21)) + u45)) 26) then (if 0 ≤ u45 then (some (.inl ((IntKind.wrap .i64 ((BitVec.ofInt 64 u44 ||| BitVec.ofInt 64 (IntKind.wrap .i64 ((IntKind.wrap .i64 (IntKind.wrap .u64 ((BitVec.ofInt 64 (Int.fdiv (x0.getD (IntKind.wrap .i64 (Int.tdiv (w64 ((w64 (8 * u21)) + u45)) 26)).toNat 0) (2 ^ min (Int.tmod (w64 ((w64 (8 * u21)) + u45)) 26).toNat 64)) &&& BitVec.ofInt 64 1).toNat : Int))) * 2 ^ min u45.toNat 64))).toNat : Int)), (w64 (u45 + 1))))) else none) else none) else none) else (some (.inr (.out u44))))
noncomputable def impl_limbs_bytes.s0 (x0 : List Int) (x1 : ByteArray) (u16 : List Int) (u20 : Int) (u21 : Int) : Option (((List Int) × Int × Int) ⊕ Ex ((List Int)) (ByteArray)) :=
  (bif (decide (u21 < ((((16 : Int)).toNat) : Int))) then ((loopO (fun s => impl_limbs_bytes.s1 x0 u21 s.1 s.2) (0, 0)).bind fun o => match o with | .out u46 => (if 0 ≤ u21 ∧ u21 < (x1.size : Int) then (if 0 ≤ u21 ∧ u21 < ((((16 : Int)).toNat) : Int) then (some (.inl ((u16.set u21.toNat (IntKind.wrap .u8 (w64 (u20 + (w64 (u46 + (IntKind.wrap .i64 (byteAt x1 u21)))))))), (Int.fdiv (w64 (u20 + (w64 (u46 + (IntKind.wrap .i64 (byteAt x1 u21)))))) (2 ^ 8)), (w64 (u21 + 1))))) else none) else none) | .ret r => (some (.inr (.ret r)))) else (some (.inr (.out u16))))
noncomputable def impl_limbs_bytes.f (x0 : List Int) (x1 : ByteArray) : Option (ByteArray) :=
  (if 0 ≤ (16 : Int) ∧ (16 : Int) ≤ 1073741824 then ((loopO (fun s => impl_limbs_bytes.s0 x0 x1 s.1 s.2.1 s.2.2) ((List.replicate ((16 : Int)).toNat (0 : Int)), 0, 0)).bind fun o => match o with | .out u22 => (some (strOfNums u22)) | .ret r => (some r)) else none)
set_option maxRecDepth 100000 in
set_option maxHeartbeats 0 in
theorem impl_limbs_bytes_t (w0 : World) (x0 : List Int) (e0_ : x0.length = 5) (x1 : ByteArray) (r : ByteArray) (H : impl_limbs_bytes.f x0 x1 = some r) :
    Calls Try.prog 101 #[aggI .u64 x0, .string x1] w0 (Ret (fun v w => v = .string r ∧ Sat [] w0 w [] [])) := by
  have hs : Sat [] w0 w0 [] [] := Sat.init w0 [] [] (by simp) (by simp) List.nodup_nil (by simp [blks])
  unfold impl_limbs_bytes.f at H
  refine enter Try.func101 rfl Try.ntmps101 rfl fun a hk => ?_
  apply wp_seq_k; intro K1 hK1
  apply wp_region_lit
  refine sbxa 1 hs rfl hk rfl rfl rfl e0_ rfl fun b2 k3 w a hk o4 hs => ?_
  refine sa _ rfl hk rfl rfl rfl fun a hk => ?_
  show wpList _ _ _ [] _ _
  refine wpList_nil ?_
  refine hK1 _ _ ?_
  apply wp_seq_k; intro K5 hK5
  apply wp_region_lit
  rcases ite_some H with ⟨c6, H⟩ | ⟨_, H⟩
  rotate_left
  ·cases H
  refine smk 2 (Lay.int .u8) hs rfl hk rfl rfl rfl rfl un22 mk5 lz5 rfl rfl c6.1 c6.2 fun b7 k8 w a hk o9 hs => ?_
  have lh10 : (List.replicate ((16 : Int)).toNat (0 : Int)).length = ((16 : Int)).toNat := List.length_replicate
  refine sa _ rfl hk rfl rfl rfl fun a hk => ?_
  show wpList _ _ _ [] _ _
  refine wpList_nil ?_
  refine hK5 _ _ ?_
  apply wp_seq_k; intro K11 hK11
  apply wp_region_lit
  refine sa _ rfl hk rfl rfl rfl fun a hk => ?_
  show wpList _ _ _ [] _ _
  refine wpList_nil ?_
  refine hK11 _ _ ?_
  apply wp_seq_k; intro K12 hK12
  apply wp_seq_k; intro K13 hK13
  apply wp_region_lit
  refine sm _ rfl hk rfl rfl rfl fun a hk => ?_
  refine sle rfl hk rfl rfl rfl un22 fun a hk => ?_
  refine sm _ rfl hk rfl rfl rfl fun a hk => ?_
  show wpList _ _ _ [] _ _
  refine wpList_nil ?_
  refine hK13 _ _ ?_
  have hs := hs.pick [(1, 1), (2, 2)] rfl
  obtain ⟨o26, h27, HL28⟩ := bind_some H
  clear H
  obtain ⟨R29, hR29⟩ : ∃ R : Act → World → Prop, R = fun a w => ∃ (u22 : List Int) (k23 : Chunk), o26 = .out u22 ∧ Kn [(5, (.slice (some ⟨b7, 0, none⟩) (((16 : Int)).toNat) (((16 : Int)).toNat)))] 56 a ∧ Sat [] w0 w [] [(2, k23)] ∧ Own (Lay.int .u8) 5 (some ⟨b7, 0, none⟩) (((16 : Int)).toNat) u22 k23 ∧ u22.length = (((16 : Int)).toNat) := ⟨_, rfl⟩
  refine wp_cutq R29 ?_ ?_
  ·refine wp_block ?_
   obtain ⟨fu31, h27⟩ := loopO_some h27
   obtain ⟨I30, hI30⟩ : ∃ I : Nat → Act → World → Prop, I = fun fu a w => ∃ (u16 : List Int) (u20 : Int) (u21 : Int) (k17 : Chunk), loopN (fun s => impl_limbs_bytes.s0 x0 x1 s.1 s.2.1 s.2.2) fu (u16, u20, u21) = some o26 ∧ Kn [(1, (.string x1)), (2, (.pointer (some ⟨b2, 0, none⟩))), (5, (.slice (some ⟨b7, 0, none⟩) (((16 : Int)).toNat) (((16 : Int)).toNat))), (6, (.int .i64 u20)), (13, (.int .i64 ((((16 : Int)).toNat) : Int))), (14, (.int .i64 u21))] 56 a ∧ Sat [] w0 w [] [(1, k3), (2, k17)] ∧ Own (Lay.int .u8) 5 (some ⟨b7, 0, none⟩) (((16 : Int)).toNat) u16 k17 ∧ u16.length = (((16 : Int)).toNat) := ⟨_, rfl⟩
   refine wp_loop_ghost I30 fu31 ?_ ?_
   ·rw [hI30]
    exact ⟨(List.replicate ((16 : Int)).toNat (0 : Int)), 0, 0, _, h27, (hk.c 1 rfl (hk.c 2 rfl (hk.c 5 rfl (hk.c 6 rfl (hk.c 13 rfl (hk.c 14 rfl hk.k)))))), (hs.pick [(1, 1), (2, 2)] rfl), o9, lh10⟩
   ·clear h27 hk hs
    intro fu31 a w hI0
    rw [hI30] at hI0
    obtain ⟨u16, u20, u21, k17, hi, hk, hs, o18, lh19⟩ := hI0
    obtain ⟨x32, H, h33⟩ := loop_round hi
    try dsimp only at H
    unfold impl_limbs_bytes.s0 at H
    apply wp_seq_k; intro K34 hK34
    apply wp_region_lit
    refine sv (.bool (decide (u21 < ((((16 : Int)).toNat) : Int)))) hk rfl rfl rfl fun a hk => ?_
    show wpList _ _ _ [] _ _
    refine wpList_nil ?_
    refine hK34 _ _ ?_
    apply wp_seq_k; intro K35 hK35
    rcases cond_some H with ⟨c36, H⟩ | ⟨c36, H⟩
    ·have hk := hk.lit 15 c36 rfl
     refine cnd_true hk rfl rfl ?_
     refine wp_skip ?_
     refine hK35 _ _ ?_
     apply wp_seq_k; intro K37 hK37
     refine wp_block ?_
     apply wp_seq_k; intro K38 hK38
     apply wp_region_lit
     refine sm _ rfl hk rfl rfl rfl fun a hk => ?_
     refine sa _ rfl hk rfl rfl rfl fun a hk => ?_
     show wpList _ _ _ [] _ _
     refine wpList_nil ?_
     refine hK38 _ _ ?_
     apply wp_seq_k; intro K39 hK39
     apply wp_region_lit
     refine sa _ rfl hk rfl rfl rfl fun a hk => ?_
     show wpList _ _ _ [] _ _
     refine wpList_nil ?_
     refine hK39 _ _ ?_
     have hs := hs.pick [(1, 1), (2, 2)] rfl
     apply wp_seq_k; intro K40 hK40
     apply wp_seq_k; intro K41 hK41
     apply wp_region_lit
     refine sm _ rfl hk rfl rfl rfl fun a hk => ?_
     show wpList _ _ _ [] _ _
     refine wpList_nil ?_
     refine hK41 _ _ ?_
     obtain ⟨o47, h48, HL49⟩ := bind_some H
     clear H
     obtain ⟨R50, hR50⟩ : ∃ R : Act → World → Prop, R = fun a w => ∃ (u46 : Int), o47 = .out u46 ∧ Kn [(1, (.string x1)), (2, (.pointer (some ⟨b2, 0, none⟩))), (5, (.slice (some ⟨b7, 0, none⟩) (((16 : Int)).toNat) (((16 : Int)).toNat))), (6, (.int .i64 u20)), (7, (.int .i64 u21)), (8, (.int .i64 u46)), (13, (.int .i64 ((((16 : Int)).toNat) : Int))), (14, (.int .i64 u21))] 56 a ∧ Sat [] w0 w [] [(1, k3), (2, k17)] := ⟨_, rfl⟩
     refine wp_cutq R50 ?_ ?_
     ·refine wp_block ?_
      obtain ⟨fu52, h48⟩ := loopO_some h48
      obtain ⟨I51, hI51⟩ : ∃ I : Nat → Act → World → Prop, I = fun fu a w => ∃ (u44 : Int) (u45 : Int), loopN (fun s => impl_limbs_bytes.s1 x0 u21 s.1 s.2) fu (u44, u45) = some o47 ∧ Kn [(1, (.string x1)), (2, (.pointer (some ⟨b2, 0, none⟩))), (5, (.slice (some ⟨b7, 0, none⟩) (((16 : Int)).toNat) (((16 : Int)).toNat))), (6, (.int .i64 u20)), (7, (.int .i64 u21)), (8, (.int .i64 u44)), (13, (.int .i64 ((((16 : Int)).toNat) : Int))), (14, (.int .i64 u21)), (17, (.int .i64 u45))] 56 a ∧ Sat [] w0 w [] [(1, k3), (2, k17)] := ⟨_, rfl⟩
      refine wp_loop_ghost I51 fu52 ?_ ?_
      ·rw [hI51]
       exact ⟨0, 0, h48, (hk.c 1 rfl (hk.c 2 rfl (hk.c 5 rfl (hk.c 6 rfl (hk.c 7 rfl (hk.c 8 rfl (hk.c 13 rfl (hk.c 14 rfl (hk.c 17 rfl hk.k))))))))), (hs.pick [(1, 1), (2, 2)] rfl)⟩
      ·clear h48 hk hs
       intro fu52 a w hI0
       rw [hI51] at hI0
       obtain ⟨u44, u45, hi, hk, hs⟩ := hI0
       obtain ⟨x53, H, h54⟩ := loop_round hi
       try dsimp only at H
       unfold impl_limbs_bytes.s1 at H
       apply wp_seq_k; intro K55 hK55
       apply wp_region_lit
       refine sv (.bool (decide (u45 < 8))) hk rfl rfl rfl fun a hk => ?_
       show wpList _ _ _ [] _ _
       refine wpList_nil ?_
       refine hK55 _ _ ?_
       apply wp_seq_k; intro K56 hK56
       rcases cond_some H with ⟨c57, H⟩ | ⟨c57, H⟩
       ·have hk := hk.lit 18 c57 rfl
        refine cnd_true hk rfl rfl ?_
        refine wp_skip ?_
        refine hK56 _ _ ?_
        apply wp_seq_k; intro K58 hK58
        refine wp_block ?_
        apply wp_seq_k; intro K59 hK59
        apply wp_region_lit
        refine sm _ rfl hk rfl rfl rfl fun a hk => ?_
        refine sa _ rfl hk rfl rfl rfl fun a hk => ?_
        show wpList _ _ _ [] _ _
        refine wpList_nil ?_
        refine hK59 _ _ ?_
        have hs := hs.pick [(1, 1), (2, 2)] rfl
        apply wp_seq_k; intro K60 hK60
        apply wp_region_lit
        refine sm _ rfl hk rfl rfl rfl fun a hk => ?_
        refine sv (.int .i64 (w64 (8 * u21))) hk rfl rfl rfl fun a hk => ?_
        refine sm _ rfl hk rfl rfl rfl fun a hk => ?_
        refine sv (.int .i64 (w64 ((w64 (8 * u21)) + u45))) hk rfl rfl rfl fun a hk => ?_
        refine sa _ rfl hk rfl rfl rfl fun a hk => ?_
        show wpList _ _ _ [] _ _
        refine wpList_nil ?_
        refine hK60 _ _ ?_
        apply wp_region_lit
        refine sm _ rfl hk rfl rfl rfl fun a hk => ?_
        refine sm _ rfl hk rfl rfl rfl fun a hk => ?_
        refine sv (.int .i64 (IntKind.wrap .i64 (Int.tdiv (w64 ((w64 (8 * u21)) + u45)) 26))) hk rfl rfl rfl fun a hk => ?_
        rcases ite_some H with ⟨c61, H⟩ | ⟨_, H⟩
        rotate_left
        ·cases H
        obtain ⟨b62, q63, hAc61⟩ := (o4.view).some_ (IntKind.wrap .i64 (Int.tdiv (w64 ((w64 (8 * u21)) + u45)) 26)) c61.1 (by rw [e0_]; exact c61.2)
        refine sia rfl hk rfl rfl rfl rfl un99 sz97 c61.1 c61.2 hAc61 fun a hk => ?_
        obtain ⟨_, rfl, e64⟩ := (o4.view).at_ 0 (IntKind.wrap .i64 (Int.tdiv (w64 ((w64 (8 * u21)) + u45)) 26)) c61.1 (by rw [e0_]; exact c61.2)
        refine sl (v := (.int .u64 (x0.getD (IntKind.wrap .i64 (Int.tdiv (w64 ((w64 (8 * u21)) + u45)) 26)).toNat 0))) rfl hk rfl rfl rfl ag97 ((e64 0 _ rfl).cell (hs.hasG (k := 1) rfl)) fun a hk => ?_
        refine sm _ rfl hk rfl rfl rfl fun a hk => ?_
        refine sv (.int .i64 (Int.tmod (w64 ((w64 (8 * u21)) + u45)) 26)) hk rfl rfl rfl fun a hk => ?_
        rcases ite_some H with ⟨c65, H⟩ | ⟨_, H⟩
        rotate_left
        ·cases H
        refine ssr rfl hk rfl rfl rfl rfl c65 fun a hk => ?_
        refine sv (.int .u64 (IntKind.wrap .u64 ((BitVec.ofInt 64 (Int.fdiv (x0.getD (IntKind.wrap .i64 (Int.tdiv (w64 ((w64 (8 * u21)) + u45)) 26)).toNat 0) (2 ^ min (Int.tmod (w64 ((w64 (8 * u21)) + u45)) 26).toNat 64)) &&& BitVec.ofInt 64 1).toNat : Int))) hk rfl rfl rfl fun a hk => ?_
        refine scn rfl hk rfl rfl rfl un3 un97 fun a hk => ?_
        refine sm _ rfl hk rfl rfl rfl fun a hk => ?_
        rcases ite_some H with ⟨c66, H⟩ | ⟨_, H⟩
        rotate_left
        ·cases H
        refine ssh rfl hk rfl rfl rfl rfl c66 fun a hk => ?_
        refine sv (.int .i64 (IntKind.wrap .i64 ((BitVec.ofInt 64 u44 ||| BitVec.ofInt 64 (IntKind.wrap .i64 ((IntKind.wrap .i64 (IntKind.wrap .u64 ((BitVec.ofInt 64 (Int.fdiv (x0.getD (IntKind.wrap .i64 (Int.tdiv (w64 ((w64 (8 * u21)) + u45)) 26)).toNat 0) (2 ^ min (Int.tmod (w64 ((w64 (8 * u21)) + u45)) 26).toNat 64)) &&& BitVec.ofInt 64 1).toNat : Int))) * 2 ^ min u45.toNat 64))).toNat : Int))) hk rfl rfl rfl fun a hk => ?_
        refine sa _ rfl hk rfl rfl rfl fun a hk => ?_
        show wpList _ _ _ [] _ _
        refine wpList_nil ?_
        refine hK58 _ _ ?_
        apply wp_region_lit
        refine sv (.int .i64 (w64 (u45 + 1))) hk rfl rfl rfl fun a hk => ?_
        refine sm _ rfl hk rfl rfl rfl fun a hk => ?_
        show wpList _ _ _ [] _ _
        refine wpList_nil ?_
        obtain rfl := Option.some.inj H
        obtain ⟨m67, hmm67, h54⟩ := h54
        show ∃ n', n' < _ ∧ I51 n' _ _
        refine ⟨m67, hmm67, ?_⟩
        rw [hI51]
        exact ⟨(IntKind.wrap .i64 ((BitVec.ofInt 64 u44 ||| BitVec.ofInt 64 (IntKind.wrap .i64 ((IntKind.wrap .i64 (IntKind.wrap .u64 ((BitVec.ofInt 64 (Int.fdiv (x0.getD (IntKind.wrap .i64 (Int.tdiv (w64 ((w64 (8 * u21)) + u45)) 26)).toNat 0) (2 ^ min (Int.tmod (w64 ((w64 (8 * u21)) + u45)) 26).toNat 64)) &&& BitVec.ofInt 64 1).toNat : Int))) * 2 ^ min u45.toNat 64))).toNat : Int)), (w64 (u45 + 1)), h54, (hk.c 1 rfl (hk.c 2 rfl (hk.c 5 rfl (hk.c 6 rfl (hk.c 7 rfl (hk.c 8 rfl (hk.c 13 rfl (hk.c 14 rfl (hk.c 17 rfl hk.k))))))))), (hs.pick [(1, 1), (2, 2)] rfl)⟩
       ·have hk := hk.lit 18 c57 rfl
        refine cnd_false hk rfl rfl ?_
        refine wp_exit ?_
        obtain rfl := Option.some.inj H
        show R50 _ _
        rw [hR50]
        exact ⟨u44, h54.symm, (hk.c 1 rfl (hk.c 2 rfl (hk.c 5 rfl (hk.c 6 rfl (hk.c 7 rfl (hk.c 8 rfl (hk.c 13 rfl (hk.c 14 rfl hk.k)))))))), (hs.pick [(1, 1), (2, 2)] rfl)⟩
     ·intro a w hR0
      rw [hR50] at hR0
      obtain ⟨u46, rfl, hk, hs⟩ := hR0
      have H := HL49
      try dsimp only at H
      refine hK40 _ _ ?_
      apply wp_seq_k; intro K68 hK68
      apply wp_region_lit
      refine sm _ rfl hk rfl rfl rfl fun a hk => ?_
      refine sm _ rfl hk rfl rfl rfl fun a hk => ?_
      refine sm _ rfl hk rfl rfl rfl fun a hk => ?_
      refine sm _ rfl hk rfl rfl rfl fun a hk => ?_
      rcases ite_some H with ⟨c69, H⟩ | ⟨_, H⟩
      rotate_left
      ·cases H
      refine six rfl hk rfl rfl rfl rfl un9 c69.1 c69.2 fun a hk => ?_
      refine scn rfl hk rfl rfl rfl un3 un5 fun a hk => ?_
      refine sv (.int .i64 (w64 (u46 + (IntKind.wrap .i64 (byteAt x1 u21))))) hk rfl rfl rfl fun a hk => ?_
      refine sv (.int .i64 (w64 (u20 + (w64 (u46 + (IntKind.wrap .i64 (byteAt x1 u21))))))) hk rfl rfl rfl fun a hk => ?_
      refine sa _ rfl hk rfl rfl rfl fun a hk => ?_
      show wpList _ _ _ [] _ _
      refine wpList_nil ?_
      refine hK68 _ _ ?_
      apply wp_seq_k; intro K70 hK70
      apply wp_region_lit
      refine sm _ rfl hk rfl rfl rfl fun a hk => ?_
      refine sm _ rfl hk rfl rfl rfl fun a hk => ?_
      refine sm _ rfl hk rfl rfl rfl fun a hk => ?_
      refine scn rfl hk rfl rfl rfl un5 un3 fun a hk => ?_
      rcases ite_some H with ⟨c71, H⟩ | ⟨_, H⟩
      rotate_left
      ·cases H
      obtain ⟨b72, q73, hAc71⟩ := (o18.view).some_ u21 c71.1 (by rw [lh19]; exact c71.2)
      refine si rfl hk rfl rfl rfl rfl un22 sz5 c71.1 c71.2 hAc71 fun a hk => ?_
      refine so (j := 0) 2 0 (IntKind.wrap .u8 (w64 (u20 + (w64 (u46 + (IntKind.wrap .i64 (byteAt x1 u21))))))) hs rfl o18 c71.1 (by rw [lh19]; exact c71.2) rfl hk rfl rfl rfl rfl rfl sz5 (by simp [Value.cells, Value.oneCell']) (Nat.le_of_ble_eq_true rfl) (fun _ _ h => ⟨by rw [h.1]; rfl, h.2⟩) fun k74 w a hk o75 hs => ?_
      have lh76 : (u16.set u21.toNat (IntKind.wrap .u8 (w64 (u20 + (w64 (u46 + (IntKind.wrap .i64 (byteAt x1 u21)))))))).length = (((16 : Int)).toNat) := by rw [List.length_set]; exact lh19
      show wpList _ _ _ [] _ _
      refine wpList_nil ?_
      refine hK70 _ _ ?_
      have hs := hs.pick [(1, 1), (2, 2)] rfl
      apply wp_region_lit
      refine sm _ rfl hk rfl rfl rfl fun a hk => ?_
      refine sv (.int .i64 (Int.fdiv (w64 (u20 + (w64 (u46 + (IntKind.wrap .i64 (byteAt x1 u21)))))) (2 ^ 8))) hk rfl rfl rfl fun a hk => ?_
      refine sa _ rfl hk rfl rfl rfl fun a hk => ?_
      show wpList _ _ _ [] _ _
      refine wpList_nil ?_
      refine hK37 _ _ ?_
      apply wp_region_lit
      refine sv (.int .i64 (w64 (u21 + 1))) hk rfl rfl rfl fun a hk => ?_
      refine sm _ rfl hk rfl rfl rfl fun a hk => ?_
      show wpList _ _ _ [] _ _
      refine wpList_nil ?_
      obtain rfl := Option.some.inj H
      obtain ⟨m77, hmm77, h33⟩ := h33
      show ∃ n', n' < _ ∧ I30 n' _ _
      refine ⟨m77, hmm77, ?_⟩
      rw [hI30]
      exact ⟨(u16.set u21.toNat (IntKind.wrap .u8 (w64 (u20 + (w64 (u46 + (IntKind.wrap .i64 (byteAt x1 u21)))))))), (Int.fdiv (w64 (u20 + (w64 (u46 + (IntKind.wrap .i64 (byteAt x1 u21)))))) (2 ^ 8)), (w64 (u21 + 1)), _, h33, (hk.c 1 rfl (hk.c 2 rfl (hk.c 5 rfl (hk.c 6 rfl (hk.c 13 rfl (hk.c 14 rfl hk.k)))))), (hs.pick [(1, 1), (2, 2)] rfl), o75, lh76⟩
    ·have hk := hk.lit 15 c36 rfl
     refine cnd_false hk rfl rfl ?_
     refine wp_exit ?_
     obtain rfl := Option.some.inj H
     show R29 _ _
     rw [hR29]
     exact ⟨u16, _, h33.symm, (hk.c 5 rfl hk.k), (hs.pick [(2, 2)] rfl), o18, lh19⟩
  ·intro a w hR0
   rw [hR29] at hR0
   obtain ⟨u22, k23, rfl, hk, hs, o24, lh25⟩ := hR0
   have H := HL28
   try dsimp only at H
   refine hK12 _ _ ?_
   apply wp_seq_k; intro K78 hK78
   apply wp_region_lit
   refine sm _ rfl hk rfl rfl rfl fun a hk => ?_
   refine sbt (xs := u22) rfl hk rfl rfl lh25.symm rfl un22 un5 un9 o24.view (hs.hasG (k := 2) rfl) fun a hk => ?_
   refine sa _ rfl hk rfl rfl rfl fun a hk => ?_
   show wpList _ _ _ [] _ _
   refine wpList_nil ?_
   refine hK78 _ _ ?_
   refine wp_ret ?_
   obtain rfl := Option.some.inj H
   exact fin hk _ [(.string (strOfNums u22))] rfl ⟨rfl, trivial⟩ ⟨rfl, (hs.pick [] rfl).dnil⟩

noncomputable def impl_tag.s0 (x1 : ByteArray) (y10 : (List Int)) (u23 : List Int) (u27 : Int) : Option (((List Int) × Int) ⊕ Ex ((List Int)) (ByteArray)) :=
  (bif (decide (u27 < (x1.size : Int))) then (if 0 ≤ u27 ∧ u27 ≤ (if (x1.size : Int) < (w64 (u27 + 16)) then (x1.size : Int) else (w64 (u27 + 16))) ∧ (if (x1.size : Int) < (w64 (u27 + 16)) then (x1.size : Int) else (w64 (u27 + 16))) ≤ (x1.size : Int) then (if (x1.extract u27.toNat (if (x1.size : Int) < (w64 (u27 + 16)) then (x1.size : Int) else (w64 (u27 + 16))).toNat).size + (⟨#[1]⟩ : ByteArray).size ≤ 1152921504606846976 then ((impl_limbsOf.f ((x1.extract u27.toNat (if (x1.size : Int) < (w64 (u27 + 16)) then (x1.size : Int) else (w64 (u27 + 16))).toNat) ++ (⟨#[1]⟩ : ByteArray))).bind fun y47 => ((impl_limbs_plus.f u23 y47).bind fun y50 => ((impl_limbs_times.f y50 y10).bind fun y53 => (some (.inl (y53, (w64 (u27 + 16)))))))) else none) else none) else (some (.inr (.out u23))))
noncomputable def impl_tag.f (x0 : ByteArray) (x1 : ByteArray) : Option (ByteArray) :=
  ((impl_clamped.f x0).bind fun y8 => ((impl_limbsOf.f y8).bind fun y10 => ((loopO (fun s => impl_tag.s0 x1 y10 s.1 s.2) ((List.replicate 5 (0 : Int)), 0)).bind fun o => match o with | .out u28 => (if 0 ≤ (16 : Int) ∧ (16 : Int) ≤ (x0.size : Int) then ((impl_limbs_reduced.f u28).bind fun y62 => ((impl_limbs_bytes.f y62 (x0.extract (16 : Int).toNat x0.size)).bind fun y65 => (some y65))) else none) | .ret r => (some r))))
set_option maxRecDepth 100000 in
set_option maxHeartbeats 0 in
theorem impl_tag_t (w0 : World) (x0 : ByteArray) (x1 : ByteArray) (r : ByteArray) (H : impl_tag.f x0 x1 = some r) :
    Calls Try.prog 54 #[.string x0, .string x1] w0 (Ret (fun v w => v = .string r ∧ Sat [] w0 w [] [])) := by
  have hs : Sat [] w0 w0 [] [] := Sat.init w0 [] [] (by simp) (by simp) List.nodup_nil (by simp [blks])
  unfold impl_tag.f at H
  refine enter Try.func54 rfl Try.ntmps54 rfl fun a hk => ?_
  apply wp_seq_k; intro K1 hK1
  apply wp_region_lit
  refine sa _ rfl hk rfl rfl rfl fun a hk => ?_
  show wpList _ _ _ [] _ _
  refine wpList_nil ?_
  refine hK1 _ _ ?_
  apply wp_seq_k; intro K2 hK2
  apply wp_region_lit
  refine sala 1 ((Lay.int .u64)) (m := 5) (z := 0) (zc := [.int .u64 0]) hs rfl hk rfl rfl ze99 (by exact ⟨rfl, rfl⟩) rfl rfl rfl fun b3 k4 w a hk o5 hs => ?_
  have lh6 : (List.replicate 5 (0 : Int)).length = 5 := List.length_replicate
  show wpList _ _ _ [] _ _
  refine wpList_nil ?_
  refine hK2 _ _ ?_
  apply wp_seq_k; intro K7 hK7
  apply wp_region_lit
  refine sm _ rfl hk rfl rfl rfl fun a hk => ?_
  obtain ⟨y8, h9, H⟩ := bind_some H
  refine sc rfl en56 hk rfl rfl rfl (impl_clamped_t _ x0 _ h9) ?_
  rintro _ w ⟨rfl, hG⟩ a hk
  have hs := hs.call0 hG
  obtain ⟨y10, h11, H⟩ := bind_some H
  refine sc rfl en97 hk rfl rfl rfl (impl_limbsOf_t _ y8 _ h11) ?_
  rintro _ w ⟨rfl, lh12, hG⟩ a hk
  have hs := hs.call0 hG
  refine sala 2 ((Lay.int .u64)) (m := 5) (z := 0) (zc := [.int .u64 0]) hs rfl hk rfl rfl ze99 (by exact ⟨rfl, rfl⟩) rfl rfl rfl fun b13 k14 w a hk o15 hs => ?_
  have lh16 : (List.replicate 5 (0 : Int)).length = 5 := List.length_replicate
  refine sswa 2 y10 hs rfl o15 lh16 lh12 rfl rfl hk rfl rfl rfl rfl sz99 fun k17 w a hk o18 hs => ?_
  show wpList _ _ _ [] _ _
  refine wpList_nil ?_
  refine hK7 _ _ ?_
  apply wp_seq_k; intro K19 hK19
  apply wp_seq_k; intro K20 hK20
  apply wp_region_lit
  refine sa _ rfl hk rfl rfl rfl fun a hk => ?_
  show wpList _ _ _ [] _ _
  refine wpList_nil ?_
  refine hK20 _ _ ?_
  have hs := hs.pick [(1, 1), (2, 2)] rfl
  obtain ⟨o32, h33, HL34⟩ := bind_some H
  clear H
  obtain ⟨R35, hR35⟩ : ∃ R : Act → World → Prop, R = fun a w => ∃ (u28 : List Int) (k29 : Chunk), o32 = .out u28 ∧ Kn [(0, (.string x0)), (5, (.pointer (some ⟨b3, 0, none⟩)))] 36 a ∧ Sat [] w0 w [] [(1, k29)] ∧ Own (Lay.int .u64) 99 (some ⟨b3, 0, none⟩) 5 u28 k29 ∧ u28.length = 5 := ⟨_, rfl⟩
  refine wp_cutq R35 ?_ ?_
  ·refine wp_block ?_
   obtain ⟨fu37, h33⟩ := loopO_some h33
   obtain ⟨I36, hI36⟩ : ∃ I : Nat → Act → World → Prop, I = fun fu a w => ∃ (u23 : List Int) (u27 : Int) (k24 : Chunk), loopN (fun s => impl_tag.s0 x1 y10 s.1 s.2) fu (u23, u27) = some o32 ∧ Kn [(0, (.string x0)), (1, (.string x1)), (5, (.pointer (some ⟨b3, 0, none⟩))), (6, (.pointer (some ⟨b13, 0, none⟩))), (7, (.int .i64 u27))] 36 a ∧ Sat [] w0 w [] [(1, k24), (2, k17)] ∧ Own (Lay.int .u64) 99 (some ⟨b3, 0, none⟩) 5 u23 k24 ∧ u23.length = 5 := ⟨_, rfl⟩
   refine wp_loop_ghost I36 fu37 ?_ ?_
   ·rw [hI36]
    exact ⟨(List.replicate 5 (0 : Int)), 0, _, h33, (hk.c 0 rfl (hk.c 1 rfl (hk.c 5 rfl (hk.c 6 rfl (hk.c 7 rfl hk.k))))), (hs.pick [(1, 1), (2, 2)] rfl), o5, lh6⟩
   ·clear h33 hk hs
    intro fu37 a w hI0
    rw [hI36] at hI0
    obtain ⟨u23, u27, k24, hi, hk, hs, o25, lh26⟩ := hI0
    obtain ⟨x38, H, h39⟩ := loop_round hi
    try dsimp only at H
    unfold impl_tag.s0 at H
    apply wp_seq_k; intro K40 hK40
    apply wp_seq_k; intro K41 hK41
    apply wp_region_lit
    refine sm _ rfl hk rfl rfl rfl fun a hk => ?_
    refine sm _ rfl hk rfl rfl rfl fun a hk => ?_
    refine sles rfl hk rfl rfl rfl un9 fun a hk => ?_
    refine sv (.bool (decide (u27 < (x1.size : Int)))) hk rfl rfl rfl fun a hk => ?_
    show wpList _ _ _ [] _ _
    refine wpList_nil ?_
    refine hK41 _ _ ?_
    rcases cond_some H with ⟨c42, H⟩ | ⟨c42, H⟩
    ·have hk := hk.lit 14 c42 rfl
     refine cnd_true hk rfl rfl ?_
     refine wp_skip ?_
     refine hK40 _ _ ?_
     apply wp_seq_k; intro K43 hK43
     refine wp_block ?_
     refine wp_region_tree (.q 0 (.q 1 (.q 2 (.q 3 (.q 4 (.q 5 (.q 6 (.q 7 (.q 8 (.q 9 (.q 12 (.alt 10 (.alt 11 (.alt 13 (.last 14) .stop) .stop) .stop)))))))))))) mo (by kernel_rfl) (hs.pick [(1, 1), (2, 2)] rfl) fun _ => ?_
     have hs := hs.drew
     refine tqst (aggI .u64 u23) hk rfl rfl rfl rfl (fun w hs => slna (k := 1) hs rfl o25 lh26 rfl hk rfl rfl rfl ag99 sz99 fun a hk => qe hk) fun a hk => ?_
     refine tqst (.string x1) hk rfl rfl rfl rfl (fun w hs => sm _ rfl hk rfl rfl rfl fun a hk => qe hk) fun a hk => ?_
     refine tqst (.int .i64 u27) hk rfl rfl rfl rfl (fun w hs => sm _ rfl hk rfl rfl rfl fun a hk => qe hk) fun a hk => ?_
     refine tqst (.int .i64 u27) hk rfl rfl rfl rfl (fun w hs => sm _ rfl hk rfl rfl rfl fun a hk => qe hk) fun a hk => ?_
     refine tqst (.int .i64 (w64 (u27 + 16))) hk rfl rfl rfl rfl (fun w hs => sv (.int .i64 (w64 (u27 + 16))) hk rfl rfl rfl fun a hk => qe hk) fun a hk => ?_
     refine tqst (.string x1) hk rfl rfl rfl rfl (fun w hs => sm _ rfl hk rfl rfl rfl fun a hk => qe hk) fun a hk => ?_
     refine tqst (.int .i64 (x1.size : Int)) hk rfl rfl rfl rfl (fun w hs => sles rfl hk rfl rfl rfl un9 fun a hk => qe hk) fun a hk => ?_
     refine tqst (.int .i64 (if (x1.size : Int) < (w64 (u27 + 16)) then (x1.size : Int) else (w64 (u27 + 16)))) hk rfl rfl rfl rfl (fun w hs => smn rfl hk rfl rfl rfl rfl fun a hk => qe hk) fun a hk => ?_
     rcases ite_some H with ⟨c45, H⟩ | ⟨_, H⟩
     rotate_left
     ·cases H
     refine tqst (.string (x1.extract u27.toNat (if (x1.size : Int) < (w64 (u27 + 16)) then (x1.size : Int) else (w64 (u27 + 16))).toNat)) hk rfl rfl rfl rfl (fun w hs => ssl_lh rfl hk rfl rfl rfl rfl rfl un9 c45.1 c45.2.1 c45.2.2 fun a hk => qe hk) fun a hk => ?_
     rcases ite_some H with ⟨c46, H⟩ | ⟨_, H⟩
     rotate_left
     ·cases H
     refine tqst (.string ((x1.extract u27.toNat (if (x1.size : Int) < (w64 (u27 + 16)) then (x1.size : Int) else (w64 (u27 + 16))).toNat) ++ (⟨#[1]⟩ : ByteArray))) hk rfl rfl rfl rfl (fun w hs => ssa rfl hk rfl rfl rfl rfl c46 fun a hk => qe hk) fun a hk => ?_
     refine tqst (aggI .u64 y10) hk rfl rfl rfl rfl (fun w hs => slna (k := 2) hs rfl o18 lh12 rfl hk rfl rfl rfl ag99 sz99 fun a hk => qe hk) fun a hk => ?_
     refine tsst hk rfl rfl (fun K_r44_10 hK_r44_10 w hF => ?_) wt_stop
     have hs := hs.f hF
     obtain ⟨y47, h48, H⟩ := bind_some H
     refine sc rfl en97 hk rfl rfl rfl (impl_limbsOf_t _ ((x1.extract u27.toNat (if (x1.size : Int) < (w64 (u27 + 16)) then (x1.size : Int) else (w64 (u27 + 16))).toNat) ++ (⟨#[1]⟩ : ByteArray)) _ h48) ?_
     rintro _ w ⟨rfl, lh49, hG⟩ a hk
     have hs := hs.call0 hG
     refine se (hs.pick [(1, 1), (2, 2)] rfl) hk (hK_r44_10 _ _ ?_)
     refine tsst hk rfl rfl (fun K_r44_11 hK_r44_11 w hF => ?_) wt_stop
     have hs := hs.f hF
     obtain ⟨y50, h51, H⟩ := bind_some H
     refine sc rfl en98 hk rfl rfl rfl (impl_limbs_plus_t _ u23 lh26 y47 lh49 _ h51) ?_
     rintro _ w ⟨rfl, lh52, hG⟩ a hk
     have hs := hs.call0 hG
     refine se (hs.pick [(1, 1), (2, 2)] rfl) hk (hK_r44_11 _ _ ?_)
     refine tsst hk rfl rfl (fun K_r44_13 hK_r44_13 w hF => ?_) wt_stop
     have hs := hs.f hF
     obtain ⟨y53, h54, H⟩ := bind_some H
     refine sc rfl en99 hk rfl rfl rfl (impl_limbs_times_t _ y50 lh52 y10 lh12 _ h54) ?_
     rintro _ w ⟨rfl, lh55, hG⟩ a hk
     have hs := hs.call0 hG
     refine se (hs.pick [(1, 1), (2, 2)] rfl) hk (hK_r44_13 _ _ ?_)
     refine tlst hk rfl rfl fun K_r44_14 hK_r44_14 w hF => ?_
     have hs := hs.f hF
     refine sswa 1 y53 hs rfl o25 lh26 lh55 rfl rfl hk rfl rfl rfl rfl sz99 fun k56 w a hk o57 hs => ?_
     refine se trivial hk (hK_r44_14 _ _ fun w hF => ?_)
     have hs := hs.f hF
     refine hK43 _ _ ?_
     apply wp_region_lit
     refine sm _ rfl hk rfl rfl rfl fun a hk => ?_
     refine sv (.int .i64 (w64 (u27 + 16))) hk rfl rfl rfl fun a hk => ?_
     refine sa _ rfl hk rfl rfl rfl fun a hk => ?_
     show wpList _ _ _ [] _ _
     refine wpList_nil ?_
     obtain rfl := Option.some.inj H
     obtain ⟨m58, hmm58, h39⟩ := h39
     show ∃ n', n' < _ ∧ I36 n' _ _
     refine ⟨m58, hmm58, ?_⟩
     rw [hI36]
     exact ⟨y53, (w64 (u27 + 16)), _, h39, (hk.c 0 rfl (hk.c 1 rfl (hk.c 5 rfl (hk.c 6 rfl (hk.c 7 rfl hk.k))))), (hs.pick [(1, 1), (2, 2)] rfl), o57, lh55⟩
    ·have hk := hk.lit 14 c42 rfl
     refine cnd_false hk rfl rfl ?_
     refine wp_exit ?_
     obtain rfl := Option.some.inj H
     show R35 _ _
     rw [hR35]
     exact ⟨u23, _, h39.symm, (hk.c 0 rfl (hk.c 5 rfl hk.k)), (hs.pick [(1, 1)] rfl), o25, lh26⟩
  ·intro a w hR0
   rw [hR35] at hR0
   obtain ⟨u28, k29, rfl, hk, hs, o30, lh31⟩ := hR0
   have H := HL34
   try dsimp only at H
   refine hK19 _ _ ?_
   apply wp_seq_k; intro K59 hK59
   refine wp_region_tree (.q 0 (.q 2 (.q 3 (.alt 1 (.alt 4 (.last 5) .stop) .stop)))) mo (by kernel_rfl) (hs.pick [(1, 1)] rfl) fun _ => ?_
   have hs := hs.drew
   refine tqst (aggI .u64 u28) hk rfl rfl rfl rfl (fun w hs => slna (k := 1) hs rfl o30 lh31 rfl hk rfl rfl rfl ag99 sz99 fun a hk => qe hk) fun a hk => ?_
   refine tqst (.string x0) hk rfl rfl rfl rfl (fun w hs => sm _ rfl hk rfl rfl rfl fun a hk => qe hk) fun a hk => ?_
   rcases ite_some H with ⟨c61, H⟩ | ⟨_, H⟩
   rotate_left
   ·cases H
   refine tqst (.string (x0.extract (16 : Int).toNat x0.size)) hk rfl rfl rfl rfl (fun w hs => ssl_l rfl hk rfl rfl rfl rfl un9 c61.1 c61.2 fun a hk => qe hk) fun a hk => ?_
   refine tsst hk rfl rfl (fun K_r60_1 hK_r60_1 w hF => ?_) wt_stop
   have hs := hs.f hF
   obtain ⟨y62, h63, H⟩ := bind_some H
   refine sc rfl en100 hk rfl rfl rfl (impl_limbs_reduced_t _ u28 lh31 _ h63) ?_
   rintro _ w ⟨rfl, lh64, hG⟩ a hk
   have hs := hs.call0 hG
   refine se (hs.pick [(1, 1)] rfl) hk (hK_r60_1 _ _ ?_)
   refine tsst hk rfl rfl (fun K_r60_4 hK_r60_4 w hF => ?_) wt_stop
   have hs := hs.f hF
   obtain ⟨y65, h66, H⟩ := bind_some H
   refine sc rfl en101 hk rfl rfl rfl (impl_limbs_bytes_t _ y62 lh64 (x0.extract (16 : Int).toNat x0.size) _ h66) ?_
   rintro _ w ⟨rfl, hG⟩ a hk
   have hs := hs.call0 hG
   refine se (hs.pick [(1, 1)] rfl) hk (hK_r60_4 _ _ ?_)
   refine tlst hk rfl rfl fun K_r60_5 hK_r60_5 w hF => ?_
   have hs := hs.f hF
   refine sa _ rfl hk rfl rfl rfl fun a hk => ?_
   refine se trivial hk (hK_r60_5 _ _ fun w hF => ?_)
   have hs := hs.f hF
   refine hK59 _ _ ?_
   refine wp_ret ?_
   obtain rfl := Option.some.inj H
   exact fin hk _ [(.string y65)] rfl ⟨rfl, trivial⟩ ⟨rfl, (hs.pick [] rfl).dnil⟩

noncomputable def impl_PolyTag.f (x0 : ByteArray) (x1 : ByteArray) : Option (ByteArray × Int) :=
  ((impl_areShort.f ([x0, x1])).bind fun y7 => (bif (!y7) then (some ((⟨#[]⟩ : ByteArray), 2)) else (bif ((x0.size : Int) != 32) then (some ((⟨#[]⟩ : ByteArray), 8)) else ((impl_tag.f x0 x1).bind fun y15 => (some (y15, 0))))))
set_option maxRecDepth 100000 in
set_option maxHeartbeats 0 in
theorem impl_PolyTag_t (w0 : World) (x0 : ByteArray) (x1 : ByteArray) (r : ByteArray × Int) (H : impl_PolyTag.f x0 x1 = some r) :
    Calls Try.prog 17 #[.string x0, .string x1] w0 (Ret (fun v w => v = .tuple #[.string r.1, .int .i64 r.2] ∧ Sat [] w0 w [] [])) := by
  have hs : Sat [] w0 w0 [] [] := Sat.init w0 [] [] (by simp) (by simp) List.nodup_nil (by simp [blks])
  unfold impl_PolyTag.f at H
  refine enter Try.func17 rfl Try.ntmps17 rfl fun a hk => ?_
  apply wp_seq_k; intro K1 hK1
  apply wp_region_lit
  refine sa _ rfl hk rfl rfl rfl fun a hk => ?_
  refine sa _ rfl hk rfl rfl rfl fun a hk => ?_
  show wpList _ _ _ [] _ _
  refine wpList_nil ?_
  refine hK1 _ _ ?_
  apply wp_seq_k; intro K2 hK2
  refine wp_block ?_
  apply wp_seq_k; intro K3 hK3
  apply wp_region_lit
  refine sm _ rfl hk rfl rfl rfl fun a hk => ?_
  refine sm _ rfl hk rfl rfl rfl fun a hk => ?_
  refine sbs (L := Lay.str) (pv := [(0, (.string x0)), (1, (.string x1))]) (xs := [x0, x1]) (ess := [[.string x0], [.string x1]]) 1 hs rfl hk rfl rfl rfl un86 (bs9_4 x0 x1) (AllOwn.cons0 ⟨rfl, rfl⟩ (AllOwn.cons0 ⟨rfl, rfl⟩ AllOwn.nil)) rfl rfl rfl fun b4 k5 w a hk o6 hs => ?_
  obtain ⟨y7, h8, H⟩ := bind_some H
  refine sc rfl en45 hk rfl rfl rfl (impl_areShort_t _ (some ⟨b4, 0, none⟩) 2 ([x0, x1]) _ o6.view (hs.hasG (k := 1) rfl) _ h8) ?_
  rintro _ w ⟨rfl, hG⟩ a hk
  have hs := hs.call0 hG
  refine sv (.bool (!y7)) hk rfl rfl rfl fun a hk => ?_
  refine sa _ rfl hk rfl rfl rfl fun a hk => ?_
  show wpList _ _ _ [] _ _
  refine wpList_nil ?_
  refine hK3 _ _ ?_
  rcases cond_some H with ⟨c9, H⟩ | ⟨c9, H⟩
  ·have hk := hk.lit 6 c9 rfl
   refine cnd_true hk rfl rfl ?_
   apply wp_seq_k; intro K10 hK10
   apply wp_region_lit
   refine sa _ rfl hk rfl rfl rfl fun a hk => ?_
   refine sa _ rfl hk rfl rfl rfl fun a hk => ?_
   show wpList _ _ _ [] _ _
   refine wpList_nil ?_
   refine hK10 _ _ ?_
   refine wp_ret ?_
   obtain rfl := Option.some.inj H
   exact fin hk _ [(.string (⟨#[]⟩ : ByteArray)), (.int .i64 2)] rfl ⟨rfl, ⟨rfl, trivial⟩⟩ ⟨rfl, (hs.pick [] rfl).dnil⟩
  ·have hk := hk.lit 6 c9 rfl
   refine cnd_false hk rfl rfl ?_
   apply wp_seq_k; intro K11 hK11
   apply wp_region_lit
   refine sm _ rfl hk rfl rfl rfl fun a hk => ?_
   refine sles rfl hk rfl rfl rfl un9 fun a hk => ?_
   refine sv (.bool ((x0.size : Int) != 32)) hk rfl rfl rfl fun a hk => ?_
   refine sa _ rfl hk rfl rfl rfl fun a hk => ?_
   show wpList _ _ _ [] _ _
   refine wpList_nil ?_
   refine hK11 _ _ ?_
   rcases cond_some H with ⟨c12, H⟩ | ⟨c12, H⟩
   ·have hk := hk.lit 12 c12 rfl
    refine cnd_true hk rfl rfl ?_
    apply wp_seq_k; intro K13 hK13
    apply wp_region_lit
    refine sa _ rfl hk rfl rfl rfl fun a hk => ?_
    refine sa _ rfl hk rfl rfl rfl fun a hk => ?_
    show wpList _ _ _ [] _ _
    refine wpList_nil ?_
    refine hK13 _ _ ?_
    have hs := hs.pick [] rfl
    refine wp_ret ?_
    obtain rfl := Option.some.inj H
    exact fin hk _ [(.string (⟨#[]⟩ : ByteArray)), (.int .i64 8)] rfl ⟨rfl, ⟨rfl, trivial⟩⟩ ⟨rfl, (hs.pick [] rfl).dnil⟩
   ·have hk := hk.lit 12 c12 rfl
    refine cnd_false hk rfl rfl ?_
    refine wp_skip ?_
    refine hK2 _ _ ?_
    have hs := hs.pick [] rfl
    apply wp_seq_k; intro K14 hK14
    apply wp_region_lit
    refine sm _ rfl hk rfl rfl rfl fun a hk => ?_
    refine sm _ rfl hk rfl rfl rfl fun a hk => ?_
    obtain ⟨y15, h16, H⟩ := bind_some H
    refine sc rfl en54 hk rfl rfl rfl (impl_tag_t _ x0 x1 _ h16) ?_
    rintro _ w ⟨rfl, hG⟩ a hk
    have hs := hs.call0 hG
    refine sa _ rfl hk rfl rfl rfl fun a hk => ?_
    refine sa _ rfl hk rfl rfl rfl fun a hk => ?_
    show wpList _ _ _ [] _ _
    refine wpList_nil ?_
    refine hK14 _ _ ?_
    refine wp_ret ?_
    obtain rfl := Option.some.inj H
    exact fin hk _ [(.string y15), (.int .i64 0)] rfl ⟨rfl, ⟨rfl, trivial⟩⟩ ⟨rfl, (hs.pick [] rfl).dnil⟩

noncomputable def spec_l03Clamp.s0 (x0 : ByteArray) (u13 : List Int) (u17 : Int) : Option (((List Int) × Int) ⊕ Ex ((List Int)) (ByteArray)) :=
  (bif (decide (u17 < 16)) then (if 0 ≤ u17 ∧ u17 < ((bytesOf (x0.extract 0 (16 : Int).toNat)).length : Int) then (if 0 ≤ u17 ∧ u17 < ((bytesOf (x0.extract 0 (16 : Int).toNat)).length : Int) then (some (.inl ((u13.set u17.toNat (IntKind.wrap .u8 ((BitVec.ofInt 8 (u13.getD u17.toNat 0) &&& BitVec.ofInt 8 15).toNat : Int))), (w64 (u17 + 4))))) else none) else none) else (some (.inr (.out u13))))
noncomputable def spec_l03Clamp.s1 (x0 : ByteArray) (u49 : List Int) (u53 : Int) : Option (((List Int) × Int) ⊕ Ex ((List Int)) (ByteArray)) :=
  (bif (decide (u53 < 16)) then (if 0 ≤ u53 ∧ u53 < ((bytesOf (x0.extract 0 (16 : Int).toNat)).length : Int) then (if 0 ≤ u53 ∧ u53 < ((bytesOf (x0.extract 0 (16 : Int).toNat)).length : Int) then (some (.inl ((u49.set u53.toNat (IntKind.wrap .u8 ((BitVec.ofInt 8 (u49.getD u53.toNat 0) &&& BitVec.ofInt 8 252).toNat : Int))), (w64 (u53 + 4))))) else none) else none) else (some (.inr (.out u49))))
noncomputable def spec_l03Clamp.f (x0 : ByteArray) : Option (ByteArray) :=
  (if 0 ≤ (16 : Int) ∧ (16 : Int) ≤ (x0.size : Int) then (if (x0.extract 0 (16 : Int).toNat).size ≤ 1073741824 then ((loopO (fun s => spec_l03Clamp.s0 x0 s.1 s.2) ((bytesOf (x0.extract 0 (16 : Int).toNat)), 3)).bind fun o => match o with | .out u18 => ((loopO (fun s => spec_l03Clamp.s1 x0 s.1 s.2) (u18, 4)).bind fun o => match o with | .out u54 => (some (strOfNums u54)) | .ret r => (some r)) | .ret r => (some r)) else none) else none)
set_option maxRecDepth 100000 in
set_option maxHeartbeats 0 in
theorem spec_l03Clamp_t (w0 : World) (x0 : ByteArray) (r : ByteArray) (H : spec_l03Clamp.f x0 = some r) :
    Calls Try.prog 57 #[.string x0] w0 (Ret (fun v w => v = .string r ∧ Sat [] w0 w [] [])) := by
  have hs : Sat [] w0 w0 [] [] := Sat.init w0 [] [] (by simp) (by simp) List.nodup_nil (by simp [blks])
  unfold spec_l03Clamp.f at H
  refine enter Try.func57 rfl Try.ntmps57 rfl fun a hk => ?_
  apply wp_seq_k; intro K1 hK1
  apply wp_region_lit
  refine sa _ rfl hk rfl rfl rfl fun a hk => ?_
  show wpList _ _ _ [] _ _
  refine wpList_nil ?_
  refine hK1 _ _ ?_
  apply wp_seq_k; intro K2 hK2
  apply wp_region_lit
  refine sm _ rfl hk rfl rfl rfl fun a hk => ?_
  rcases ite_some H with ⟨c3, H⟩ | ⟨_, H⟩
  rotate_left
  ·cases H
  refine ssl_h rfl hk rfl rfl rfl rfl un9 c3.1 c3.2 fun a hk => ?_
  rcases ite_some H with ⟨c4, H⟩ | ⟨_, H⟩
  rotate_left
  ·cases H
  refine scb 1 hs rfl hk rfl rfl rfl un9 un22 un5 c4 fun b5 p6 k7 w a hk o8 hs => ?_
  refine sa _ rfl hk rfl rfl rfl fun a hk => ?_
  show wpList _ _ _ [] _ _
  refine wpList_nil ?_
  refine hK2 _ _ ?_
  apply wp_seq_k; intro K9 hK9
  apply wp_seq_k; intro K10 hK10
  apply wp_region_lit
  refine sa _ rfl hk rfl rfl rfl fun a hk => ?_
  show wpList _ _ _ [] _ _
  refine wpList_nil ?_
  refine hK10 _ _ ?_
  obtain ⟨o22, h23, HL24⟩ := bind_some H
  clear H
  obtain ⟨R25, hR25⟩ : ∃ R : Act → World → Prop, R = fun a w => ∃ (u18 : List Int) (k19 : Chunk), o22 = .out u18 ∧ Kn [(3, (.slice (some ⟨b5, 0, none⟩) (bytesOf (x0.extract 0 (16 : Int).toNat)).length p6))] 31 a ∧ Sat [] w0 w [] [(1, k19)] ∧ OwnM (Lay.int .u8) 5 (some ⟨b5, 0, none⟩) p6 u18 k19 ∧ u18.length = (bytesOf (x0.extract 0 (16 : Int).toNat)).length := ⟨_, rfl⟩
  refine wp_cutq R25 ?_ ?_
  ·refine wp_block ?_
   obtain ⟨fu27, h23⟩ := loopO_some h23
   obtain ⟨I26, hI26⟩ : ∃ I : Nat → Act → World → Prop, I = fun fu a w => ∃ (u13 : List Int) (u17 : Int) (k14 : Chunk), loopN (fun s => spec_l03Clamp.s0 x0 s.1 s.2) fu (u13, u17) = some o22 ∧ Kn [(3, (.slice (some ⟨b5, 0, none⟩) (bytesOf (x0.extract 0 (16 : Int).toNat)).length p6)), (4, (.int .i64 u17))] 31 a ∧ Sat [] w0 w [] [(1, k14)] ∧ OwnM (Lay.int .u8) 5 (some ⟨b5, 0, none⟩) p6 u13 k14 ∧ u13.length = (bytesOf (x0.extract 0 (16 : Int).toNat)).length := ⟨_, rfl⟩
   refine wp_loop_ghost I26 fu27 ?_ ?_
   ·rw [hI26]
    exact ⟨(bytesOf (x0.extract 0 (16 : Int).toNat)), 3, _, h23, (hk.c 3 rfl (hk.c 4 rfl hk.k)), (hs.pick [(1, 1)] rfl), o8, rfl⟩
   ·clear h23 hk hs
    intro fu27 a w hI0
    rw [hI26] at hI0
    obtain ⟨u13, u17, k14, hi, hk, hs, o15, lh16⟩ := hI0
    obtain ⟨x28, H, h29⟩ := loop_round hi
    try dsimp only at H
    unfold spec_l03Clamp.s0 at H
    apply wp_seq_k; intro K30 hK30
    apply wp_seq_k; intro K31 hK31
    apply wp_region_lit
    refine sm _ rfl hk rfl rfl rfl fun a hk => ?_
    refine sv (.bool (decide (u17 < 16))) hk rfl rfl rfl fun a hk => ?_
    show wpList _ _ _ [] _ _
    refine wpList_nil ?_
    refine hK31 _ _ ?_
    have hs := hs.pick [(1, 1)] rfl
    rcases cond_some H with ⟨c32, H⟩ | ⟨c32, H⟩
    ·have hk := hk.lit 10 c32 rfl
     refine cnd_true hk rfl rfl ?_
     refine wp_skip ?_
     refine hK30 _ _ ?_
     apply wp_seq_k; intro K33 hK33
     refine wp_block ?_
     apply wp_region_lit
     refine sm _ rfl hk rfl rfl rfl fun a hk => ?_
     refine sm _ rfl hk rfl rfl rfl fun a hk => ?_
     rcases ite_some H with ⟨c34, H⟩ | ⟨_, H⟩
     rotate_left
     ·cases H
     obtain ⟨b35, q36, hAc34⟩ := (o15.view).some_ u17 c34.1 (by rw [lh16]; exact c34.2)
     refine si rfl hk rfl rfl rfl rfl un22 sz5 c34.1 c34.2 hAc34 fun a hk => ?_
     obtain ⟨_, rfl, e37⟩ := (o15.view).at_ 0 u17 c34.1 (by rw [lh16]; exact c34.2)
     refine sl (v := (.int .u8 (u13.getD u17.toNat 0))) rfl hk rfl rfl rfl ag5 ((e37 0 _ rfl).cell (hs.hasG (k := 1) rfl)) fun a hk => ?_
     refine sv (.int .u8 (IntKind.wrap .u8 ((BitVec.ofInt 8 (u13.getD u17.toNat 0) &&& BitVec.ofInt 8 15).toNat : Int))) hk rfl rfl rfl fun a hk => ?_
     rcases ite_some H with ⟨c38, H⟩ | ⟨_, H⟩
     rotate_left
     ·cases H
     obtain ⟨b39, q40, hAc38⟩ := (o15.view).some_ u17 c38.1 (by rw [lh16]; exact c38.2)
     refine si rfl hk rfl rfl rfl rfl un22 sz5 c38.1 c38.2 hAc38 fun a hk => ?_
     refine sob 1 (IntKind.wrap .u8 ((BitVec.ofInt 8 (u13.getD u17.toNat 0) &&& BitVec.ofInt 8 15).toNat : Int)) hs rfl o15 c38.1 (by rw [lh16]; exact c38.2) rfl hk rfl rfl rfl rfl rfl sz5 rfl rfl rfl ⟨rfl, rfl⟩ fun k41 w a hk o42 hs => ?_
     have lh43 : (u13.set u17.toNat (IntKind.wrap .u8 ((BitVec.ofInt 8 (u13.getD u17.toNat 0) &&& BitVec.ofInt 8 15).toNat : Int))).length = (bytesOf (x0.extract 0 (16 : Int).toNat)).length := by rw [List.length_set]; exact lh16
     show wpList _ _ _ [] _ _
     refine wpList_nil ?_
     refine hK33 _ _ ?_
     apply wp_region_lit
     refine sm _ rfl hk rfl rfl rfl fun a hk => ?_
     refine sv (.int .i64 (w64 (u17 + 4))) hk rfl rfl rfl fun a hk => ?_
     refine sa _ rfl hk rfl rfl rfl fun a hk => ?_
     show wpList _ _ _ [] _ _
     refine wpList_nil ?_
     obtain rfl := Option.some.inj H
     obtain ⟨m44, hmm44, h29⟩ := h29
     show ∃ n', n' < _ ∧ I26 n' _ _
     refine ⟨m44, hmm44, ?_⟩
     rw [hI26]
     exact ⟨(u13.set u17.toNat (IntKind.wrap .u8 ((BitVec.ofInt 8 (u13.getD u17.toNat 0) &&& BitVec.ofInt 8 15).toNat : Int))), (w64 (u17 + 4)), _, h29, (hk.c 3 rfl (hk.c 4 rfl hk.k)), (hs.pick [(1, 1)] rfl), o42, lh43⟩
    ·have hk := hk.lit 10 c32 rfl
     refine cnd_false hk rfl rfl ?_
     refine wp_exit ?_
     obtain rfl := Option.some.inj H
     show R25 _ _
     rw [hR25]
     exact ⟨u13, _, h29.symm, (hk.c 3 rfl hk.k), (hs.pick [(1, 1)] rfl), o15, lh16⟩
  ·intro a w hR0
   rw [hR25] at hR0
   obtain ⟨u18, k19, rfl, hk, hs, o20, lh21⟩ := hR0
   have H := HL24
   try dsimp only at H
   refine hK9 _ _ ?_
   have hs := hs.pick [(1, 1)] rfl
   apply wp_seq_k; intro K45 hK45
   apply wp_seq_k; intro K46 hK46
   apply wp_region_lit
   refine sa _ rfl hk rfl rfl rfl fun a hk => ?_
   show wpList _ _ _ [] _ _
   refine wpList_nil ?_
   refine hK46 _ _ ?_
   obtain ⟨o58, h59, HL60⟩ := bind_some H
   clear H
   obtain ⟨R61, hR61⟩ : ∃ R : Act → World → Prop, R = fun a w => ∃ (u54 : List Int) (k55 : Chunk), o58 = .out u54 ∧ Kn [(3, (.slice (some ⟨b5, 0, none⟩) (bytesOf (x0.extract 0 (16 : Int).toNat)).length p6))] 31 a ∧ Sat [] w0 w [] [(1, k55)] ∧ OwnM (Lay.int .u8) 5 (some ⟨b5, 0, none⟩) p6 u54 k55 ∧ u54.length = (bytesOf (x0.extract 0 (16 : Int).toNat)).length := ⟨_, rfl⟩
   refine wp_cutq R61 ?_ ?_
   ·refine wp_block ?_
    obtain ⟨fu63, h59⟩ := loopO_some h59
    obtain ⟨I62, hI62⟩ : ∃ I : Nat → Act → World → Prop, I = fun fu a w => ∃ (u49 : List Int) (u53 : Int) (k50 : Chunk), loopN (fun s => spec_l03Clamp.s1 x0 s.1 s.2) fu (u49, u53) = some o58 ∧ Kn [(3, (.slice (some ⟨b5, 0, none⟩) (bytesOf (x0.extract 0 (16 : Int).toNat)).length p6)), (5, (.int .i64 u53))] 31 a ∧ Sat [] w0 w [] [(1, k50)] ∧ OwnM (Lay.int .u8) 5 (some ⟨b5, 0, none⟩) p6 u49 k50 ∧ u49.length = (bytesOf (x0.extract 0 (16 : Int).toNat)).length := ⟨_, rfl⟩
    refine wp_loop_ghost I62 fu63 ?_ ?_
    ·rw [hI62]
     exact ⟨u18, 4, _, h59, (hk.c 3 rfl (hk.c 5 rfl hk.k)), (hs.pick [(1, 1)] rfl), o20, lh21⟩
    ·clear h59 hk hs
     intro fu63 a w hI0
     rw [hI62] at hI0
     obtain ⟨u49, u53, k50, hi, hk, hs, o51, lh52⟩ := hI0
     obtain ⟨x64, H, h65⟩ := loop_round hi
     try dsimp only at H
     unfold spec_l03Clamp.s1 at H
     apply wp_seq_k; intro K66 hK66
     apply wp_seq_k; intro K67 hK67
     apply wp_region_lit
     refine sm _ rfl hk rfl rfl rfl fun a hk => ?_
     refine sv (.bool (decide (u53 < 16))) hk rfl rfl rfl fun a hk => ?_
     show wpList _ _ _ [] _ _
     refine wpList_nil ?_
     refine hK67 _ _ ?_
     rcases cond_some H with ⟨c68, H⟩ | ⟨c68, H⟩
     ·have hk := hk.lit 20 c68 rfl
      refine cnd_true hk rfl rfl ?_
      refine wp_skip ?_
      refine hK66 _ _ ?_
      apply wp_seq_k; intro K69 hK69
      refine wp_block ?_
      apply wp_region_lit
      refine sm _ rfl hk rfl rfl rfl fun a hk => ?_
      refine sm _ rfl hk rfl rfl rfl fun a hk => ?_
      rcases ite_some H with ⟨c70, H⟩ | ⟨_, H⟩
      rotate_left
      ·cases H
      obtain ⟨b71, q72, hAc70⟩ := (o51.view).some_ u53 c70.1 (by rw [lh52]; exact c70.2)
      refine si rfl hk rfl rfl rfl rfl un22 sz5 c70.1 c70.2 hAc70 fun a hk => ?_
      obtain ⟨_, rfl, e73⟩ := (o51.view).at_ 0 u53 c70.1 (by rw [lh52]; exact c70.2)
      refine sl (v := (.int .u8 (u49.getD u53.toNat 0))) rfl hk rfl rfl rfl ag5 ((e73 0 _ rfl).cell (hs.hasG (k := 1) rfl)) fun a hk => ?_
      refine sv (.int .u8 (IntKind.wrap .u8 ((BitVec.ofInt 8 (u49.getD u53.toNat 0) &&& BitVec.ofInt 8 252).toNat : Int))) hk rfl rfl rfl fun a hk => ?_
      rcases ite_some H with ⟨c74, H⟩ | ⟨_, H⟩
      rotate_left
      ·cases H
      obtain ⟨b75, q76, hAc74⟩ := (o51.view).some_ u53 c74.1 (by rw [lh52]; exact c74.2)
      refine si rfl hk rfl rfl rfl rfl un22 sz5 c74.1 c74.2 hAc74 fun a hk => ?_
      refine sob 1 (IntKind.wrap .u8 ((BitVec.ofInt 8 (u49.getD u53.toNat 0) &&& BitVec.ofInt 8 252).toNat : Int)) hs rfl o51 c74.1 (by rw [lh52]; exact c74.2) rfl hk rfl rfl rfl rfl rfl sz5 rfl rfl rfl ⟨rfl, rfl⟩ fun k77 w a hk o78 hs => ?_
      have lh79 : (u49.set u53.toNat (IntKind.wrap .u8 ((BitVec.ofInt 8 (u49.getD u53.toNat 0) &&& BitVec.ofInt 8 252).toNat : Int))).length = (bytesOf (x0.extract 0 (16 : Int).toNat)).length := by rw [List.length_set]; exact lh52
      show wpList _ _ _ [] _ _
      refine wpList_nil ?_
      refine hK69 _ _ ?_
      have hs := hs.pick [(1, 1)] rfl
      apply wp_region_lit
      refine sm _ rfl hk rfl rfl rfl fun a hk => ?_
      refine sv (.int .i64 (w64 (u53 + 4))) hk rfl rfl rfl fun a hk => ?_
      refine sa _ rfl hk rfl rfl rfl fun a hk => ?_
      show wpList _ _ _ [] _ _
      refine wpList_nil ?_
      obtain rfl := Option.some.inj H
      obtain ⟨m80, hmm80, h65⟩ := h65
      show ∃ n', n' < _ ∧ I62 n' _ _
      refine ⟨m80, hmm80, ?_⟩
      rw [hI62]
      exact ⟨(u49.set u53.toNat (IntKind.wrap .u8 ((BitVec.ofInt 8 (u49.getD u53.toNat 0) &&& BitVec.ofInt 8 252).toNat : Int))), (w64 (u53 + 4)), _, h65, (hk.c 3 rfl (hk.c 5 rfl hk.k)), (hs.pick [(1, 1)] rfl), o78, lh79⟩
     ·have hk := hk.lit 20 c68 rfl
      refine cnd_false hk rfl rfl ?_
      refine wp_exit ?_
      obtain rfl := Option.some.inj H
      show R61 _ _
      rw [hR61]
      exact ⟨u49, _, h65.symm, (hk.c 3 rfl hk.k), (hs.pick [(1, 1)] rfl), o51, lh52⟩
   ·intro a w hR0
    rw [hR61] at hR0
    obtain ⟨u54, k55, rfl, hk, hs, o56, lh57⟩ := hR0
    have H := HL60
    try dsimp only at H
    refine hK45 _ _ ?_
    apply wp_seq_k; intro K81 hK81
    apply wp_region_lit
    refine sm _ rfl hk rfl rfl rfl fun a hk => ?_
    refine sbt (xs := u54) rfl hk rfl rfl lh57.symm rfl un22 un5 un9 o56.view (hs.hasG (k := 1) rfl) fun a hk => ?_
    refine sa _ rfl hk rfl rfl rfl fun a hk => ?_
    show wpList _ _ _ [] _ _
    refine wpList_nil ?_
    refine hK81 _ _ ?_
    refine wp_ret ?_
    obtain rfl := Option.some.inj H
    exact fin hk _ [(.string (strOfNums u54))] rfl ⟨rfl, trivial⟩ ⟨rfl, (hs.pick [] rfl).dnil⟩

end Go.Proofs.Yteklgnhfgdhdiaa
