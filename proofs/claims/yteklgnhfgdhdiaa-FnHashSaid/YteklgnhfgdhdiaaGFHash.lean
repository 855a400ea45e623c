/- The functions that FnHash reaches: for each a model and the walk that shows that the Go code comes to it. -/
import Derived.Test.YteklgnhfgdhdiaaT
namespace Go.Proofs.Yteklgnhfgdhdiaa
open Go Go.Z Go.Proofs Go.MuLone Go.ChangeShapes Go.WideShapes Go.ChangeAt Go.RowKit
set_option linter.unusedVariables false
set_option linter.unusedSimpArgs false
noncomputable def spec_l00Source.f (l0 : List Int) : Option (S_l00Src) :=
  (some (⟨l0, 0, (Int.tmod (l0.length : Int) 1000)⟩ : S_l00Src))
set_option maxRecDepth 100000 in
set_option maxHeartbeats 0 in
theorem spec_l00Source_t (w0 : World) (A0_ : Option Addr) (p0_ : Nat) (l0 : List Int) (k0_ : Chunk) (v0_ : View (Lay.int .u8) A0_ p0_ l0 k0_) (w0_ : Has w0 k0_) (r : S_l00Src) (H : spec_l00Source.f l0 = some r) :
    Calls Try.prog 43 #[.slice A0_ l0.length p0_] w0 (Ret (fun v w => ∃ (bb0 : Nat), ∃ (A0 : Option Addr) (p0 : Nat), ∃ (kS : Chunk), v = .pointer (some ⟨bb0, 0, none⟩) ∧ View (Lay.int .u8) A0 p0 r.code (k0_ ++ kS) ∧ Sat [] w0 w [] [(0, [(bb0, .cells #[.slice A0 r.code.length p0, .int .i64 r.at_, .int .i64 r.seed] 84 (0, 0))]), (1, kS)])) := by
  have hs : Sat [] w0 w0 [(1, k0_)] [] := Sat.init w0 [(1, k0_)] [] (by simp only [List.mem_cons, List.not_mem_nil, or_false]; rintro x (rfl) <;> assumption) (by simp) List.nodup_nil (by simp [blks])
  unfold spec_l00Source.f at H
  refine enter Try.func43 rfl Try.ntmps43 rfl fun a hk => ?_
  apply wp_seq_k; intro K1 hK1
  apply wp_region_lit
  refine sa _ rfl hk rfl rfl rfl fun a hk => ?_
  show wpList _ _ _ [] _ _
  refine wpList_nil ?_
  refine hK1 _ _ ?_
  apply wp_seq_k; intro K2 hK2
  apply wp_region_lit
  refine sm _ rfl hk rfl rfl rfl fun a hk => ?_
  refine sm _ rfl hk rfl rfl rfl fun a hk => ?_
  refine sle rfl hk rfl rfl rfl un22 fun a hk => ?_
  refine sv (.int .i64 (Int.tmod (l0.length : Int) 1000)) hk rfl rfl rfl fun a hk => ?_
  refine sbd (pv := [(0, (.slice A0_ l0.length p0_)), (2, (.int .i64 (Int.tmod (l0.length : Int) 1000)))]) rfl hk rfl rfl rfl (bd84_0 A0_ l0.length p0_ (Int.tmod (l0.length : Int) 1000)) fun a hk => ?_
  refine sbx 2 hs rfl hk rfl rfl rfl rfl fun b3 w a hk hs => ?_
  refine sa _ rfl hk rfl rfl rfl fun a hk => ?_
  show wpList _ _ _ [] _ _
  refine wpList_nil ?_
  refine hK2 _ _ ?_
  refine wp_ret ?_
  obtain rfl := Option.some.inj H
  exact fin hk _ [(.pointer (some ⟨b3, 0, none⟩))] rfl ⟨rfl, trivial⟩ ⟨b3, A0_, p0_, _, rfl, (v0_).sub (Sub.l _ (Sub.refl _)), ((hs.addNil 3000).pick [(0, 2), (1, 3000)] rfl).dnil⟩

noncomputable def spec_l00Src_byte.f (x0 : S_l00Src) : Option (Int × Int × Int) :=
  (bif (decide ((w64 (x0.at_ + 1)) ≤ (x0.code.length : Int))) then (if 0 ≤ (w64 ((w64 (x0.at_ + 1)) - 1)) ∧ (w64 ((w64 (x0.at_ + 1)) - 1)) < (x0.code.length : Int) then (if 0 ≤ (w64 ((w64 (x0.at_ + 1)) - 1)) ∧ (w64 ((w64 (x0.at_ + 1)) - 1)) < (x0.code.length : Int) then (some ((IntKind.wrap .i64 (x0.code.getD (w64 ((w64 (x0.at_ + 1)) - 1)).toNat 0)), (w64 (x0.at_ + 1)), (Int.tmod (w64 ((w64 ((w64 (x0.seed * 31)) + (IntKind.wrap .i64 (x0.code.getD (w64 ((w64 (x0.at_ + 1)) - 1)).toNat 0)))) + 7)) 2147483648))) else none) else none) else (bif (decide ((w64 (x0.at_ + 1)) > 3000)) then (some (0, (w64 (x0.at_ + 1)), x0.seed)) else (some ((Int.tmod (IntKind.wrap .i64 (Int.tdiv (Int.tmod (w64 ((w64 (x0.seed * 1103515245)) + 12345)) 2147483648) 65536)) 256), (w64 (x0.at_ + 1)), (Int.tmod (w64 ((w64 (x0.seed * 1103515245)) + 12345)) 2147483648)))))
set_option maxRecDepth 100000 in
set_option maxHeartbeats 0 in
theorem spec_l00Src_byte_t (w0 : World) (b0_ : Nat) (x0 : S_l00Src) (A0_0 : Option Addr) (p0_0 : Nat) (k0_0 : Chunk) (v0_0 : View (Lay.int .u8) A0_0 p0_0 x0.code k0_0) (w0_0 : Has w0 k0_0) (hs0 : Sat (blks [(1, [(b0_, .cells #[.slice A0_0 x0.code.length p0_0, .int .i64 x0.at_, .int .i64 x0.seed] 84 (0, 0))])]) w0 w0 [(2, k0_0)] [(1, [(b0_, .cells #[.slice A0_0 x0.code.length p0_0, .int .i64 x0.at_, .int .i64 x0.seed] 84 (0, 0))])]) (r : Int × Int × Int) (H : spec_l00Src_byte.f x0 = some r) :
    Calls Try.prog 119 #[.pointer (some ⟨b0_, 0, none⟩)] w0 (Ret (fun v w => v = .int .i64 r.1 ∧ Sat (blks [(1, [(b0_, .cells #[.slice A0_0 x0.code.length p0_0, .int .i64 x0.at_, .int .i64 x0.seed] 84 (0, 0))])]) w0 w [] [(0, [(b0_, .cells #[.slice A0_0 x0.code.length p0_0, .int .i64 r.2.1, .int .i64 r.2.2] 84 (0, 0))])])) := by
  have hs := hs0
  unfold spec_l00Src_byte.f at H
  refine enter Try.func119 rfl Try.ntmps119 rfl fun a hk => ?_
  apply wp_seq_k; intro K1 hK1
  apply wp_region_lit
  refine sa _ rfl hk rfl rfl rfl fun a hk => ?_
  show wpList _ _ _ [] _ _
  refine wpList_nil ?_
  refine hK1 _ _ ?_
  apply wp_seq_k; intro K2 hK2
  apply wp_region_lit
  refine sm _ rfl hk rfl rfl rfl fun a hk => ?_
  refine snk rfl hk rfl rfl rfl fun a hk => ?_
  refine sf ⟨b0_, 1, none⟩ rfl hk rfl rfl rfl fd84_1 rfl fun a hk => ?_
  refine sl rfl hk rfl rfl rfl ag3 (box_cell hs (k := 1) rfl rfl) fun a hk => ?_
  refine sv (.int .i64 (w64 (x0.at_ + 1))) hk rfl rfl rfl fun a hk => ?_
  refine snk rfl hk rfl rfl rfl fun a hk => ?_
  refine sf ⟨b0_, 1, none⟩ rfl hk rfl rfl rfl fd84_1 rfl fun a hk => ?_
  refine ssx (cs' := #[.slice A0_0 x0.code.length p0_0, .int .i64 (w64 (x0.at_ + 1)), .int .i64 x0.seed]) 1 hs rfl rfl hk rfl rfl rfl rfl sz3 rfl rfl rfl rfl fun w a hk hs => ?_
  show wpList _ _ _ [] _ _
  refine wpList_nil ?_
  refine hK2 _ _ ?_
  apply wp_seq_k; intro K3 hK3
  apply wp_seq_k; intro K4 hK4
  refine wp_region_tree (.q 0 (.q 1 (.q 2 (.q 3 (.alt 4 (.alt 5 (.alt 6 (.alt 7 (.alt 8 (.alt 9 .done .stop) .stop) .stop) .stop) .stop) .stop))))) mo (by kernel_rfl) (hs.pick [(1, 1)] rfl) fun _ => ?_
  have hs := hs.drew
  refine tqst (.pointer (some ⟨b0_, 0, none⟩)) hk rfl rfl rfl rfl (fun w hs => sm _ rfl hk rfl rfl rfl fun a hk => qe hk) fun a hk => ?_
  refine tqst (.pointer (some ⟨b0_, 0, none⟩)) hk rfl rfl rfl rfl (fun w hs => snk rfl hk rfl rfl rfl fun a hk => qe hk) fun a hk => ?_
  refine tqst (.pointer (some ⟨b0_, 1, none⟩)) hk rfl rfl rfl rfl (fun w hs => sf ⟨b0_, 1, none⟩ rfl hk rfl rfl rfl fd84_1 rfl fun a hk => qe hk) fun a hk => ?_
  refine tqst (.int .i64 (w64 (x0.at_ + 1))) hk rfl rfl rfl rfl (fun w hs => sl rfl hk rfl rfl rfl ag3 (box_cell hs (k := 1) rfl rfl) fun a hk => qe hk) fun a hk => ?_
  refine tsst hk rfl rfl (fun K_r5_4 hK_r5_4 w hF => ?_) wt_stop
  have hs := hs.f hF
  refine sm _ rfl hk rfl rfl rfl fun a hk => ?_
  refine se (hs.pick [(1, 1)] rfl) hk (hK_r5_4 _ _ ?_)
  refine tsst hk rfl rfl (fun K_r5_5 hK_r5_5 w hF => ?_) wt_stop
  have hs := hs.f hF
  refine snk rfl hk rfl rfl rfl fun a hk => ?_
  refine se (hs.pick [(1, 1)] rfl) hk (hK_r5_5 _ _ ?_)
  refine tsst hk rfl rfl (fun K_r5_6 hK_r5_6 w hF => ?_) wt_stop
  have hs := hs.f hF
  refine sf ⟨b0_, 0, none⟩ rfl hk rfl rfl rfl fd84_0 rfl fun a hk => ?_
  refine se (hs.pick [(1, 1)] rfl) hk (hK_r5_6 _ _ ?_)
  refine tsst hk rfl rfl (fun K_r5_7 hK_r5_7 w hF => ?_) wt_stop
  have hs := hs.f hF
  refine sl rfl hk rfl rfl rfl ag22 (box_cell hs (k := 1) rfl rfl) fun a hk => ?_
  refine se (hs.pick [(1, 1)] rfl) hk (hK_r5_7 _ _ ?_)
  refine tsst hk rfl rfl (fun K_r5_8 hK_r5_8 w hF => ?_) wt_stop
  have hs := hs.f hF
  refine sle rfl hk rfl rfl rfl un22 fun a hk => ?_
  refine se (hs.pick [(1, 1)] rfl) hk (hK_r5_8 _ _ ?_)
  refine tsst hk rfl rfl (fun K_r5_9 hK_r5_9 w hF => ?_) wt_stop
  have hs := hs.f hF
  refine sv (.bool (decide ((w64 (x0.at_ + 1)) ≤ (x0.code.length : Int)))) hk rfl rfl rfl fun a hk => ?_
  refine se (hs.pick [(1, 1)] rfl) hk (hK_r5_9 _ _ ?_)
  refine wtl_nil fun w hF _ => ?_
  have hs := hs.f hF
  refine hK4 _ _ ?_
  rcases cond_some H with ⟨c6, H⟩ | ⟨c6, H⟩
  ·have hk := hk.lit 19 c6 rfl
   refine cnd_true hk rfl rfl ?_
   apply wp_seq_k; intro K7 hK7
   refine wp_region_tree2 21 (.q 0 (.q 1 (.q 2 (.q 3 (.q 4 (.q 5 (.q 6 (.q 7 (.q 8 (.q 9 (.alt 10 (.alt 11 (.alt 12 (.alt 13 (.alt 14 (.alt 15 (.alt 16 (.alt 17 (.alt 18 (.alt 19 (.alt 20 (.alt 21 (.alt 22 (.alt 23 .done .stop) .stop) .stop) .stop) .stop) .stop) .stop) .stop) .stop) .stop) .stop) .stop) .stop) .stop))))))))))) mo (by kernel_rfl) (hs.pick [(1, 1)] rfl) (fun w hs => hs.pick [] rfl) fun _ => ?_
   have hs := hs.drew
   refine tq2 (.pointer (some ⟨b0_, 0, none⟩)) hk rfl rfl rfl rfl (fun w hs => sm _ rfl hk rfl rfl rfl fun a hk => qe hk) fun a hk => ?_
   refine tq2 (.pointer (some ⟨b0_, 0, none⟩)) hk rfl rfl rfl rfl (fun w hs => sm _ rfl hk rfl rfl rfl fun a hk => qe hk) fun a hk => ?_
   refine tq2 (.pointer (some ⟨b0_, 0, none⟩)) hk rfl rfl rfl rfl (fun w hs => snk rfl hk rfl rfl rfl fun a hk => qe hk) fun a hk => ?_
   refine tq2 (.pointer (some ⟨b0_, 2, none⟩)) hk rfl rfl rfl rfl (fun w hs => sf ⟨b0_, 2, none⟩ rfl hk rfl rfl rfl fd84_2 rfl fun a hk => qe hk) fun a hk => ?_
   refine tq1 (hdep := by kernel_rfl) (.int .i64 x0.seed) hk rfl rfl rfl rfl (fun w hs => sl rfl hk rfl rfl rfl ag3 (box_cell hs (k := 1) rfl rfl) fun a hk => qe hk) fun a hk => ?_
   refine tq2 (.int .i64 (w64 (x0.seed * 31))) hk rfl rfl rfl rfl (fun w hs => sv (.int .i64 (w64 (x0.seed * 31))) hk rfl rfl rfl fun a hk => qe hk) fun a hk => ?_
   refine tq2 (.pointer (some ⟨b0_, 0, none⟩)) hk rfl rfl rfl rfl (fun w hs => sm _ rfl hk rfl rfl rfl fun a hk => qe hk) fun a hk => ?_
   refine tq2 (.pointer (some ⟨b0_, 0, none⟩)) hk rfl rfl rfl rfl (fun w hs => snk rfl hk rfl rfl rfl fun a hk => qe hk) fun a hk => ?_
   refine tq2 (.pointer (some ⟨b0_, 0, none⟩)) hk rfl rfl rfl rfl (fun w hs => sf ⟨b0_, 0, none⟩ rfl hk rfl rfl rfl fd84_0 rfl fun a hk => qe hk) fun a hk => ?_
   refine tq1 (hdep := by kernel_rfl) (.slice A0_0 x0.code.length p0_0) hk rfl rfl rfl rfl (fun w hs => sl rfl hk rfl rfl rfl ag22 (box_cell hs (k := 1) rfl rfl) fun a hk => qe hk) fun a hk => ?_
   refine ta1 hk rfl rfl rfl (fun K_r8_10 hK_r8_10 w hF => ?_) wt2_stop
   have hs := hs.f hF
   refine sm _ rfl hk rfl rfl rfl fun a hk => ?_
   refine se (hs.pick [(1, 1)] rfl) hk (hK_r8_10 _ _ ?_)
   refine ta1 hk rfl rfl rfl (fun K_r8_11 hK_r8_11 w hF => ?_) wt2_stop
   have hs := hs.f hF
   refine snk rfl hk rfl rfl rfl fun a hk => ?_
   refine se (hs.pick [(1, 1)] rfl) hk (hK_r8_11 _ _ ?_)
   refine ta1 hk rfl rfl rfl (fun K_r8_12 hK_r8_12 w hF => ?_) wt2_stop
   have hs := hs.f hF
   refine sf ⟨b0_, 1, none⟩ rfl hk rfl rfl rfl fd84_1 rfl fun a hk => ?_
   refine se (hs.pick [(1, 1)] rfl) hk (hK_r8_12 _ _ ?_)
   refine ta1 hk rfl rfl rfl (fun K_r8_13 hK_r8_13 w hF => ?_) wt2_stop
   have hs := hs.f hF
   refine sl rfl hk rfl rfl rfl ag3 (box_cell hs (k := 1) rfl rfl) fun a hk => ?_
   refine se (hs.pick [(1, 1)] rfl) hk (hK_r8_13 _ _ ?_)
   refine ta1 hk rfl rfl rfl (fun K_r8_14 hK_r8_14 w hF => ?_) wt2_stop
   have hs := hs.f hF
   refine sv (.int .i64 (w64 ((w64 (x0.at_ + 1)) - 1))) hk rfl rfl rfl fun a hk => ?_
   refine se (hs.pick [(1, 1)] rfl) hk (hK_r8_14 _ _ ?_)
   refine ta1 hk rfl rfl rfl (fun K_r8_15 hK_r8_15 w hF => ?_) wt2_stop
   have hs := hs.f hF
   rcases ite_some H with ⟨c9, H⟩ | ⟨_, H⟩
   rotate_left
   ·cases H
   obtain ⟨b10, q11, hAc9⟩ := (v0_0).some_ (w64 ((w64 (x0.at_ + 1)) - 1)) c9.1 c9.2
   refine si rfl hk rfl rfl rfl rfl un22 sz5 c9.1 c9.2 hAc9 fun a hk => ?_
   refine se (hs.pick [(1, 1)] rfl) hk (hK_r8_15 _ _ ?_)
   refine ta1 hk rfl rfl rfl (fun K_r8_16 hK_r8_16 w hF => ?_) wt2_stop
   have hs := hs.f hF
   obtain ⟨_, rfl, e12⟩ := (v0_0).at_ 0 (w64 ((w64 (x0.at_ + 1)) - 1)) c9.1 c9.2
   refine sl (v := (.int .u8 (x0.code.getD (w64 ((w64 (x0.at_ + 1)) - 1)).toNat 0))) rfl hk rfl rfl rfl ag5 ((e12 0 _ rfl).cell (hs.hasD (k := 2) rfl)) fun a hk => ?_
   refine se (hs.pick [(1, 1)] rfl) hk (hK_r8_16 _ _ ?_)
   refine ta1 hk rfl rfl rfl (fun K_r8_17 hK_r8_17 w hF => ?_) wt2_stop
   have hs := hs.f hF
   refine scn rfl hk rfl rfl rfl un3 un5 fun a hk => ?_
   refine se (hs.pick [(1, 1)] rfl) hk (hK_r8_17 _ _ ?_)
   refine ta1 hk rfl rfl rfl (fun K_r8_18 hK_r8_18 w hF => ?_) wt2_stop
   have hs := hs.f hF
   refine sv (.int .i64 (w64 ((w64 (x0.seed * 31)) + (IntKind.wrap .i64 (x0.code.getD (w64 ((w64 (x0.at_ + 1)) - 1)).toNat 0))))) hk rfl rfl rfl fun a hk => ?_
   refine se (hs.pick [(1, 1)] rfl) hk (hK_r8_18 _ _ ?_)
   refine ta1 hk rfl rfl rfl (fun K_r8_19 hK_r8_19 w hF => ?_) wt2_stop
   have hs := hs.f hF
   refine sv (.int .i64 (w64 ((w64 ((w64 (x0.seed * 31)) + (IntKind.wrap .i64 (x0.code.getD (w64 ((w64 (x0.at_ + 1)) - 1)).toNat 0)))) + 7))) hk rfl rfl rfl fun a hk => ?_
   refine se (hs.pick [(1, 1)] rfl) hk (hK_r8_19 _ _ ?_)
   refine ta1 hk rfl rfl rfl (fun K_r8_20 hK_r8_20 w hF => ?_) wt2_stop
   have hs := hs.f hF
   refine sv (.int .i64 (Int.tmod (w64 ((w64 ((w64 (x0.seed * 31)) + (IntKind.wrap .i64 (x0.code.getD (w64 ((w64 (x0.at_ + 1)) - 1)).toNat 0)))) + 7)) 2147483648)) hk rfl rfl rfl fun a hk => ?_
   refine se (hs.pick [(1, 1)] rfl) hk (hK_r8_20 _ _ ?_)
   refine tam hk rfl rfl rfl (fun K_r8_21 hK_r8_21 w hF => ?_) wt2_stop
   have hs := hs.f hF
   refine snk rfl hk rfl rfl rfl fun a hk => ?_
   refine se (hs.pick [] rfl) hk (hK_r8_21 _ _ ?_)
   refine ta2 hk rfl rfl (fun K_r8_22 hK_r8_22 w hF => ?_) wt2_stop
   have hs := hs.f hF
   refine sf ⟨b0_, 2, none⟩ rfl hk rfl rfl rfl fd84_2 rfl fun a hk => ?_
   refine se (hs.pick [] rfl) hk (hK_r8_22 _ _ ?_)
   refine ta2 hk rfl rfl (fun K_r8_23 hK_r8_23 w hF => ?_) wt2_stop
   have hs := hs.f hF
   refine ssx (cs' := #[.slice A0_0 x0.code.length p0_0, .int .i64 (w64 (x0.at_ + 1)), .int .i64 (Int.tmod (w64 ((w64 ((w64 (x0.seed * 31)) + (IntKind.wrap .i64 (x0.code.getD (w64 ((w64 (x0.at_ + 1)) - 1)).toNat 0)))) + 7)) 2147483648)]) 1 hs rfl rfl hk rfl rfl rfl rfl sz3 rfl rfl rfl rfl fun w a hk hs => ?_
   refine se (hs.pick [] rfl) hk (hK_r8_23 _ _ ?_)
   refine wtl2_nil fun w hF => ?_
   have hs := hs.f hF
   refine hK7 _ _ ?_
   have hs := hs.pick [(1, 1)] rfl
   apply wp_seq_k; intro K13 hK13
   refine wp_region_tree (.q 0 (.q 1 (.q 2 (.q 3 (.alt 4 (.alt 5 (.alt 6 (.alt 7 (.alt 8 (.alt 9 (.alt 10 (.alt 11 (.last 12) .stop) .stop) .stop) .stop) .stop) .stop) .stop) .stop))))) mo (by kernel_rfl) (hs.pick [(1, 1)] rfl) fun _ => ?_
   have hs := hs.drew
   refine tqst (.pointer (some ⟨b0_, 0, none⟩)) hk rfl rfl rfl rfl (fun w hs => sm _ rfl hk rfl rfl rfl fun a hk => qe hk) fun a hk => ?_
   refine tqst (.pointer (some ⟨b0_, 0, none⟩)) hk rfl rfl rfl rfl (fun w hs => snk rfl hk rfl rfl rfl fun a hk => qe hk) fun a hk => ?_
   refine tqst (.pointer (some ⟨b0_, 0, none⟩)) hk rfl rfl rfl rfl (fun w hs => sf ⟨b0_, 0, none⟩ rfl hk rfl rfl rfl fd84_0 rfl fun a hk => qe hk) fun a hk => ?_
   refine tqst (.slice A0_0 x0.code.length p0_0) hk rfl rfl rfl rfl (fun w hs => sl rfl hk rfl rfl rfl ag22 (box_cell hs (k := 1) rfl rfl) fun a hk => qe hk) fun a hk => ?_
   refine tsst hk rfl rfl (fun K_r14_4 hK_r14_4 w hF => ?_) wt_stop
   have hs := hs.f hF
   refine sm _ rfl hk rfl rfl rfl fun a hk => ?_
   refine se (hs.pick [(1, 1)] rfl) hk (hK_r14_4 _ _ ?_)
   refine tsst hk rfl rfl (fun K_r14_5 hK_r14_5 w hF => ?_) wt_stop
   have hs := hs.f hF
   refine snk rfl hk rfl rfl rfl fun a hk => ?_
   refine se (hs.pick [(1, 1)] rfl) hk (hK_r14_5 _ _ ?_)
   refine tsst hk rfl rfl (fun K_r14_6 hK_r14_6 w hF => ?_) wt_stop
   have hs := hs.f hF
   refine sf ⟨b0_, 1, none⟩ rfl hk rfl rfl rfl fd84_1 rfl fun a hk => ?_
   refine se (hs.pick [(1, 1)] rfl) hk (hK_r14_6 _ _ ?_)
   refine tsst hk rfl rfl (fun K_r14_7 hK_r14_7 w hF => ?_) wt_stop
   have hs := hs.f hF
   refine sl rfl hk rfl rfl rfl ag3 (box_cell hs (k := 1) rfl rfl) fun a hk => ?_
   refine se (hs.pick [(1, 1)] rfl) hk (hK_r14_7 _ _ ?_)
   refine tsst hk rfl rfl (fun K_r14_8 hK_r14_8 w hF => ?_) wt_stop
   have hs := hs.f hF
   refine sv (.int .i64 (w64 ((w64 (x0.at_ + 1)) - 1))) hk rfl rfl rfl fun a hk => ?_
   refine se (hs.pick [(1, 1)] rfl) hk (hK_r14_8 _ _ ?_)
   refine tsst hk rfl rfl (fun K_r14_9 hK_r14_9 w hF => ?_) wt_stop
   have hs := hs.f hF
   rcases ite_some H with ⟨c15, H⟩ | ⟨_, H⟩
   rotate_left
   ·cases H
   obtain ⟨b16, q17, hAc15⟩ := (v0_0).some_ (w64 ((w64 (x0.at_ + 1)) - 1)) c15.1 c15.2
   refine si rfl hk rfl rfl rfl rfl un22 sz5 c15.1 c15.2 hAc15 fun a hk => ?_
   refine se (hs.pick [(1, 1)] rfl) hk (hK_r14_9 _ _ ?_)
   refine tsst hk rfl rfl (fun K_r14_10 hK_r14_10 w hF => ?_) wt_stop
   have hs := hs.f hF
   obtain ⟨_, rfl, e18⟩ := (v0_0).at_ 0 (w64 ((w64 (x0.at_ + 1)) - 1)) c15.1 c15.2
   refine sl (v := (.int .u8 (x0.code.getD (w64 ((w64 (x0.at_ + 1)) - 1)).toNat 0))) rfl hk rfl rfl rfl ag5 ((e18 0 _ rfl).cell (hs.hasD (k := 2) rfl)) fun a hk => ?_
   refine se (hs.pick [(1, 1)] rfl) hk (hK_r14_10 _ _ ?_)
   refine tsst hk rfl rfl (fun K_r14_11 hK_r14_11 w hF => ?_) wt_stop
   have hs := hs.f hF
   refine scn rfl hk rfl rfl rfl un3 un5 fun a hk => ?_
   refine se (hs.pick [(1, 1)] rfl) hk (hK_r14_11 _ _ ?_)
   refine tlst hk rfl rfl fun K_r14_12 hK_r14_12 w hF => ?_
   have hs := hs.f hF
   refine sa _ rfl hk rfl rfl rfl fun a hk => ?_
   refine se trivial hk (hK_r14_12 _ _ fun w hF => ?_)
   have hs := hs.f hF
   refine hK13 _ _ ?_
   refine wp_ret ?_
   obtain rfl := Option.some.inj H
   exact fin hk _ [(.int .i64 (IntKind.wrap .i64 (x0.code.getD (w64 ((w64 (x0.at_ + 1)) - 1)).toNat 0)))] rfl ⟨rfl, trivial⟩ ⟨rfl, (hs.pick [(0, 1)] rfl).dnil⟩
  ·have hk := hk.lit 19 c6 rfl
   refine cnd_false hk rfl rfl ?_
   refine wp_skip ?_
   refine hK3 _ _ ?_
   have hs := hs.pick [(1, 1)] rfl
   apply wp_seq_k; intro K19 hK19
   apply wp_seq_k; intro K20 hK20
   apply wp_region_lit
   refine sm _ rfl hk rfl rfl rfl fun a hk => ?_
   refine snk rfl hk rfl rfl rfl fun a hk => ?_
   refine sf ⟨b0_, 1, none⟩ rfl hk rfl rfl rfl fd84_1 rfl fun a hk => ?_
   refine sl rfl hk rfl rfl rfl ag3 (box_cell hs (k := 1) rfl rfl) fun a hk => ?_
   refine sv (.bool (decide ((w64 (x0.at_ + 1)) > 3000))) hk rfl rfl rfl fun a hk => ?_
   show wpList _ _ _ [] _ _
   refine wpList_nil ?_
   refine hK20 _ _ ?_
   rcases cond_some H with ⟨c21, H⟩ | ⟨c21, H⟩
   ·have hk := hk.lit 59 c21 rfl
    refine cnd_true hk rfl rfl ?_
    apply wp_seq_k; intro K22 hK22
    apply wp_region_lit
    refine sa _ rfl hk rfl rfl rfl fun a hk => ?_
    show wpList _ _ _ [] _ _
    refine wpList_nil ?_
    refine hK22 _ _ ?_
    refine wp_ret ?_
    obtain rfl := Option.some.inj H
    exact fin hk _ [(.int .i64 0)] rfl ⟨rfl, trivial⟩ ⟨rfl, (hs.pick [(0, 1)] rfl).dnil⟩
   ·have hk := hk.lit 59 c21 rfl
    refine cnd_false hk rfl rfl ?_
    refine wp_skip ?_
    refine hK19 _ _ ?_
    apply wp_seq_k; intro K23 hK23
    apply wp_region_lit
    refine sm _ rfl hk rfl rfl rfl fun a hk => ?_
    refine sm _ rfl hk rfl rfl rfl fun a hk => ?_
    refine snk rfl hk rfl rfl rfl fun a hk => ?_
    refine sf ⟨b0_, 2, none⟩ rfl hk rfl rfl rfl fd84_2 rfl fun a hk => ?_
    refine sl rfl hk rfl rfl rfl ag3 (box_cell hs (k := 1) rfl rfl) fun a hk => ?_
    refine sv (.int .i64 (w64 (x0.seed * 1103515245))) hk rfl rfl rfl fun a hk => ?_
    refine sv (.int .i64 (w64 ((w64 (x0.seed * 1103515245)) + 12345))) hk rfl rfl rfl fun a hk => ?_
    refine sv (.int .i64 (Int.tmod (w64 ((w64 (x0.seed * 1103515245)) + 12345)) 2147483648)) hk rfl rfl rfl fun a hk => ?_
    refine snk rfl hk rfl rfl rfl fun a hk => ?_
    refine sf ⟨b0_, 2, none⟩ rfl hk rfl rfl rfl fd84_2 rfl fun a hk => ?_
    refine ssx (cs' := #[.slice A0_0 x0.code.length p0_0, .int .i64 (w64 (x0.at_ + 1)), .int .i64 (Int.tmod (w64 ((w64 (x0.seed * 1103515245)) + 12345)) 2147483648)]) 1 hs rfl rfl hk rfl rfl rfl rfl sz3 rfl rfl rfl rfl fun w a hk hs => ?_
    show wpList _ _ _ [] _ _
    refine wpList_nil ?_
    refine hK23 _ _ ?_
    apply wp_seq_k; intro K24 hK24
    apply wp_region_lit
    refine sm _ rfl hk rfl rfl rfl fun a hk => ?_
    refine snk rfl hk rfl rfl rfl fun a hk => ?_
    refine sf ⟨b0_, 2, none⟩ rfl hk rfl rfl rfl fd84_2 rfl fun a hk => ?_
    refine sl rfl hk rfl rfl rfl ag3 (box_cell hs (k := 1) rfl rfl) fun a hk => ?_
    refine sv (.int .i64 (IntKind.wrap .i64 (Int.tdiv (Int.tmod (w64 ((w64 (x0.seed * 1103515245)) + 12345)) 2147483648) 65536))) hk rfl rfl rfl fun a hk => ?_
    refine sv (.int .i64 (Int.tmod (IntKind.wrap .i64 (Int.tdiv (Int.tmod (w64 ((w64 (x0.seed * 1103515245)) + 12345)) 2147483648) 65536)) 256)) hk rfl rfl rfl fun a hk => ?_
    refine sa _ rfl hk rfl rfl rfl fun a hk => ?_
    show wpList _ _ _ [] _ _
    refine wpList_nil ?_
    refine hK24 _ _ ?_
    have hs := hs.pick [(1, 1)] rfl
    refine wp_ret ?_
    obtain rfl := Option.some.inj H
    exact fin hk _ [(.int .i64 (Int.tmod (IntKind.wrap .i64 (Int.tdiv (Int.tmod (w64 ((w64 (x0.seed * 1103515245)) + 12345)) 2147483648) 65536)) 256))] rfl ⟨rfl, trivial⟩ ⟨rfl, (hs.pick [(0, 1)] rfl).dnil⟩

noncomputable def spec_l00Src_next.f (x0 : S_l00Src) (x1 : Int) : Option (Int × Int × Int) :=
  (bif (decide (x1 ≤ 1)) then (some (0, x0.at_, x0.seed)) else (bif (decide (x1 ≤ 256)) then ((spec_l00Src_byte.f x0).bind fun y10 => (if x1 = 0 then none else (some ((Int.tmod y10.1 x1), y10.2.1, y10.2.2)))) else ((spec_l00Src_byte.f x0).bind fun y14 => ((spec_l00Src_byte.f (⟨x0.code, y14.2.1, y14.2.2⟩ : S_l00Src)).bind fun y17 => ((spec_l00Src_byte.f (⟨x0.code, y17.2.1, y17.2.2⟩ : S_l00Src)).bind fun y20 => (if x1 = 0 then none else (some ((Int.tmod (w64 ((w64 ((w64 (y14.1 * 65536)) + (w64 (y17.1 * 256)))) + y20.1)) x1), y20.2.1, y20.2.2))))))))
set_option maxRecDepth 100000 in
set_option maxHeartbeats 0 in
theorem spec_l00Src_next_t (w0 : World) (b0_ : Nat) (x0 : S_l00Src) (A0_0 : Option Addr) (p0_0 : Nat) (k0_0 : Chunk) (v0_0 : View (Lay.int .u8) A0_0 p0_0 x0.code k0_0) (w0_0 : Has w0 k0_0) (x1 : Int) (hs0 : Sat (blks [(1, [(b0_, .cells #[.slice A0_0 x0.code.length p0_0, .int .i64 x0.at_, .int .i64 x0.seed] 84 (0, 0))])]) w0 w0 [(2, k0_0)] [(1, [(b0_, .cells #[.slice A0_0 x0.code.length p0_0, .int .i64 x0.at_, .int .i64 x0.seed] 84 (0, 0))])]) (r : Int × Int × Int) (H : spec_l00Src_next.f x0 x1 = some r) :
    Calls Try.prog 86 #[.pointer (some ⟨b0_, 0, none⟩), .int .i64 x1] w0 (Ret (fun v w => v = .int .i64 r.1 ∧ Sat (blks [(1, [(b0_, .cells #[.slice A0_0 x0.code.length p0_0, .int .i64 x0.at_, .int .i64 x0.seed] 84 (0, 0))])]) w0 w [] [(0, [(b0_, .cells #[.slice A0_0 x0.code.length p0_0, .int .i64 r.2.1, .int .i64 r.2.2] 84 (0, 0))])])) := by
  have hs := hs0
  unfold spec_l00Src_next.f at H
  refine enter Try.func86 rfl Try.ntmps86 rfl fun a hk => ?_
  apply wp_seq_k; intro K1 hK1
  apply wp_region_lit
  refine sa _ rfl hk rfl rfl rfl fun a hk => ?_
  show wpList _ _ _ [] _ _
  refine wpList_nil ?_
  refine hK1 _ _ ?_
  apply wp_seq_k; intro K2 hK2
  apply wp_seq_k; intro K3 hK3
  apply wp_region_lit
  refine sm _ rfl hk rfl rfl rfl fun a hk => ?_
  refine sv (.bool (decide (x1 ≤ 1))) hk rfl rfl rfl fun a hk => ?_
  show wpList _ _ _ [] _ _
  refine wpList_nil ?_
  refine hK3 _ _ ?_
  rcases cond_some H with ⟨c4, H⟩ | ⟨c4, H⟩
  ·have hk := hk.lit 9 c4 rfl
   refine cnd_true hk rfl rfl ?_
   apply wp_seq_k; intro K5 hK5
   apply wp_region_lit
   refine sa _ rfl hk rfl rfl rfl fun a hk => ?_
   show wpList _ _ _ [] _ _
   refine wpList_nil ?_
   refine hK5 _ _ ?_
   refine wp_ret ?_
   obtain rfl := Option.some.inj H
   exact fin hk _ [(.int .i64 0)] rfl ⟨rfl, trivial⟩ ⟨rfl, (hs.pick [(0, 1)] rfl).dnil⟩
  ·have hk := hk.lit 9 c4 rfl
   refine cnd_false hk rfl rfl ?_
   refine wp_skip ?_
   refine hK2 _ _ ?_
   apply wp_seq_k; intro K6 hK6
   apply wp_seq_k; intro K7 hK7
   apply wp_region_lit
   refine sm _ rfl hk rfl rfl rfl fun a hk => ?_
   refine sv (.bool (decide (x1 ≤ 256))) hk rfl rfl rfl fun a hk => ?_
   show wpList _ _ _ [] _ _
   refine wpList_nil ?_
   refine hK7 _ _ ?_
   have hs := hs.pick [(1, 1)] rfl
   rcases cond_some H with ⟨c8, H⟩ | ⟨c8, H⟩
   ·have hk := hk.lit 11 c8 rfl
    refine cnd_true hk rfl rfl ?_
    apply wp_seq_k; intro K9 hK9
    apply wp_region_lit
    refine sm _ rfl hk rfl rfl rfl fun a hk => ?_
    obtain ⟨y10, h11, H⟩ := bind_some H
    refine sc rfl en119 hk rfl rfl rfl (spec_l00Src_byte_t _ b0_ x0 A0_0 p0_0 _ v0_0 (hs.hasD (k := 2) rfl) ((hs.hand [(1, 1)] rfl).dpick [(2, 2)] rfl) _ h11) ?_
    rintro _ w ⟨rfl, hG⟩ a hk
    have hs := hs.back [(1, 1)] rfl hG [1] rfl
    refine sm _ rfl hk rfl rfl rfl fun a hk => ?_
    rcases ite_some H with ⟨_, H⟩ | ⟨c12, H⟩
    ·cases H
    refine srm rfl hk rfl rfl rfl rfl c12 fun a hk => ?_
    refine sa _ rfl hk rfl rfl rfl fun a hk => ?_
    show wpList _ _ _ [] _ _
    refine wpList_nil ?_
    refine hK9 _ _ ?_
    refine wp_ret ?_
    obtain rfl := Option.some.inj H
    exact fin hk _ [(.int .i64 (Int.tmod y10.1 x1))] rfl ⟨rfl, trivial⟩ ⟨rfl, (hs.pick [(0, 1)] rfl).dnil⟩
   ·have hk := hk.lit 11 c8 rfl
    refine cnd_false hk rfl rfl ?_
    refine wp_skip ?_
    refine hK6 _ _ ?_
    apply wp_seq_k; intro K13 hK13
    apply wp_region_lit
    refine sm _ rfl hk rfl rfl rfl fun a hk => ?_
    obtain ⟨y14, h15, H⟩ := bind_some H
    refine sc rfl en119 hk rfl rfl rfl (spec_l00Src_byte_t _ b0_ x0 A0_0 p0_0 _ v0_0 (hs.hasD (k := 2) rfl) ((hs.hand [(1, 1)] rfl).dpick [(2, 2)] rfl) _ h15) ?_
    rintro _ w ⟨rfl, hG⟩ a hk
    have hs := hs.back [(1, 1)] rfl hG [1] rfl
    refine sa _ rfl hk rfl rfl rfl fun a hk => ?_
    show wpList _ _ _ [] _ _
    refine wpList_nil ?_
    refine hK13 _ _ ?_
    apply wp_seq_k; intro K16 hK16
    apply wp_region_lit
    refine sm _ rfl hk rfl rfl rfl fun a hk => ?_
    obtain ⟨y17, h18, H⟩ := bind_some H
    refine sc rfl en119 hk rfl rfl rfl (spec_l00Src_byte_t _ b0_ (⟨x0.code, y14.2.1, y14.2.2⟩ : S_l00Src) A0_0 p0_0 _ v0_0 (hs.hasD (k := 2) rfl) ((hs.hand [(1, 1)] rfl).dpick [(2, 2)] rfl) _ h18) ?_
    rintro _ w ⟨rfl, hG⟩ a hk
    have hs := hs.back [(1, 1)] rfl hG [1] rfl
    refine sa _ rfl hk rfl rfl rfl fun a hk => ?_
    show wpList _ _ _ [] _ _
    refine wpList_nil ?_
    refine hK16 _ _ ?_
    apply wp_seq_k; intro K19 hK19
    apply wp_region_lit
    refine sm _ rfl hk rfl rfl rfl fun a hk => ?_
    obtain ⟨y20, h21, H⟩ := bind_some H
    refine sc rfl en119 hk rfl rfl rfl (spec_l00Src_byte_t _ b0_ (⟨x0.code, y17.2.1, y17.2.2⟩ : S_l00Src) A0_0 p0_0 _ v0_0 (hs.hasD (k := 2) rfl) ((hs.hand [(1, 1)] rfl).dpick [(2, 2)] rfl) _ h21) ?_
    rintro _ w ⟨rfl, hG⟩ a hk
    have hs := hs.back [(1, 1)] rfl hG [1] rfl
    refine sa _ rfl hk rfl rfl rfl fun a hk => ?_
    show wpList _ _ _ [] _ _
    refine wpList_nil ?_
    refine hK19 _ _ ?_
    have hs := hs.pick [(1, 1)] rfl
    apply wp_seq_k; intro K22 hK22
    apply wp_region_lit
    refine sm _ rfl hk rfl rfl rfl fun a hk => ?_
    refine sv (.int .i64 (w64 (y14.1 * 65536))) hk rfl rfl rfl fun a hk => ?_
    refine sm _ rfl hk rfl rfl rfl fun a hk => ?_
    refine sv (.int .i64 (w64 (y17.1 * 256))) hk rfl rfl rfl fun a hk => ?_
    refine sv (.int .i64 (w64 ((w64 (y14.1 * 65536)) + (w64 (y17.1 * 256))))) hk rfl rfl rfl fun a hk => ?_
    refine sm _ rfl hk rfl rfl rfl fun a hk => ?_
    refine sv (.int .i64 (w64 ((w64 ((w64 (y14.1 * 65536)) + (w64 (y17.1 * 256)))) + y20.1))) hk rfl rfl rfl fun a hk => ?_
    refine sm _ rfl hk rfl rfl rfl fun a hk => ?_
    rcases ite_some H with ⟨_, H⟩ | ⟨c23, H⟩
    ·cases H
    refine srm rfl hk rfl rfl rfl rfl c23 fun a hk => ?_
    refine sa _ rfl hk rfl rfl rfl fun a hk => ?_
    show wpList _ _ _ [] _ _
    refine wpList_nil ?_
    refine hK22 _ _ ?_
    refine wp_ret ?_
    obtain rfl := Option.some.inj H
    exact fin hk _ [(.int .i64 (Int.tmod (w64 ((w64 ((w64 (y14.1 * 65536)) + (w64 (y17.1 * 256)))) + y20.1)) x1))] rfl ⟨rfl, trivial⟩ ⟨rfl, (hs.pick [(0, 1)] rfl).dnil⟩

noncomputable def spec_l00Src_bytes.s0 (x0 : S_l00Src) (x1 : Int) (u17 : List Int) (u14 : Int) (u15 : Int) (u16 : Int) : Option (((List Int) × Int × Int × Int) ⊕ Ex ((List Int) × Int × Int) (ByteArray × Int × Int)) :=
  (bif (decide (u14 < x1)) then ((spec_l00Src_next.f (⟨x0.code, u15, u16⟩ : S_l00Src) 256).bind fun y41 => (if u17.length + ([(IntKind.wrap .u8 y41.1)]).length ≤ 1073741824 then (some (.inl ((u17 ++ ([(IntKind.wrap .u8 y41.1)])), (w64 (u14 + 1)), y41.2.1, y41.2.2))) else none)) else (some (.inr (.out (u17, u15, u16)))))
noncomputable def spec_l00Src_bytes.f (x0 : S_l00Src) (x1 : Int) : Option (ByteArray × Int × Int) :=
  ((loopO (fun s => spec_l00Src_bytes.s0 x0 x1 s.1 s.2.1 s.2.2.1 s.2.2.2) (([] : List Int), 0, x0.at_, x0.seed)).bind fun o => match o with | .out (u22, u27, u28) => (some ((strOfNums u22), u27, u28)) | .ret r => (some r))
set_option maxRecDepth 100000 in
set_option maxHeartbeats 0 in
theorem spec_l00Src_bytes_t (w0 : World) (b0_ : Nat) (x0 : S_l00Src) (A0_0 : Option Addr) (p0_0 : Nat) (k0_0 : Chunk) (v0_0 : View (Lay.int .u8) A0_0 p0_0 x0.code k0_0) (w0_0 : Has w0 k0_0) (x1 : Int) (hs0 : Sat (blks [(1, [(b0_, .cells #[.slice A0_0 x0.code.length p0_0, .int .i64 x0.at_, .int .i64 x0.seed] 84 (0, 0))])]) w0 w0 [(2, k0_0)] [(1, [(b0_, .cells #[.slice A0_0 x0.code.length p0_0, .int .i64 x0.at_, .int .i64 x0.seed] 84 (0, 0))])]) (r : ByteArray × Int × Int) (H : spec_l00Src_bytes.f x0 x1 = some r) :
    Calls Try.prog 59 #[.pointer (some ⟨b0_, 0, none⟩), .int .i64 x1] w0 (Ret (fun v w => v = .string r.1 ∧ Sat (blks [(1, [(b0_, .cells #[.slice A0_0 x0.code.length p0_0, .int .i64 x0.at_, .int .i64 x0.seed] 84 (0, 0))])]) w0 w [] [(0, [(b0_, .cells #[.slice A0_0 x0.code.length p0_0, .int .i64 r.2.1, .int .i64 r.2.2] 84 (0, 0))])])) := by
  have hs := hs0
  unfold spec_l00Src_bytes.f at H
  refine enter Try.func59 rfl Try.ntmps59 rfl fun a hk => ?_
  apply wp_seq_k; intro K1 hK1
  apply wp_region_lit
  refine sa _ rfl hk rfl rfl rfl fun a hk => ?_
  show wpList _ _ _ [] _ _
  refine wpList_nil ?_
  refine hK1 _ _ ?_
  apply wp_seq_k; intro K2 hK2
  apply wp_region_lit
  refine sbs0 3 (Lay.int .u8) hs rfl hk rfl rfl un22 sz5 fun b3 k4 w a hk o5 hs => ?_
  refine sa _ rfl hk rfl rfl rfl fun a hk => ?_
  show wpList _ _ _ [] _ _
  refine wpList_nil ?_
  refine hK2 _ _ ?_
  apply wp_seq_k; intro K6 hK6
  apply wp_seq_k; intro K7 hK7
  apply wp_region_lit
  refine sa _ rfl hk rfl rfl rfl fun a hk => ?_
  show wpList _ _ _ [] _ _
  refine wpList_nil ?_
  refine hK7 _ _ ?_
  obtain ⟨o29, h30, HL31⟩ := bind_some H
  clear H
  obtain ⟨R32, hR32⟩ : ∃ R : Act → World → Prop, R = fun a w => ∃ (u22 : List Int) (u27 : Int) (u28 : Int) (A25 : Option Addr) (p26 : Nat) (k23 : Chunk), o29 = .out (u22, u27, u28) ∧ Kn [(0, (.pointer (some ⟨b0_, 0, none⟩))), (5, (.slice A25 u22.length p26))] 21 a ∧ Sat (blks [(1, [(b0_, .cells #[.slice A0_0 x0.code.length p0_0, .int .i64 x0.at_, .int .i64 x0.seed] 84 (0, 0))])]) w0 w [(2, k0_0)] [(3, k23), (1, [(b0_, .cells #[.slice A0_0 x0.code.length p0_0, .int .i64 u27, .int .i64 u28] 84 (0, 0))])] ∧ Own (Lay.int .u8) 5 A25 p26 u22 k23 := ⟨_, rfl⟩
  refine wp_cutq R32 ?_ ?_
  ·refine wp_block ?_
   obtain ⟨fu34, h30⟩ := loopO_some h30
   obtain ⟨I33, hI33⟩ : ∃ I : Nat → Act → World → Prop, I = fun fu a w => ∃ (u17 : List Int) (u14 : Int) (u15 : Int) (u16 : Int) (A20 : Option Addr) (p21 : Nat) (k18 : Chunk), loopN (fun s => spec_l00Src_bytes.s0 x0 x1 s.1 s.2.1 s.2.2.1 s.2.2.2) fu (u17, u14, u15, u16) = some o29 ∧ Kn [(0, (.pointer (some ⟨b0_, 0, none⟩))), (1, (.int .i64 x1)), (5, (.slice A20 u17.length p21)), (6, (.int .i64 u14))] 21 a ∧ Sat (blks [(1, [(b0_, .cells #[.slice A0_0 x0.code.length p0_0, .int .i64 x0.at_, .int .i64 x0.seed] 84 (0, 0))])]) w0 w [(2, k0_0)] [(3, k18), (1, [(b0_, .cells #[.slice A0_0 x0.code.length p0_0, .int .i64 u15, .int .i64 u16] 84 (0, 0))])] ∧ Own (Lay.int .u8) 5 A20 p21 u17 k18 := ⟨_, rfl⟩
   refine wp_loop_ghost I33 fu34 ?_ ?_
   ·rw [hI33]
    exact ⟨([] : List Int), 0, x0.at_, x0.seed, (some ⟨b3, 0, none⟩), 0, _, h30, (hk.c 0 rfl (hk.c 1 rfl (hk.c 5 rfl (hk.c 6 rfl hk.k)))), (hs.pick [(3, 3), (1, 1)] rfl), o5⟩
   ·clear h30 hk hs
    intro fu34 a w hI0
    rw [hI33] at hI0
    obtain ⟨u17, u14, u15, u16, A20, p21, k18, hi, hk, hs, o19⟩ := hI0
    obtain ⟨x35, H, h36⟩ := loop_round hi
    try dsimp only at H
    unfold spec_l00Src_bytes.s0 at H
    apply wp_seq_k; intro K37 hK37
    apply wp_seq_k; intro K38 hK38
    apply wp_region_lit
    refine sm _ rfl hk rfl rfl rfl fun a hk => ?_
    refine sm _ rfl hk rfl rfl rfl fun a hk => ?_
    refine sv (.bool (decide (u14 < x1))) hk rfl rfl rfl fun a hk => ?_
    show wpList _ _ _ [] _ _
    refine wpList_nil ?_
    refine hK38 _ _ ?_
    have hs := hs.pick [(3, 3), (1, 1)] rfl
    rcases cond_some H with ⟨c39, H⟩ | ⟨c39, H⟩
    ·have hk := hk.lit 10 c39 rfl
     refine cnd_true hk rfl rfl ?_
     refine wp_skip ?_
     refine hK37 _ _ ?_
     apply wp_seq_k; intro K40 hK40
     refine wp_block ?_
     apply wp_region_lit
     refine sm _ rfl hk rfl rfl rfl fun a hk => ?_
     refine sm _ rfl hk rfl rfl rfl fun a hk => ?_
     obtain ⟨y41, h42, H⟩ := bind_some H
     refine sc rfl en86 hk rfl rfl rfl (spec_l00Src_next_t _ b0_ (⟨x0.code, u15, u16⟩ : S_l00Src) A0_0 p0_0 _ v0_0 (hs.hasD (k := 2) rfl) 256 ((hs.hand [(1, 1)] rfl).dpick [(2, 2)] rfl) _ h42) ?_
     rintro _ w ⟨rfl, hG⟩ a hk
     have hs := hs.back [(1, 1)] rfl hG [1] rfl
     refine scn rfl hk rfl rfl rfl un5 un3 fun a hk => ?_
     refine sbs (L := (Lay.int .u8)) (pv := [(0, (.int .u8 (IntKind.wrap .u8 y41.1)))]) (xs := [(IntKind.wrap .u8 y41.1)]) (ess := [[.int .u8 (IntKind.wrap .u8 y41.1)]]) 5 hs rfl hk rfl rfl rfl un22 (bs5_1 (IntKind.wrap .u8 y41.1)) (AllOwn.cons0 ⟨rfl, rfl⟩ AllOwn.nil) rfl rfl rfl fun b43 k44 w a hk o45 hs => ?_
     rcases ite_some H with ⟨c46, H⟩ | ⟨_, H⟩
     rotate_left
     ·cases H
     refine sap 3 (xs := u17) (ys := [(IntKind.wrap .u8 y41.1)]) (flat_flat : ((Lay.int .u8)).Flat) hs rfl o19 o45.view (hs.hasG (k := 5) rfl) rfl hk rfl rfl rfl rfl rfl rfl un22 mk5 rfl rfl rfl c46 fun A47 p48 k49 w a hk o50 hs => ?_
     refine sa _ rfl hk rfl rfl rfl fun a hk => ?_
     show wpList _ _ _ [] _ _
     refine wpList_nil ?_
     refine hK40 _ _ ?_
     apply wp_region_lit
     refine sm _ rfl hk rfl rfl rfl fun a hk => ?_
     refine sv (.int .i64 (w64 (u14 + 1))) hk rfl rfl rfl fun a hk => ?_
     refine sa _ rfl hk rfl rfl rfl fun a hk => ?_
     show wpList _ _ _ [] _ _
     refine wpList_nil ?_
     obtain rfl := Option.some.inj H
     obtain ⟨m51, hmm51, h36⟩ := h36
     show ∃ n', n' < _ ∧ I33 n' _ _
     refine ⟨m51, hmm51, ?_⟩
     rw [hI33]
     exact ⟨(u17 ++ ([(IntKind.wrap .u8 y41.1)])), (w64 (u14 + 1)), y41.2.1, y41.2.2, A47, p48, _, h36, (hk.c 0 rfl (hk.c 1 rfl (hk.c 5 rfl (hk.c 6 rfl hk.k)))), (hs.pick [(3, 3), (1, 1)] rfl), o50⟩
    ·have hk := hk.lit 10 c39 rfl
     refine cnd_false hk rfl rfl ?_
     refine wp_exit ?_
     obtain rfl := Option.some.inj H
     show R32 _ _
     rw [hR32]
     exact ⟨u17, u15, u16, A20, p21, _, h36.symm, (hk.c 0 rfl (hk.c 5 rfl hk.k)), (hs.pick [(3, 3), (1, 1)] rfl), o19⟩
  ·intro a w hR0
   rw [hR32] at hR0
   obtain ⟨u22, u27, u28, A25, p26, k23, rfl, hk, hs, o24⟩ := hR0
   have H := HL31
   try dsimp only at H
   refine hK6 _ _ ?_
   have hs := hs.pick [(3, 3), (1, 1)] rfl
   apply wp_seq_k; intro K52 hK52
   apply wp_region_lit
   refine sm _ rfl hk rfl rfl rfl fun a hk => ?_
   refine sbt (xs := u22) rfl hk rfl rfl rfl rfl un22 un5 un9 o24.view (hs.hasG (k := 3) rfl) fun a hk => ?_
   refine sa _ rfl hk rfl rfl rfl fun a hk => ?_
   show wpList _ _ _ [] _ _
   refine wpList_nil ?_
   refine hK52 _ _ ?_
   refine wp_ret ?_
   obtain rfl := Option.some.inj H
   exact fin hk _ [(.string (strOfNums u22))] rfl ⟨rfl, trivial⟩ ⟨rfl, (hs.pick [(0, 1)] rfl).dnil⟩

noncomputable def spec_l00Src_text.f (x0 : S_l00Src) : Option (ByteArray × Int × Int) :=
  ((spec_l00Src_next.f x0 9).bind fun y3 => ((spec_l00Src_next.f (⟨x0.code, y3.2.1, y3.2.2⟩ : S_l00Src) 200).bind fun y5 => ((spec_l00Src_next.f (⟨x0.code, y5.2.1, y5.2.2⟩ : S_l00Src) 6).bind fun y10 => (if 0 ≤ y10.1 ∧ y10.1 < (6 : Int) then ((spec_l00Src_bytes.f (⟨x0.code, y10.2.1, y10.2.2⟩ : S_l00Src) (([y3.1, 55, 56, 63, 64, y5.1]).getD (y10.1).toNat 0)).bind fun y16 => (some (y16.1, y16.2.1, y16.2.2))) else none))))
set_option maxRecDepth 100000 in
set_option maxHeartbeats 0 in
theorem spec_l00Src_text_t (w0 : World) (b0_ : Nat) (x0 : S_l00Src) (A0_0 : Option Addr) (p0_0 : Nat) (k0_0 : Chunk) (v0_0 : View (Lay.int .u8) A0_0 p0_0 x0.code k0_0) (w0_0 : Has w0 k0_0) (hs0 : Sat (blks [(1, [(b0_, .cells #[.slice A0_0 x0.code.length p0_0, .int .i64 x0.at_, .int .i64 x0.seed] 84 (0, 0))])]) w0 w0 [(2, k0_0)] [(1, [(b0_, .cells #[.slice A0_0 x0.code.length p0_0, .int .i64 x0.at_, .int .i64 x0.seed] 84 (0, 0))])]) (r : ByteArray × Int × Int) (H : spec_l00Src_text.f x0 = some r) :
    Calls Try.prog 44 #[.pointer (some ⟨b0_, 0, none⟩)] w0 (Ret (fun v w => v = .string r.1 ∧ Sat (blks [(1, [(b0_, .cells #[.slice A0_0 x0.code.length p0_0, .int .i64 x0.at_, .int .i64 x0.seed] 84 (0, 0))])]) w0 w [] [(0, [(b0_, .cells #[.slice A0_0 x0.code.length p0_0, .int .i64 r.2.1, .int .i64 r.2.2] 84 (0, 0))])])) := by
  have hs := hs0
  unfold spec_l00Src_text.f at H
  refine enter Try.func44 rfl Try.ntmps44 rfl fun a hk => ?_
  apply wp_seq_k; intro K1 hK1
  apply wp_region_lit
  refine sa _ rfl hk rfl rfl rfl fun a hk => ?_
  show wpList _ _ _ [] _ _
  refine wpList_nil ?_
  refine hK1 _ _ ?_
  apply wp_seq_k; intro K2 hK2
  apply wp_region_lit
  refine sm _ rfl hk rfl rfl rfl fun a hk => ?_
  refine sm _ rfl hk rfl rfl rfl fun a hk => ?_
  obtain ⟨y3, h4, H⟩ := bind_some H
  refine sc rfl en86 hk rfl rfl rfl (spec_l00Src_next_t _ b0_ x0 A0_0 p0_0 _ v0_0 (hs.hasD (k := 2) rfl) 9 ((hs.hand [(1, 1)] rfl).dpick [(2, 2)] rfl) _ h4) ?_
  rintro _ w ⟨rfl, hG⟩ a hk
  have hs := hs.back [(1, 1)] rfl hG [1] rfl
  refine sm _ rfl hk rfl rfl rfl fun a hk => ?_
  obtain ⟨y5, h6, H⟩ := bind_some H
  refine sc rfl en86 hk rfl rfl rfl (spec_l00Src_next_t _ b0_ (⟨x0.code, y3.2.1, y3.2.2⟩ : S_l00Src) A0_0 p0_0 _ v0_0 (hs.hasD (k := 2) rfl) 200 ((hs.hand [(1, 1)] rfl).dpick [(2, 2)] rfl) _ h6) ?_
  rintro _ w ⟨rfl, hG⟩ a hk
  have hs := hs.back [(1, 1)] rfl hG [1] rfl
  refine sbs (L := (Lay.int .i64)) (pv := [(0, (.int .i64 y3.1)), (1, (.int .i64 55)), (2, (.int .i64 56)), (3, (.int .i64 63)), (4, (.int .i64 64)), (5, (.int .i64 y5.1))]) (xs := [y3.1, 55, 56, 63, 64, y5.1]) (ess := [[.int .i64 y3.1], [.int .i64 55], [.int .i64 56], [.int .i64 63], [.int .i64 64], [.int .i64 y5.1]]) 3 hs rfl hk rfl rfl rfl un47 (bs3_2 y3.1 55 56 63 64 y5.1) (AllOwn.cons0 ⟨rfl, rfl⟩ (AllOwn.cons0 ⟨rfl, rfl⟩ (AllOwn.cons0 ⟨rfl, rfl⟩ (AllOwn.cons0 ⟨rfl, rfl⟩ (AllOwn.cons0 ⟨rfl, rfl⟩ (AllOwn.cons0 ⟨rfl, rfl⟩ AllOwn.nil)))))) rfl rfl rfl fun b7 k8 w a hk o9 hs => ?_
  refine sm _ rfl hk rfl rfl rfl fun a hk => ?_
  obtain ⟨y10, h11, H⟩ := bind_some H
  refine sc rfl en86 hk rfl rfl rfl (spec_l00Src_next_t _ b0_ (⟨x0.code, y5.2.1, y5.2.2⟩ : S_l00Src) A0_0 p0_0 _ v0_0 (hs.hasD (k := 2) rfl) 6 ((hs.hand [(1, 1)] rfl).dpick [(2, 2)] rfl) _ h11) ?_
  rintro _ w ⟨rfl, hG⟩ a hk
  have hs := hs.back [(1, 1)] rfl hG [1] rfl
  rcases ite_some H with ⟨c12, H⟩ | ⟨_, H⟩
  rotate_left
  ·cases H
  obtain ⟨b13, q14, hAc12⟩ := (o9.view).some_ y10.1 c12.1 c12.2
  refine si rfl hk rfl rfl rfl rfl un47 sz3 c12.1 c12.2 hAc12 fun a hk => ?_
  obtain ⟨_, rfl, e15⟩ := (o9.view).at_ 0 y10.1 c12.1 c12.2
  refine sl (v := (.int .i64 (([y3.1, 55, 56, 63, 64, y5.1]).getD (y10.1).toNat 0))) rfl hk rfl rfl rfl ag3 ((e15 0 _ rfl).cell (hs.hasG (k := 3) rfl)) fun a hk => ?_
  obtain ⟨y16, h17, H⟩ := bind_some H
  refine sc rfl en59 hk rfl rfl rfl (spec_l00Src_bytes_t _ b0_ (⟨x0.code, y10.2.1, y10.2.2⟩ : S_l00Src) A0_0 p0_0 _ v0_0 (hs.hasD (k := 2) rfl) (([y3.1, 55, 56, 63, 64, y5.1]).getD (y10.1).toNat 0) ((hs.hand [(1, 1)] rfl).dpick [(2, 2)] rfl) _ h17) ?_
  rintro _ w ⟨rfl, hG⟩ a hk
  have hs := hs.back [(1, 1)] rfl hG [1] rfl
  refine sa _ rfl hk rfl rfl rfl fun a hk => ?_
  show wpList _ _ _ [] _ _
  refine wpList_nil ?_
  refine hK2 _ _ ?_
  refine wp_ret ?_
  obtain rfl := Option.some.inj H
  exact fin hk _ [(.string y16.1)] rfl ⟨rfl, trivial⟩ ⟨rfl, (hs.pick [(0, 1)] rfl).dnil⟩

noncomputable def spec_TextOf.f (l0 : List Int) : Option (ByteArray) :=
  ((spec_l00Source.f l0).bind fun y3 => ((spec_l00Src_text.f y3).bind fun y10 => (some y10.1)))
set_option maxRecDepth 100000 in
set_option maxHeartbeats 0 in
theorem spec_TextOf_t (w0 : World) (A0_ : Option Addr) (p0_ : Nat) (l0 : List Int) (k0_ : Chunk) (v0_ : View (Lay.int .u8) A0_ p0_ l0 k0_) (w0_ : Has w0 k0_) (r : ByteArray) (H : spec_TextOf.f l0 = some r) :
    Calls Try.prog 8 #[.slice A0_ l0.length p0_] w0 (Ret (fun v w => v = .string r ∧ Sat [] w0 w [] [])) := by
  have hs : Sat [] w0 w0 [(1, k0_)] [] := Sat.init w0 [(1, k0_)] [] (by simp only [List.mem_cons, List.not_mem_nil, or_false]; rintro x (rfl) <;> assumption) (by simp) List.nodup_nil (by simp [blks])
  unfold spec_TextOf.f at H
  refine enter Try.func8 rfl Try.ntmps8 rfl fun a hk => ?_
  apply wp_seq_k; intro K1 hK1
  apply wp_region_lit
  refine sa _ rfl hk rfl rfl rfl fun a hk => ?_
  show wpList _ _ _ [] _ _
  refine wpList_nil ?_
  refine hK1 _ _ ?_
  apply wp_seq_k; intro K2 hK2
  apply wp_region_lit
  refine sm _ rfl hk rfl rfl rfl fun a hk => ?_
  obtain ⟨y3, h4, H⟩ := bind_some H
  refine sc rfl en43 hk rfl rfl rfl (spec_l00Source_t _ A0_ p0_ l0 _ v0_ (hs.hasD (k := 1) rfl) _ h4) ?_
  rintro _ w ⟨b6, A7, p8, k5, rfl, v9, hG⟩ a hk
  have hs := hs.call0k hG [3, 2] rfl
  obtain ⟨y10, h11, H⟩ := bind_some H
  refine sc rfl en44 hk rfl rfl rfl (spec_l00Src_text_t _ b6 y3 A7 p8 _ v9 (Has.app (hs.hasD (k := 1) rfl) (hs.hasG (k := 2) rfl)) (((hs.hand [(1, 3)] rfl).dcat 2004 (k := 1) (l := 2) rfl rfl).dpick [(2, 2004)] rfl) _ h11) ?_
  rintro _ w ⟨rfl, hG⟩ a hk
  have hs := hs.back [(1, 3)] rfl hG [3] rfl
  refine sa _ rfl hk rfl rfl rfl fun a hk => ?_
  show wpList _ _ _ [] _ _
  refine wpList_nil ?_
  refine hK2 _ _ ?_
  refine wp_ret ?_
  obtain rfl := Option.some.inj H
  exact fin hk _ [(.string y10.1)] rfl ⟨rfl, trivial⟩ ⟨rfl, (hs.pick [] rfl).dnil⟩

noncomputable def slices_IndexFunc_string_string.s0 (l0 : List ByteArray) (q1 : ByteArray → Option (Bool)) (u6 : Int) : Option ((Int) ⊕ Ex (Unit) (Int)) :=
  (bif (decide (u6 < (l0.length : Int))) then (if 0 ≤ u6 ∧ u6 < (l0.length : Int) then ((q1 (l0.getD u6.toNat ByteArray.empty)).bind fun y25 => (bif y25 then (some (.inr (.ret u6))) else (some (.inl (w64 (u6 + 1)))))) else none) else (some (.inr (.out ()))))
noncomputable def slices_IndexFunc_string_string.f (l0 : List ByteArray) (q1 : ByteArray → Option (Bool)) : Option (Int) :=
  ((loopO (fun s => slices_IndexFunc_string_string.s0 l0 q1 s) 0).bind fun o => match o with | .out _ => (some (-1)) | .ret r => (some r))
set_option maxRecDepth 100000 in
set_option maxHeartbeats 0 in
theorem slices_IndexFunc_string_string_t (w0 : World) (A0_ : Option Addr) (p0_ : Nat) (l0 : List ByteArray) (k0_ : Chunk) (v0_ : View Lay.str A0_ p0_ l0 k0_) (w0_ : Has w0 k0_) (f1_ : FuncId) (c1_ : List Value) (e1_ : Enters Try.prog f1_) (q1 : ByteArray → Option (Bool)) (k1_ : Chunk) (t1_ : ∀ w, Has w k1_ → ∀ (z0 : ByteArray) (r : Bool), q1 z0 = some r → Calls Try.prog f1_ (([.string z0] : List Value) ++ c1_).toArray w (Ret (fun v w2 => v = .bool r ∧ Sat [] w w2 [] []))) (w1_ : Has w0 k1_) (r : Int) (H : slices_IndexFunc_string_string.f l0 q1 = some r) :
    Calls Try.prog 138 #[.slice A0_ l0.length p0_, .func (.func f1_) #[] c1_.toArray] w0 (Ret (fun v w => v = .int .i64 r ∧ Sat [] w0 w [] [])) := by
  have hs : Sat [] w0 w0 [(1, k0_), (2, k1_)] [] := Sat.init w0 [(1, k0_), (2, k1_)] [] (by simp only [List.mem_cons, List.not_mem_nil, or_false]; rintro x (rfl | rfl) <;> assumption) (by simp) List.nodup_nil (by simp [blks])
  unfold slices_IndexFunc_string_string.f at H
  refine enter Try.func138 rfl Try.ntmps138 rfl fun a hk => ?_
  apply wp_seq_k; intro K1 hK1
  apply wp_region_lit
  refine sa _ rfl hk rfl rfl rfl fun a hk => ?_
  show wpList _ _ _ [] _ _
  refine wpList_nil ?_
  refine hK1 _ _ ?_
  apply wp_seq_k; intro K2 hK2
  apply wp_seq_k; intro K3 hK3
  apply wp_region_lit
  refine sm _ rfl hk rfl rfl rfl fun a hk => ?_
  refine sle rfl hk rfl rfl rfl un86 fun a hk => ?_
  refine sm _ rfl hk rfl rfl rfl fun a hk => ?_
  show wpList _ _ _ [] _ _
  refine wpList_nil ?_
  refine hK3 _ _ ?_
  obtain ⟨o7, h8, HL9⟩ := bind_some H
  clear H
  obtain ⟨R10, hR10⟩ : ∃ R : Act → World → Prop, R = fun a w => o7 = .out () ∧ Kn [] 19 a ∧ Sat [] w0 w [(1, k0_), (2, k1_)] [] := ⟨_, rfl⟩
  refine wp_cutq R10 ?_ ?_
  ·refine wp_block ?_
   obtain ⟨fu12, h8⟩ := loopO_some h8
   obtain ⟨I11, hI11⟩ : ∃ I : Nat → Act → World → Prop, I = fun fu a w => ∃ (u6 : Int), loopN (fun s => slices_IndexFunc_string_string.s0 l0 q1 s) fu u6 = some o7 ∧ Kn [(0, (.slice A0_ l0.length p0_)), (1, (.func (.func f1_) #[] c1_.toArray)), (7, (.int .i64 (l0.length : Int))), (8, (.int .i64 u6))] 19 a ∧ Sat [] w0 w [(1, k0_), (2, k1_)] [] := ⟨_, rfl⟩
   refine wp_loop_ghost I11 fu12 ?_ ?_
   ·rw [hI11]
    exact ⟨0, h8, (hk.c 0 rfl (hk.c 1 rfl (hk.c 7 rfl (hk.c 8 rfl hk.k)))), (hs.pick [] rfl)⟩
   ·clear h8 hk hs
    intro fu12 a w hI0
    rw [hI11] at hI0
    obtain ⟨u6, hi, hk, hs⟩ := hI0
    obtain ⟨x13, H, h14⟩ := loop_round hi
    try dsimp only at H
    unfold slices_IndexFunc_string_string.s0 at H
    apply wp_seq_k; intro K15 hK15
    apply wp_region_lit
    refine sv (.bool (decide (u6 < (l0.length : Int)))) hk rfl rfl rfl fun a hk => ?_
    show wpList _ _ _ [] _ _
    refine wpList_nil ?_
    refine hK15 _ _ ?_
    apply wp_seq_k; intro K16 hK16
    rcases cond_some H with ⟨c17, H⟩ | ⟨c17, H⟩
    ·have hk := hk.lit 9 c17 rfl
     refine cnd_true hk rfl rfl ?_
     refine wp_skip ?_
     refine hK16 _ _ ?_
     have hs := hs.pick [] rfl
     apply wp_seq_k; intro K18 hK18
     refine wp_block ?_
     apply wp_seq_k; intro K19 hK19
     apply wp_region_lit
     refine sm _ rfl hk rfl rfl rfl fun a hk => ?_
     refine sa _ rfl hk rfl rfl rfl fun a hk => ?_
     show wpList _ _ _ [] _ _
     refine wpList_nil ?_
     refine hK19 _ _ ?_
     apply wp_seq_k; intro K20 hK20
     apply wp_region_lit
     refine sm _ rfl hk rfl rfl rfl fun a hk => ?_
     refine sm _ rfl hk rfl rfl rfl fun a hk => ?_
     refine sm _ rfl hk rfl rfl rfl fun a hk => ?_
     rcases ite_some H with ⟨c21, H⟩ | ⟨_, H⟩
     rotate_left
     ·cases H
     obtain ⟨b22, q23, hAc21⟩ := (v0_).some_ u6 c21.1 c21.2
     refine si rfl hk rfl rfl rfl rfl un86 sz9 c21.1 c21.2 hAc21 fun a hk => ?_
     obtain ⟨_, rfl, e24⟩ := (v0_).at_ ByteArray.empty u6 c21.1 c21.2
     refine sl (v := (.string (l0.getD u6.toNat ByteArray.empty))) rfl hk rfl rfl rfl ag9 ((e24 0 _ rfl).cell (hs.hasD (k := 1) rfl)) fun a hk => ?_
     obtain ⟨y25, h26, H⟩ := bind_some H
     refine scv (vs := ([(.string (l0.getD u6.toNat ByteArray.empty))] : List Value) ++ c1_) rfl rfl e1_ hk rfl rfl rfl (t1_ _ (hs.hasD (k := 2) rfl) (l0.getD u6.toNat ByteArray.empty) _ h26) ?_
     rintro _ w ⟨rfl, hG⟩ a hk
     have hs := hs.call0 hG
     show wpList _ _ _ [] _ _
     refine wpList_nil ?_
     refine hK20 _ _ ?_
     rcases cond_some H with ⟨c27, H⟩ | ⟨c27, H⟩
     ·have hk := hk.lit 16 c27 rfl
      refine cnd_true hk rfl rfl ?_
      apply wp_seq_k; intro K28 hK28
      apply wp_region_lit
      refine sm _ rfl hk rfl rfl rfl fun a hk => ?_
      refine sa _ rfl hk rfl rfl rfl fun a hk => ?_
      show wpList _ _ _ [] _ _
      refine wpList_nil ?_
      refine hK28 _ _ ?_
      refine wp_ret ?_
      obtain rfl := Option.some.inj H
      have ho7 := h14
      try dsimp only at ho7
      subst ho7
      have H := HL9
      try dsimp only at H
      obtain rfl := Option.some.inj H
      exact fin hk _ [(.int .i64 u6)] rfl ⟨rfl, trivial⟩ ⟨rfl, (hs.pick [] rfl).dnil⟩
     ·have hk := hk.lit 16 c27 rfl
      refine cnd_false hk rfl rfl ?_
      refine wp_skip ?_
      refine hK18 _ _ ?_
      apply wp_region_lit
      refine sv (.int .i64 (w64 (u6 + 1))) hk rfl rfl rfl fun a hk => ?_
      refine sm _ rfl hk rfl rfl rfl fun a hk => ?_
      show wpList _ _ _ [] _ _
      refine wpList_nil ?_
      obtain rfl := Option.some.inj H
      obtain ⟨m29, hmm29, h14⟩ := h14
      show ∃ n', n' < _ ∧ I11 n' _ _
      refine ⟨m29, hmm29, ?_⟩
      rw [hI11]
      exact ⟨(w64 (u6 + 1)), h14, (hk.c 0 rfl (hk.c 1 rfl (hk.c 7 rfl (hk.c 8 rfl hk.k)))), (hs.pick [] rfl)⟩
    ·have hk := hk.lit 9 c17 rfl
     refine cnd_false hk rfl rfl ?_
     refine wp_exit ?_
     obtain rfl := Option.some.inj H
     show R10 _ _
     rw [hR10]
     exact ⟨h14.symm, hk.k, (hs.pick [] rfl)⟩
  ·intro a w hR0
   rw [hR10] at hR0
   obtain ⟨rfl, hk, hs⟩ := hR0
   have H := HL9
   try dsimp only at H
   refine hK2 _ _ ?_
   apply wp_seq_k; intro K30 hK30
   apply wp_region_lit
   refine sa _ rfl hk rfl rfl rfl fun a hk => ?_
   show wpList _ _ _ [] _ _
   refine wpList_nil ?_
   refine hK30 _ _ ?_
   have hs := hs.pick [] rfl
   refine wp_ret ?_
   obtain rfl := Option.some.inj H
   exact fin hk _ [(.int .i64 (-1))] rfl ⟨rfl, trivial⟩ ⟨rfl, (hs.pick [] rfl).dnil⟩

noncomputable def slices_ContainsFunc_string_string.f (l0 : List ByteArray) (q1 : ByteArray → Option (Bool)) : Option (Bool) :=
  ((slices_IndexFunc_string_string.f l0 q1).bind fun y3 => (some (decide (y3 ≥ 0))))
set_option maxRecDepth 100000 in
set_option maxHeartbeats 0 in
theorem slices_ContainsFunc_string_string_t (w0 : World) (A0_ : Option Addr) (p0_ : Nat) (l0 : List ByteArray) (k0_ : Chunk) (v0_ : View Lay.str A0_ p0_ l0 k0_) (w0_ : Has w0 k0_) (f1_ : FuncId) (c1_ : List Value) (e1_ : Enters Try.prog f1_) (q1 : ByteArray → Option (Bool)) (k1_ : Chunk) (t1_ : ∀ w, Has w k1_ → ∀ (z0 : ByteArray) (r : Bool), q1 z0 = some r → Calls Try.prog f1_ (([.string z0] : List Value) ++ c1_).toArray w (Ret (fun v w2 => v = .bool r ∧ Sat [] w w2 [] []))) (w1_ : Has w0 k1_) (r : Bool) (H : slices_ContainsFunc_string_string.f l0 q1 = some r) :
    Calls Try.prog 120 #[.slice A0_ l0.length p0_, .func (.func f1_) #[] c1_.toArray] w0 (Ret (fun v w => v = .bool r ∧ Sat [] w0 w [] [])) := by
  have hs : Sat [] w0 w0 [(1, k0_), (2, k1_)] [] := Sat.init w0 [(1, k0_), (2, k1_)] [] (by simp only [List.mem_cons, List.not_mem_nil, or_false]; rintro x (rfl | rfl) <;> assumption) (by simp) List.nodup_nil (by simp [blks])
  unfold slices_ContainsFunc_string_string.f at H
  refine enter Try.func120 rfl Try.ntmps120 rfl fun a hk => ?_
  apply wp_seq_k; intro K1 hK1
  apply wp_region_lit
  refine sa _ rfl hk rfl rfl rfl fun a hk => ?_
  show wpList _ _ _ [] _ _
  refine wpList_nil ?_
  refine hK1 _ _ ?_
  apply wp_seq_k; intro K2 hK2
  apply wp_region_lit
  refine sm _ rfl hk rfl rfl rfl fun a hk => ?_
  refine sm _ rfl hk rfl rfl rfl fun a hk => ?_
  obtain ⟨y3, h4, H⟩ := bind_some H
  refine sc rfl en138 hk rfl rfl rfl (slices_IndexFunc_string_string_t _ A0_ p0_ l0 _ v0_ (hs.hasD (k := 1) rfl) f1_ c1_ e1_ q1 k1_ t1_ (hs.hasD (k := 2) rfl) _ h4) ?_
  rintro _ w ⟨rfl, hG⟩ a hk
  have hs := hs.call0 hG
  refine sv (.bool (decide (y3 ≥ 0))) hk rfl rfl rfl fun a hk => ?_
  refine sa _ rfl hk rfl rfl rfl fun a hk => ?_
  show wpList _ _ _ [] _ _
  refine wpList_nil ?_
  refine hK2 _ _ ?_
  refine wp_ret ?_
  obtain rfl := Option.some.inj H
  exact fin hk _ [(.bool (decide (y3 ≥ 0)))] rfl ⟨rfl, trivial⟩ ⟨rfl, (hs.pick [] rfl).dnil⟩

noncomputable def impl_areAll_string__c1.f (x0 : ByteArray) (q1 : ByteArray → Option (Bool)) : Option (Bool) :=
  ((q1 x0).bind fun y3 => (some (!y3)))
set_option maxRecDepth 100000 in
set_option maxHeartbeats 0 in
theorem impl_areAll_string__c1_t (w0 : World) (x0 : ByteArray) (b1_ : Nat) (f1_ : FuncId) (c1_ : List Value) (e1_ : Enters Try.prog f1_) (q1 : ByteArray → Option (Bool)) (k1_ : Chunk) (t1_ : ∀ w, Has w k1_ → ∀ (z0 : ByteArray) (r : Bool), q1 z0 = some r → Calls Try.prog f1_ (([.string z0] : List Value) ++ c1_).toArray w (Ret (fun v w2 => v = .bool r ∧ Sat [] w w2 [] []))) (w1_ : Has w0 k1_) (h1_ : Has w0 [(b1_, .cells #[.func (.func f1_) #[] c1_.toArray] 88 (0, 0))]) (r : Bool) (H : impl_areAll_string__c1.f x0 q1 = some r) :
    Calls Try.prog 121 #[.string x0, .pointer (some ⟨b1_, 0, none⟩)] w0 (Ret (fun v w => v = .bool r ∧ Sat [] w0 w [] [])) := by
  have hs : Sat [] w0 w0 [(2, k1_), (1, [(b1_, .cells #[.func (.func f1_) #[] c1_.toArray] 88 (0, 0))])] [] := Sat.init w0 [(2, k1_), (1, [(b1_, .cells #[.func (.func f1_) #[] c1_.toArray] 88 (0, 0))])] [] (by simp only [List.mem_cons, List.not_mem_nil, or_false]; rintro x (rfl | rfl) <;> assumption) (by simp) List.nodup_nil (by simp [blks])
  unfold impl_areAll_string__c1.f at H
  refine enter Try.func121 rfl Try.ntmps121 rfl fun a hk => ?_
  apply wp_seq_k; intro K1 hK1
  apply wp_region_lit
  refine sa _ rfl hk rfl rfl rfl fun a hk => ?_
  show wpList _ _ _ [] _ _
  refine wpList_nil ?_
  refine hK1 _ _ ?_
  apply wp_seq_k; intro K2 hK2
  apply wp_region_lit
  refine sl rfl hk rfl rfl rfl ag88 (box_cellD hs (k := 1) rfl rfl) fun a hk => ?_
  refine sm _ rfl hk rfl rfl rfl fun a hk => ?_
  obtain ⟨y3, h4, H⟩ := bind_some H
  refine scv (vs := ([(.string x0)] : List Value) ++ c1_) rfl rfl e1_ hk rfl rfl rfl (t1_ _ (hs.hasD (k := 2) rfl) x0 _ h4) ?_
  rintro _ w ⟨rfl, hG⟩ a hk
  have hs := hs.call0 hG
  refine sv (.bool (!y3)) hk rfl rfl rfl fun a hk => ?_
  refine sa _ rfl hk rfl rfl rfl fun a hk => ?_
  show wpList _ _ _ [] _ _
  refine wpList_nil ?_
  refine hK2 _ _ ?_
  refine wp_ret ?_
  obtain rfl := Option.some.inj H
  exact fin hk _ [(.bool (!y3))] rfl ⟨rfl, trivial⟩ ⟨rfl, (hs.pick [] rfl).dnil⟩

noncomputable def impl_areAll_string.f (l0 : List ByteArray) (q1 : ByteArray → Option (Bool)) : Option (Bool) :=
  ((slices_ContainsFunc_string_string.f l0 (fun z0 => impl_areAll_string__c1.f z0 q1)).bind fun y4 => (some (!y4)))
set_option maxRecDepth 100000 in
set_option maxHeartbeats 0 in
theorem impl_areAll_string_t (w0 : World) (A0_ : Option Addr) (p0_ : Nat) (l0 : List ByteArray) (k0_ : Chunk) (v0_ : View Lay.str A0_ p0_ l0 k0_) (w0_ : Has w0 k0_) (f1_ : FuncId) (c1_ : List Value) (e1_ : Enters Try.prog f1_) (q1 : ByteArray → Option (Bool)) (k1_ : Chunk) (t1_ : ∀ w, Has w k1_ → ∀ (z0 : ByteArray) (r : Bool), q1 z0 = some r → Calls Try.prog f1_ (([.string z0] : List Value) ++ c1_).toArray w (Ret (fun v w2 => v = .bool r ∧ Sat [] w w2 [] []))) (w1_ : Has w0 k1_) (r : Bool) (H : impl_areAll_string.f l0 q1 = some r) :
    Calls Try.prog 87 #[.slice A0_ l0.length p0_, .func (.func f1_) #[] c1_.toArray] w0 (Ret (fun v w => v = .bool r ∧ Sat [] w0 w [] [])) := by
  have hs : Sat [] w0 w0 [(1, k0_), (2, k1_)] [] := Sat.init w0 [(1, k0_), (2, k1_)] [] (by simp only [List.mem_cons, List.not_mem_nil, or_false]; rintro x (rfl | rfl) <;> assumption) (by simp) List.nodup_nil (by simp [blks])
  unfold impl_areAll_string.f at H
  refine enter Try.func87 rfl Try.ntmps87 rfl fun a hk => ?_
  apply wp_seq_k; intro K1 hK1
  apply wp_region_lit
  refine sbx 3 hs rfl hk rfl rfl rfl rfl fun b2 w a hk hs => ?_
  refine sa _ rfl hk rfl rfl rfl fun a hk => ?_
  show wpList _ _ _ [] _ _
  refine wpList_nil ?_
  refine hK1 _ _ ?_
  apply wp_seq_k; intro K3 hK3
  apply wp_region_lit
  refine sm _ rfl hk rfl rfl rfl fun a hk => ?_
  refine smf (cs := [.pointer (some ⟨b2, 0, none⟩)]) rfl hk rfl rfl rfl fun a hk => ?_
  obtain ⟨y4, h5, H⟩ := bind_some H
  refine sc rfl en120 hk rfl rfl rfl (slices_ContainsFunc_string_string_t _ A0_ p0_ l0 _ v0_ (hs.hasD (k := 1) rfl) 121 [.pointer (some ⟨b2, 0, none⟩)] en121 (fun z0 => impl_areAll_string__c1.f z0 q1) ([(b2, .cells #[.func (.func f1_) #[] c1_.toArray] 88 (0, 0))] ++ k1_) (fun w hz z0 r h => impl_areAll_string__c1_t w z0 _ f1_ c1_ e1_ q1 k1_ t1_ (Has.right hz) (Has.left hz) r h) (Has.app (hs.hasG (k := 3) rfl) (hs.hasD (k := 2) rfl)) _ h5) ?_
  rintro _ w ⟨rfl, hG⟩ a hk
  have hs := hs.call0 hG
  refine sv (.bool (!y4)) hk rfl rfl rfl fun a hk => ?_
  refine sa _ rfl hk rfl rfl rfl fun a hk => ?_
  show wpList _ _ _ [] _ _
  refine wpList_nil ?_
  refine hK3 _ _ ?_
  refine wp_ret ?_
  obtain rfl := Option.some.inj H
  exact fin hk _ [(.bool (!y4))] rfl ⟨rfl, trivial⟩ ⟨rfl, (hs.pick [] rfl).dnil⟩

noncomputable def impl_areShort_c1.f (x0 : ByteArray) : Option (Bool) :=
  (some (decide ((x0.size : Int) ≤ 65536)))
set_option maxRecDepth 100000 in
set_option maxHeartbeats 0 in
theorem impl_areShort_c1_t (w0 : World) (x0 : ByteArray) (r : Bool) (H : impl_areShort_c1.f x0 = some r) :
    Calls Try.prog 88 #[.string x0] w0 (Ret (fun v w => v = .bool r ∧ Sat [] w0 w [] [])) := by
  have hs : Sat [] w0 w0 [] [] := Sat.init w0 [] [] (by simp) (by simp) List.nodup_nil (by simp [blks])
  unfold impl_areShort_c1.f at H
  refine enter Try.func88 rfl Try.ntmps88 rfl fun a hk => ?_
  apply wp_seq_k; intro K1 hK1
  apply wp_region_lit
  refine sa _ rfl hk rfl rfl rfl fun a hk => ?_
  show wpList _ _ _ [] _ _
  refine wpList_nil ?_
  refine hK1 _ _ ?_
  apply wp_seq_k; intro K2 hK2
  apply wp_region_lit
  refine sm _ rfl hk rfl rfl rfl fun a hk => ?_
  refine sles rfl hk rfl rfl rfl un9 fun a hk => ?_
  refine sv (.bool (decide ((x0.size : Int) ≤ 65536))) hk rfl rfl rfl fun a hk => ?_
  refine sa _ rfl hk rfl rfl rfl fun a hk => ?_
  show wpList _ _ _ [] _ _
  refine wpList_nil ?_
  refine hK2 _ _ ?_
  refine wp_ret ?_
  obtain rfl := Option.some.inj H
  exact fin hk _ [(.bool (decide ((x0.size : Int) ≤ 65536)))] rfl ⟨rfl, trivial⟩ ⟨rfl, (hs.pick [] rfl).dnil⟩

noncomputable def impl_areShort.f (l0 : List ByteArray) : Option (Bool) :=
  ((impl_areAll_string.f l0 impl_areShort_c1.f).bind fun y3 => (some y3))
set_option maxRecDepth 100000 in
set_option maxHeartbeats 0 in
theorem impl_areShort_t (w0 : World) (A0_ : Option Addr) (p0_ : Nat) (l0 : List ByteArray) (k0_ : Chunk) (v0_ : View Lay.str A0_ p0_ l0 k0_) (w0_ : Has w0 k0_) (r : Bool) (H : impl_areShort.f l0 = some r) :
    Calls Try.prog 45 #[.slice A0_ l0.length p0_] w0 (Ret (fun v w => v = .bool r ∧ Sat [] w0 w [] [])) := by
  have hs : Sat [] w0 w0 [(1, k0_)] [] := Sat.init w0 [(1, k0_)] [] (by simp only [List.mem_cons, List.not_mem_nil, or_false]; rintro x (rfl) <;> assumption) (by simp) List.nodup_nil (by simp [blks])
  unfold impl_areShort.f at H
  refine enter Try.func45 rfl Try.ntmps45 rfl fun a hk => ?_
  apply wp_seq_k; intro K1 hK1
  apply wp_region_lit
  refine sa _ rfl hk rfl rfl rfl fun a hk => ?_
  show wpList _ _ _ [] _ _
  refine wpList_nil ?_
  refine hK1 _ _ ?_
  apply wp_seq_k; intro K2 hK2
  apply wp_region_lit
  refine sm _ rfl hk rfl rfl rfl fun a hk => ?_
  obtain ⟨y3, h4, H⟩ := bind_some H
  refine sc rfl en87 hk rfl rfl rfl (impl_areAll_string_t _ A0_ p0_ l0 _ v0_ (hs.hasD (k := 1) rfl) 88 [] en88 impl_areShort_c1.f [] (fun w _ z0 r h => impl_areShort_c1_t w z0 r h) (Has.nil _) _ h4) ?_
  rintro _ w ⟨rfl, hG⟩ a hk
  have hs := hs.call0 hG
  refine sa _ rfl hk rfl rfl rfl fun a hk => ?_
  show wpList _ _ _ [] _ _
  refine wpList_nil ?_
  refine hK2 _ _ ?_
  refine wp_ret ?_
  obtain rfl := Option.some.inj H
  exact fin hk _ [(.bool y3)] rfl ⟨rfl, trivial⟩ ⟨rfl, (hs.pick [] rfl).dnil⟩

noncomputable def impl_NewHash.f  : Option (S_Hash) :=
  (some (⟨1779033703, 3144134277, 1013904242, 2773480762, 1359893119, 2600822924, 528734635, 1541459225, ByteArray.empty, 0⟩ : S_Hash))
set_option maxRecDepth 100000 in
set_option maxHeartbeats 0 in
theorem impl_NewHash_t (w0 : World)  (r : S_Hash) (H : impl_NewHash.f  = some r) :
    Calls Try.prog 13 #[] w0 (Ret (fun v w => v = .agg #[.int .i64 r.H0, .int .i64 r.H1, .int .i64 r.H2, .int .i64 r.H3, .int .i64 r.H4, .int .i64 r.H5, .int .i64 r.H6, .int .i64 r.H7, .string r.Buf, .int .i64 r.N] ∧ Sat [] w0 w [] [])) := by
  have hs : Sat [] w0 w0 [] [] := Sat.init w0 [] [] (by simp) (by simp) List.nodup_nil (by simp [blks])
  unfold impl_NewHash.f at H
  refine enter Try.func13 rfl Try.ntmps13 rfl fun a hk => ?_
  apply wp_seq_k; intro K1 hK1
  apply wp_region_lit
  refine salx 1 hs rfl hk rfl rfl ze29 rfl fun b2 w a hk hs => ?_
  show wpList _ _ _ [] _ _
  refine wpList_nil ?_
  refine hK1 _ _ ?_
  apply wp_seq_k; intro K3 hK3
  apply wp_region_lit
  refine sbd (pv := [(0, (.int .i64 1779033703)), (1, (.int .i64 3144134277)), (2, (.int .i64 1013904242)), (3, (.int .i64 2773480762)), (4, (.int .i64 1359893119)), (5, (.int .i64 2600822924)), (6, (.int .i64 528734635)), (7, (.int .i64 1541459225))]) rfl hk rfl rfl rfl (bd27_3 1779033703 3144134277 1013904242 2773480762 1359893119 2600822924 528734635 1541459225) fun a hk => ?_
  have lh4 : ([1779033703, 3144134277, 1013904242, 2773480762, 1359893119, 2600822924, 528734635, 1541459225] : List Int).length = 8 := rfl
  refine sbd (pv := [(0, (.agg #[.int .i64 1779033703, .int .i64 3144134277, .int .i64 1013904242, .int .i64 2773480762, .int .i64 1359893119, .int .i64 2600822924, .int .i64 528734635, .int .i64 1541459225]))]) rfl hk rfl rfl rfl (bd29_4 1779033703 3144134277 1013904242 2773480762 1359893119 2600822924 528734635 1541459225) fun a hk => ?_
  refine ssw 1 hs rfl rfl hk rfl rfl rfl rfl sz29 (by simp [Value.oneCell']) rfl fun w a hk hs => ?_
  show wpList _ _ _ [] _ _
  refine wpList_nil ?_
  refine hK3 _ _ ?_
  refine wp_ret ?_
  obtain rfl := Option.some.inj H
  exact fin hk _ [(.agg #[.int .i64 1779033703, .int .i64 3144134277, .int .i64 1013904242, .int .i64 2773480762, .int .i64 1359893119, .int .i64 2600822924, .int .i64 528734635, .int .i64 1541459225, .string ByteArray.empty, .int .i64 0])] rfl ⟨⟨_, rfl, run_loadN ag29 sz29 (box_cells hs (k := 1) rfl)⟩, trivial⟩ ⟨rfl, (hs.pick [] rfl).dnil⟩

noncomputable def impl_constants.f  : Option ((List Int)) :=
  (some ([1116352408, 1899447441, 3049323471, 3921009573, 961987163, 1508970993, 2453635748, 2870763221, 3624381080, 310598401, 607225278, 1426881987, 1925078388, 2162078206, 2614888103, 3248222580, 3835390401, 4022224774, 264347078, 604807628, 770255983, 1249150122, 1555081692, 1996064986, 2554220882, 2821834349, 2952996808, 3210313671, 3336571891, 3584528711, 113926993, 338241895, 666307205, 773529912, 1294757372, 1396182291, 1695183700, 1986661051, 2177026350, 2456956037, 2730485921, 2820302411, 3259730800, 3345764771, 3516065817, 3600352804, 4094571909, 275423344, 430227734, 506948616, 659060556, 883997877, 958139571, 1322822218, 1537002063, 1747873779, 1955562222, 2024104815, 2227730452, 2361852424, 2428436474, 2756734187, 3204031479, 3329325298] : List Int))
set_option maxRecDepth 100000 in
set_option maxHeartbeats 0 in
theorem impl_constants_t (w0 : World)  (r : (List Int)) (H : impl_constants.f  = some r) :
    Calls Try.prog 92 #[] w0 (Ret (fun v w => v = aggI .u32 r ∧ r.length = 64 ∧ Sat [] w0 w [] [])) := by
  have hs : Sat [] w0 w0 [] [] := Sat.init w0 [] [] (by simp) (by simp) List.nodup_nil (by simp [blks])
  unfold impl_constants.f at H
  refine enter Try.func92 rfl Try.ntmps92 rfl fun a hk => ?_
  apply wp_seq_k; intro K1 hK1
  apply wp_region_lit
  refine sala 1 ((Lay.int .u32)) (m := 64) (z := 0) (zc := [.int .u32 0]) hs rfl hk rfl rfl ze91 (by exact ⟨rfl, rfl⟩) rfl rfl rfl fun b2 k3 w a hk o4 hs => ?_
  have lh5 : (List.replicate 64 (0 : Int)).length = 64 := List.length_replicate
  show wpList _ _ _ [] _ _
  refine wpList_nil ?_
  refine hK1 _ _ ?_
  apply wp_seq_k; intro K6 hK6
  apply wp_region_lit
  refine sbd (pv := [(0, (.int .u32 1116352408)), (1, (.int .u32 1899447441)), (2, (.int .u32 3049323471)), (3, (.int .u32 3921009573)), (4, (.int .u32 961987163)), (5, (.int .u32 1508970993)), (6, (.int .u32 2453635748)), (7, (.int .u32 2870763221)), (8, (.int .u32 3624381080)), (9, (.int .u32 310598401)), (10, (.int .u32 607225278)), (11, (.int .u32 1426881987)), (12, (.int .u32 1925078388)), (13, (.int .u32 2162078206)), (14, (.int .u32 2614888103)), (15, (.int .u32 3248222580)), (16, (.int .u32 3835390401)), (17, (.int .u32 4022224774)), (18, (.int .u32 264347078)), (19, (.int .u32 604807628)), (20, (.int .u32 770255983)), (21, (.int .u32 1249150122)), (22, (.int .u32 1555081692)), (23, (.int .u32 1996064986)), (24, (.int .u32 2554220882)), (25, (.int .u32 2821834349)), (26, (.int .u32 2952996808)), (27, (.int .u32 3210313671)), (28, (.int .u32 3336571891)), (29, (.int .u32 3584528711)), (30, (.int .u32 113926993)), (31, (.int .u32 338241895)), (32, (.int .u32 666307205)), (33, (.int .u32 773529912)), (34, (.int .u32 1294757372)), (35, (.int .u32 1396182291)), (36, (.int .u32 1695183700)), (37, (.int .u32 1986661051)), (38, (.int .u32 2177026350)), (39, (.int .u32 2456956037)), (40, (.int .u32 2730485921)), (41, (.int .u32 2820302411)), (42, (.int .u32 3259730800)), (43, (.int .u32 3345764771)), (44, (.int .u32 3516065817)), (45, (.int .u32 3600352804)), (46, (.int .u32 4094571909)), (47, (.int .u32 275423344)), (48, (.int .u32 430227734)), (49, (.int .u32 506948616)), (50, (.int .u32 659060556)), (51, (.int .u32 883997877)), (52, (.int .u32 958139571)), (53, (.int .u32 1322822218)), (54, (.int .u32 1537002063)), (55, (.int .u32 1747873779)), (56, (.int .u32 1955562222)), (57, (.int .u32 2024104815)), (58, (.int .u32 2227730452)), (59, (.int .u32 2361852424)), (60, (.int .u32 2428436474)), (61, (.int .u32 2756734187)), (62, (.int .u32 3204031479)), (63, (.int .u32 3329325298))]) rfl hk rfl rfl rfl (bd91_5 1116352408 1899447441 3049323471 3921009573 961987163 1508970993 2453635748 2870763221 3624381080 310598401 607225278 1426881987 1925078388 2162078206 2614888103 3248222580 3835390401 4022224774 264347078 604807628 770255983 1249150122 1555081692 1996064986 2554220882 2821834349 2952996808 3210313671 3336571891 3584528711 113926993 338241895 666307205 773529912 1294757372 1396182291 1695183700 1986661051 2177026350 2456956037 2730485921 2820302411 3259730800 3345764771 3516065817 3600352804 4094571909 275423344 430227734 506948616 659060556 883997877 958139571 1322822218 1537002063 1747873779 1955562222 2024104815 2227730452 2361852424 2428436474 2756734187 3204031479 3329325298) fun a hk => ?_
  have lh7 : ([1116352408, 1899447441, 3049323471, 3921009573, 961987163, 1508970993, 2453635748, 2870763221, 3624381080, 310598401, 607225278, 1426881987, 1925078388, 2162078206, 2614888103, 3248222580, 3835390401, 4022224774, 264347078, 604807628, 770255983, 1249150122, 1555081692, 1996064986, 2554220882, 2821834349, 2952996808, 3210313671, 3336571891, 3584528711, 113926993, 338241895, 666307205, 773529912, 1294757372, 1396182291, 1695183700, 1986661051, 2177026350, 2456956037, 2730485921, 2820302411, 3259730800, 3345764771, 3516065817, 3600352804, 4094571909, 275423344, 430227734, 506948616, 659060556, 883997877, 958139571, 1322822218, 1537002063, 1747873779, 1955562222, 2024104815, 2227730452, 2361852424, 2428436474, 2756734187, 3204031479, 3329325298] : List Int).length = 64 := rfl
  refine sswa 1 ([1116352408, 1899447441, 3049323471, 3921009573, 961987163, 1508970993, 2453635748, 2870763221, 3624381080, 310598401, 607225278, 1426881987, 1925078388, 2162078206, 2614888103, 3248222580, 3835390401, 4022224774, 264347078, 604807628, 770255983, 1249150122, 1555081692, 1996064986, 2554220882, 2821834349, 2952996808, 3210313671, 3336571891, 3584528711, 113926993, 338241895, 666307205, 773529912, 1294757372, 1396182291, 1695183700, 1986661051, 2177026350, 2456956037, 2730485921, 2820302411, 3259730800, 3345764771, 3516065817, 3600352804, 4094571909, 275423344, 430227734, 506948616, 659060556, 883997877, 958139571, 1322822218, 1537002063, 1747873779, 1955562222, 2024104815, 2227730452, 2361852424, 2428436474, 2756734187, 3204031479, 3329325298] : List Int) hs rfl o4 lh5 lh7 rfl rfl hk rfl rfl rfl rfl sz91 fun k8 w a hk o9 hs => ?_
  show wpList _ _ _ [] _ _
  refine wpList_nil ?_
  refine hK6 _ _ ?_
  refine wp_ret ?_
  obtain rfl := Option.some.inj H
  exact fin hk _ [(aggI .u32 ([1116352408, 1899447441, 3049323471, 3921009573, 961987163, 1508970993, 2453635748, 2870763221, 3624381080, 310598401, 607225278, 1426881987, 1925078388, 2162078206, 2614888103, 3248222580, 3835390401, 4022224774, 264347078, 604807628, 770255983, 1249150122, 1555081692, 1996064986, 2554220882, 2821834349, 2952996808, 3210313671, 3336571891, 3584528711, 113926993, 338241895, 666307205, 773529912, 1294757372, 1396182291, 1695183700, 1986661051, 2177026350, 2456956037, 2730485921, 2820302411, 3259730800, 3345764771, 3516065817, 3600352804, 4094571909, 275423344, 430227734, 506948616, 659060556, 883997877, 958139571, 1322822218, 1537002063, 1747873779, 1955562222, 2024104815, 2227730452, 2361852424, 2428436474, 2756734187, 3204031479, 3329325298] : List Int))] rfl ⟨⟨_, rfl, run_loadA ag91 sz91 o9 lh7 hs (q := 1) rfl⟩, trivial⟩ ⟨rfl, lh7, (hs.pick [] rfl).dnil⟩

noncomputable def math_bits_RotateLeft32.f (x0 : Int) (x1 : Int) : Option (Int) :=
  (if 0 ≤ (IntKind.wrap .u64 ((BitVec.ofInt 64 (IntKind.wrap .u64 x1) &&& BitVec.ofInt 64 31).toNat : Int)) then (if 0 ≤ (IntKind.wrap .u64 (32 - (IntKind.wrap .u64 ((BitVec.ofInt 64 (IntKind.wrap .u64 x1) &&& BitVec.ofInt 64 31).toNat : Int)))) then (some (IntKind.wrap .u32 ((BitVec.ofInt 32 (IntKind.wrap .u32 (x0 * 2 ^ min (IntKind.wrap .u64 ((BitVec.ofInt 64 (IntKind.wrap .u64 x1) &&& BitVec.ofInt 64 31).toNat : Int)).toNat 32)) ||| BitVec.ofInt 32 (Int.fdiv x0 (2 ^ min (IntKind.wrap .u64 (32 - (IntKind.wrap .u64 ((BitVec.ofInt 64 (IntKind.wrap .u64 x1) &&& BitVec.ofInt 64 31).toNat : Int)))).toNat 32))).toNat : Int))) else none) else none)
set_option maxRecDepth 100000 in
set_option maxHeartbeats 0 in
theorem math_bits_RotateLeft32_t (w0 : World) (x0 : Int) (x1 : Int) (r : Int) (H : math_bits_RotateLeft32.f x0 x1 = some r) :
    Calls Try.prog 111 #[.int .u32 x0, .int .i64 x1] w0 (Ret (fun v w => v = .int .u32 r ∧ Sat [] w0 w [] [])) := by
  have hs : Sat [] w0 w0 [] [] := Sat.init w0 [] [] (by simp) (by simp) List.nodup_nil (by simp [blks])
  unfold math_bits_RotateLeft32.f at H
  refine enter Try.func111 rfl Try.ntmps111 rfl fun a hk => ?_
  apply wp_seq_k; intro K1 hK1
  apply wp_region_lit
  refine sa _ rfl hk rfl rfl rfl fun a hk => ?_
  show wpList _ _ _ [] _ _
  refine wpList_nil ?_
  refine hK1 _ _ ?_
  apply wp_seq_k; intro K2 hK2
  apply wp_region_lit
  refine sm _ rfl hk rfl rfl rfl fun a hk => ?_
  refine scn rfl hk rfl rfl rfl un96 un3 fun a hk => ?_
  refine sv (.int .u64 (IntKind.wrap .u64 ((BitVec.ofInt 64 (IntKind.wrap .u64 x1) &&& BitVec.ofInt 64 31).toNat : Int))) hk rfl rfl rfl fun a hk => ?_
  refine sa _ rfl hk rfl rfl rfl fun a hk => ?_
  show wpList _ _ _ [] _ _
  refine wpList_nil ?_
  refine hK2 _ _ ?_
  apply wp_seq_k; intro K3 hK3
  apply wp_region_lit
  refine sm _ rfl hk rfl rfl rfl fun a hk => ?_
  refine sm _ rfl hk rfl rfl rfl fun a hk => ?_
  rcases ite_some H with ⟨c4, H⟩ | ⟨_, H⟩
  rotate_left
  ·cases H
  refine ssh rfl hk rfl rfl rfl rfl c4 fun a hk => ?_
  refine sm _ rfl hk rfl rfl rfl fun a hk => ?_
  refine sm _ rfl hk rfl rfl rfl fun a hk => ?_
  refine sv (.int .u64 (IntKind.wrap .u64 (32 - (IntKind.wrap .u64 ((BitVec.ofInt 64 (IntKind.wrap .u64 x1) &&& BitVec.ofInt 64 31).toNat : Int))))) hk rfl rfl rfl fun a hk => ?_
  rcases ite_some H with ⟨c5, H⟩ | ⟨_, H⟩
  rotate_left
  ·cases H
  refine ssr rfl hk rfl rfl rfl rfl c5 fun a hk => ?_
  refine sv (.int .u32 (IntKind.wrap .u32 ((BitVec.ofInt 32 (IntKind.wrap .u32 (x0 * 2 ^ min (IntKind.wrap .u64 ((BitVec.ofInt 64 (IntKind.wrap .u64 x1) &&& BitVec.ofInt 64 31).toNat : Int)).toNat 32)) ||| BitVec.ofInt 32 (Int.fdiv x0 (2 ^ min (IntKind.wrap .u64 (32 - (IntKind.wrap .u64 ((BitVec.ofInt 64 (IntKind.wrap .u64 x1) &&& BitVec.ofInt 64 31).toNat : Int)))).toNat 32))).toNat : Int))) hk rfl rfl rfl fun a hk => ?_
  refine sa _ rfl hk rfl rfl rfl fun a hk => ?_
  show wpList _ _ _ [] _ _
  refine wpList_nil ?_
  refine hK3 _ _ ?_
  refine wp_ret ?_
  obtain rfl := Option.some.inj H
  exact fin hk _ [(.int .u32 (IntKind.wrap .u32 ((BitVec.ofInt 32 (IntKind.wrap .u32 (x0 * 2 ^ min (IntKind.wrap .u64 ((BitVec.ofInt 64 (IntKind.wrap .u64 x1) &&& BitVec.ofInt 64 31).toNat : Int)).toNat 32)) ||| BitVec.ofInt 32 (Int.fdiv x0 (2 ^ min (IntKind.wrap .u64 (32 - (IntKind.wrap .u64 ((BitVec.ofInt 64 (IntKind.wrap .u64 x1) &&& BitVec.ofInt 64 31).toNat : Int)))).toNat 32))).toNat : Int)))] rfl ⟨rfl, trivial⟩ ⟨rfl, (hs.pick [] rfl).dnil⟩

noncomputable def impl_turned.f (x0 : Int) (x1 : Int) : Option (Int) :=
  ((math_bits_RotateLeft32.f x0 (w64 (0 - x1))).bind fun y3 => (some y3))
set_option maxRecDepth 100000 in
set_option maxHeartbeats 0 in
theorem impl_turned_t (w0 : World) (x0 : Int) (x1 : Int) (r : Int) (H : impl_turned.f x0 x1 = some r) :
    Calls Try.prog 124 #[.int .u32 x0, .int .i64 x1] w0 (Ret (fun v w => v = .int .u32 r ∧ Sat [] w0 w [] [])) := by
  have hs : Sat [] w0 w0 [] [] := Sat.init w0 [] [] (by simp) (by simp) List.nodup_nil (by simp [blks])
  unfold impl_turned.f at H
  refine enter Try.func124 rfl Try.ntmps124 rfl fun a hk => ?_
  apply wp_seq_k; intro K1 hK1
  apply wp_region_lit
  refine sa _ rfl hk rfl rfl rfl fun a hk => ?_
  show wpList _ _ _ [] _ _
  refine wpList_nil ?_
  refine hK1 _ _ ?_
  apply wp_seq_k; intro K2 hK2
  apply wp_region_lit
  refine sm _ rfl hk rfl rfl rfl fun a hk => ?_
  refine sm _ rfl hk rfl rfl rfl fun a hk => ?_
  refine sv (.int .i64 (w64 (0 - x1))) hk rfl rfl rfl fun a hk => ?_
  obtain ⟨y3, h4, H⟩ := bind_some H
  refine sc rfl en111 hk rfl rfl rfl (math_bits_RotateLeft32_t _ x0 (w64 (0 - x1)) _ h4) ?_
  rintro _ w ⟨rfl, hG⟩ a hk
  have hs := hs.call0 hG
  refine sa _ rfl hk rfl rfl rfl fun a hk => ?_
  show wpList _ _ _ [] _ _
  refine wpList_nil ?_
  refine hK2 _ _ ?_
  refine wp_ret ?_
  obtain rfl := Option.some.inj H
  exact fin hk _ [(.int .u32 y3)] rfl ⟨rfl, trivial⟩ ⟨rfl, (hs.pick [] rfl).dnil⟩

noncomputable def impl_Hash_block.s0 (x1 : ByteArray) (u10 : List Int) (u14 : Int) : Option (((List Int) × Int) ⊕ Ex ((List Int)) (Int × Int × Int × Int × Int × Int × Int × Int × ByteArray × Int)) :=
  (bif (decide (u14 < 16)) then (if 0 ≤ (w64 (4 * u14)) ∧ (w64 (4 * u14)) < (x1.size : Int) then (if 0 ≤ (w64 ((w64 (4 * u14)) + 1)) ∧ (w64 ((w64 (4 * u14)) + 1)) < (x1.size : Int) then (if 0 ≤ (w64 ((w64 (4 * u14)) + 2)) ∧ (w64 ((w64 (4 * u14)) + 2)) < (x1.size : Int) then (if 0 ≤ (w64 ((w64 (4 * u14)) + 3)) ∧ (w64 ((w64 (4 * u14)) + 3)) < (x1.size : Int) then (if 0 ≤ u14 ∧ u14 < (64 : Int) then (some (.inl ((u10.set u14.toNat (IntKind.wrap .u32 ((BitVec.ofInt 32 (IntKind.wrap .u32 ((BitVec.ofInt 32 (IntKind.wrap .u32 ((BitVec.ofInt 32 (IntKind.wrap .u32 ((IntKind.wrap .u32 (byteAt x1 (w64 (4 * u14)))) * 2 ^ 24)) ||| BitVec.ofInt 32 (IntKind.wrap .u32 ((IntKind.wrap .u32 (byteAt x1 (w64 ((w64 (4 * u14)) + 1)))) * 2 ^ 16))).toNat : Int)) ||| BitVec.ofInt 32 (IntKind.wrap .u32 ((IntKind.wrap .u32 (byteAt x1 (w64 ((w64 (4 * u14)) + 2)))) * 2 ^ 8))).toNat : Int)) ||| BitVec.ofInt 32 (IntKind.wrap .u32 (byteAt x1 (w64 ((w64 (4 * u14)) + 3))))).toNat : Int))), (w64 (u14 + 1))))) else none) else none) else none) else none) else none) else (some (.inr (.out u10))))
noncomputable def impl_Hash_block.s1  (u48 : List Int) (u52 : Int) : Option (((List Int) × Int) ⊕ Ex ((List Int)) (Int × Int × Int × Int × Int × Int × Int × Int × ByteArray × Int)) :=
  (bif (decide (u52 < 64)) then (if 0 ≤ (w64 (u52 - 15)) ∧ (w64 (u52 - 15)) < (64 : Int) then (if 0 ≤ (w64 (u52 - 2)) ∧ (w64 (u52 - 2)) < (64 : Int) then (if 0 ≤ (w64 (u52 - 16)) ∧ (w64 (u52 - 16)) < (64 : Int) then ((impl_turned.f (u48.getD (w64 (u52 - 15)).toNat 0) 7).bind fun y84 => ((impl_turned.f (u48.getD (w64 (u52 - 15)).toNat 0) 18).bind fun y86 => (if 0 ≤ (w64 (u52 - 7)) ∧ (w64 (u52 - 7)) < (64 : Int) then ((impl_turned.f (u48.getD (w64 (u52 - 2)).toNat 0) 17).bind fun y92 => ((impl_turned.f (u48.getD (w64 (u52 - 2)).toNat 0) 19).bind fun y94 => (if 0 ≤ u52 ∧ u52 < (64 : Int) then (some (.inl ((u48.set u52.toNat (IntKind.wrap .u32 ((IntKind.wrap .u32 ((IntKind.wrap .u32 ((u48.getD (w64 (u52 - 16)).toNat 0) + (IntKind.wrap .u32 ((BitVec.ofInt 32 (IntKind.wrap .u32 ((BitVec.ofInt 32 y84 ^^^ BitVec.ofInt 32 y86).toNat : Int)) ^^^ BitVec.ofInt 32 (Int.fdiv (u48.getD (w64 (u52 - 15)).toNat 0) (2 ^ 3))).toNat : Int)))) + (u48.getD (w64 (u52 - 7)).toNat 0))) + (IntKind.wrap .u32 ((BitVec.ofInt 32 (IntKind.wrap .u32 ((BitVec.ofInt 32 y92 ^^^ BitVec.ofInt 32 y94).toNat : Int)) ^^^ BitVec.ofInt 32 (Int.fdiv (u48.getD (w64 (u52 - 2)).toNat 0) (2 ^ 10))).toNat : Int))))), (w64 (u52 + 1))))) else none))) else none))) else none) else none) else none) else (some (.inr (.out u48))))
noncomputable def impl_Hash_block.s2 (x0 : S_Hash) (u113 : List Int) (u117 : Int) : Option (((List Int) × Int) ⊕ Ex ((List Int)) (Int × Int × Int × Int × Int × Int × Int × Int × ByteArray × Int)) :=
  (bif (decide (u117 < 8)) then (if 0 ≤ u117 ∧ u117 < (8 : Int) then (if 0 ≤ u117 ∧ u117 < (8 : Int) then (some (.inl ((u113.set u117.toNat (IntKind.wrap .u32 (([x0.H0, x0.H1, x0.H2, x0.H3, x0.H4, x0.H5, x0.H6, x0.H7] : List Int).getD u117.toNat 0))), (w64 (u117 + 1))))) else none) else none) else (some (.inr (.out u113))))
noncomputable def impl_Hash_block.s3 (l2 : List Int) (u53 : List Int) (u147 : List Int) (u151 : Int) : Option (((List Int) × Int) ⊕ Ex ((List Int)) (Int × Int × Int × Int × Int × Int × Int × Int × ByteArray × Int)) :=
  (bif (decide (u151 < 64)) then (if 0 ≤ (0 : Int) ∧ (0 : Int) < (8 : Int) then (if 0 ≤ (1 : Int) ∧ (1 : Int) < (8 : Int) then (if 0 ≤ (2 : Int) ∧ (2 : Int) < (8 : Int) then (if 0 ≤ (4 : Int) ∧ (4 : Int) < (8 : Int) then (if 0 ≤ (5 : Int) ∧ (5 : Int) < (8 : Int) then (if 0 ≤ (6 : Int) ∧ (6 : Int) < (8 : Int) then (if 0 ≤ (7 : Int) ∧ (7 : Int) < (8 : Int) then ((impl_turned.f (u147.getD (4 : Int).toNat 0) 6).bind fun y201 => ((impl_turned.f (u147.getD (4 : Int).toNat 0) 11).bind fun y203 => ((impl_turned.f (u147.getD (4 : Int).toNat 0) 25).bind fun y205 => (if 0 ≤ u151 ∧ u151 < (64 : Int) then (if 0 ≤ u151 ∧ u151 < (64 : Int) then ((impl_turned.f (u147.getD (0 : Int).toNat 0) 2).bind fun y216 => ((impl_turned.f (u147.getD (0 : Int).toNat 0) 13).bind fun y218 => ((impl_turned.f (u147.getD (0 : Int).toNat 0) 22).bind fun y220 => (if 0 ≤ (3 : Int) ∧ (3 : Int) < (8 : Int) then (some (.inl (([(IntKind.wrap .u32 ((IntKind.wrap .u32 ((IntKind.wrap .u32 ((IntKind.wrap .u32 ((IntKind.wrap .u32 ((u147.getD (7 : Int).toNat 0) + (IntKind.wrap .u32 ((BitVec.ofInt 32 (IntKind.wrap .u32 ((BitVec.ofInt 32 y201 ^^^ BitVec.ofInt 32 y203).toNat : Int)) ^^^ BitVec.ofInt 32 y205).toNat : Int)))) + (IntKind.wrap .u32 ((BitVec.ofInt 32 (IntKind.wrap .u32 ((BitVec.ofInt 32 (u147.getD (4 : Int).toNat 0) &&& BitVec.ofInt 32 (u147.getD (5 : Int).toNat 0)).toNat : Int)) ^^^ BitVec.ofInt 32 (IntKind.wrap .u32 ((BitVec.ofInt 32 (IntKind.wrap .u32 ((BitVec.ofInt 32 4294967295 ^^^ BitVec.ofInt 32 (u147.getD (4 : Int).toNat 0)).toNat : Int)) &&& BitVec.ofInt 32 (u147.getD (6 : Int).toNat 0)).toNat : Int))).toNat : Int)))) + (l2.getD u151.toNat 0))) + (u53.getD u151.toNat 0))) + (IntKind.wrap .u32 ((IntKind.wrap .u32 ((BitVec.ofInt 32 (IntKind.wrap .u32 ((BitVec.ofInt 32 y216 ^^^ BitVec.ofInt 32 y218).toNat : Int)) ^^^ BitVec.ofInt 32 y220).toNat : Int)) + (IntKind.wrap .u32 ((BitVec.ofInt 32 (IntKind.wrap .u32 ((BitVec.ofInt 32 (IntKind.wrap .u32 ((BitVec.ofInt 32 (u147.getD (0 : Int).toNat 0) &&& BitVec.ofInt 32 (u147.getD (1 : Int).toNat 0)).toNat : Int)) ^^^ BitVec.ofInt 32 (IntKind.wrap .u32 ((BitVec.ofInt 32 (u147.getD (0 : Int).toNat 0) &&& BitVec.ofInt 32 (u147.getD (2 : Int).toNat 0)).toNat : Int))).toNat : Int)) ^^^ BitVec.ofInt 32 (IntKind.wrap .u32 ((BitVec.ofInt 32 (u147.getD (1 : Int).toNat 0) &&& BitVec.ofInt 32 (u147.getD (2 : Int).toNat 0)).toNat : Int))).toNat : Int)))))), (u147.getD (0 : Int).toNat 0), (u147.getD (1 : Int).toNat 0), (u147.getD (2 : Int).toNat 0), (IntKind.wrap .u32 ((u147.getD (3 : Int).toNat 0) + (IntKind.wrap .u32 ((IntKind.wrap .u32 ((IntKind.wrap .u32 ((IntKind.wrap .u32 ((u147.getD (7 : Int).toNat 0) + (IntKind.wrap .u32 ((BitVec.ofInt 32 (IntKind.wrap .u32 ((BitVec.ofInt 32 y201 ^^^ BitVec.ofInt 32 y203).toNat : Int)) ^^^ BitVec.ofInt 32 y205).toNat : Int)))) + (IntKind.wrap .u32 ((BitVec.ofInt 32 (IntKind.wrap .u32 ((BitVec.ofInt 32 (u147.getD (4 : Int).toNat 0) &&& BitVec.ofInt 32 (u147.getD (5 : Int).toNat 0)).toNat : Int)) ^^^ BitVec.ofInt 32 (IntKind.wrap .u32 ((BitVec.ofInt 32 (IntKind.wrap .u32 ((BitVec.ofInt 32 4294967295 ^^^ BitVec.ofInt 32 (u147.getD (4 : Int).toNat 0)).toNat : Int)) &&& BitVec.ofInt 32 (u147.getD (6 : Int).toNat 0)).toNat : Int))).toNat : Int)))) + (l2.getD u151.toNat 0))) + (u53.getD u151.toNat 0))))), (u147.getD (4 : Int).toNat 0), (u147.getD (5 : Int).toNat 0), (u147.getD (6 : Int).toNat 0)] : List Int), (w64 (u151 + 1))))) else none)))) else none) else none)))) else none) else none) else none) else none) else none) else none) else none) else (some (.inr (.out u147))))
noncomputable def impl_Hash_block.s4 (u152 : List Int) (u233 : Int) (u234 : Int) (u235 : Int) (u236 : Int) (u237 : Int) (u238 : Int) (u239 : Int) (u240 : Int) (u241 : Int) : Option ((Int × Int × Int × Int × Int × Int × Int × Int × Int) ⊕ Ex (Int × Int × Int × Int × Int × Int × Int × Int) (Int × Int × Int × Int × Int × Int × Int × Int × ByteArray × Int)) :=
  (bif (decide (u233 < 8)) then (if 0 ≤ u233 ∧ u233 < (8 : Int) then (if 0 ≤ u233 ∧ u233 < (8 : Int) then (if 0 ≤ u233 ∧ u233 < (8 : Int) then (some (.inl ((w64 (u233 + 1)), ((([u234, u235, u236, u237, u238, u239, u240, u241] : List Int).set u233.toNat (IntKind.wrap .i64 (IntKind.wrap .u32 ((IntKind.wrap .u32 (([u234, u235, u236, u237, u238, u239, u240, u241] : List Int).getD u233.toNat 0)) + (u152.getD u233.toNat 0))))).getD 0 0), ((([u234, u235, u236, u237, u238, u239, u240, u241] : List Int).set u233.toNat (IntKind.wrap .i64 (IntKind.wrap .u32 ((IntKind.wrap .u32 (([u234, u235, u236, u237, u238, u239, u240, u241] : List Int).getD u233.toNat 0)) + (u152.getD u233.toNat 0))))).getD 1 0), ((([u234, u235, u236, u237, u238, u239, u240, u241] : List Int).set u233.toNat (IntKind.wrap .i64 (IntKind.wrap .u32 ((IntKind.wrap .u32 (([u234, u235, u236, u237, u238, u239, u240, u241] : List Int).getD u233.toNat 0)) + (u152.getD u233.toNat 0))))).getD 2 0), ((([u234, u235, u236, u237, u238, u239, u240, u241] : List Int).set u233.toNat (IntKind.wrap .i64 (IntKind.wrap .u32 ((IntKind.wrap .u32 (([u234, u235, u236, u237, u238, u239, u240, u241] : List Int).getD u233.toNat 0)) + (u152.getD u233.toNat 0))))).getD 3 0), ((([u234, u235, u236, u237, u238, u239, u240, u241] : List Int).set u233.toNat (IntKind.wrap .i64 (IntKind.wrap .u32 ((IntKind.wrap .u32 (([u234, u235, u236, u237, u238, u239, u240, u241] : List Int).getD u233.toNat 0)) + (u152.getD u233.toNat 0))))).getD 4 0), ((([u234, u235, u236, u237, u238, u239, u240, u241] : List Int).set u233.toNat (IntKind.wrap .i64 (IntKind.wrap .u32 ((IntKind.wrap .u32 (([u234, u235, u236, u237, u238, u239, u240, u241] : List Int).getD u233.toNat 0)) + (u152.getD u233.toNat 0))))).getD 5 0), ((([u234, u235, u236, u237, u238, u239, u240, u241] : List Int).set u233.toNat (IntKind.wrap .i64 (IntKind.wrap .u32 ((IntKind.wrap .u32 (([u234, u235, u236, u237, u238, u239, u240, u241] : List Int).getD u233.toNat 0)) + (u152.getD u233.toNat 0))))).getD 6 0), ((([u234, u235, u236, u237, u238, u239, u240, u241] : List Int).set u233.toNat (IntKind.wrap .i64 (IntKind.wrap .u32 ((IntKind.wrap .u32 (([u234, u235, u236, u237, u238, u239, u240, u241] : List Int).getD u233.toNat 0)) + (u152.getD u233.toNat 0))))).getD 7 0)))) else none) else none) else none) else (some (.inr (.out (u234, u235, u236, u237, u238, u239, u240, u241)))))
noncomputable def impl_Hash_block.f (x0 : S_Hash) (x1 : ByteArray) (l2 : List Int) : Option (Int × Int × Int × Int × Int × Int × Int × Int × ByteArray × Int) :=
  ((loopO (fun s => impl_Hash_block.s0 x1 s.1 s.2) ((List.replicate 64 (0 : Int)), 0)).bind fun o => match o with | .out u15 => ((loopO (fun s => impl_Hash_block.s1  s.1 s.2) (u15, 16)).bind fun o => match o with | .out u53 => ((loopO (fun s => impl_Hash_block.s2 x0 s.1 s.2) ((List.replicate 8 (0 : Int)), 0)).bind fun o => match o with | .out u118 => ((loopO (fun s => impl_Hash_block.s3 l2 u53 s.1 s.2) (u118, 0)).bind fun o => match o with | .out u152 => ((loopO (fun s => impl_Hash_block.s4 u152 s.1 s.2.1 s.2.2.1 s.2.2.2.1 s.2.2.2.2.1 s.2.2.2.2.2.1 s.2.2.2.2.2.2.1 s.2.2.2.2.2.2.2.1 s.2.2.2.2.2.2.2.2) (0, x0.H0, x0.H1, x0.H2, x0.H3, x0.H4, x0.H5, x0.H6, x0.H7)).bind fun o => match o with | .out (u242, u243, u244, u245, u246, u247, u248, u249) => (some (u242, u243, u244, u245, u246, u247, u248, u249, x0.Buf, x0.N)) | .ret r => (some r)) | .ret r => (some r)) | .ret r => (some r)) | .ret r => (some r)) | .ret r => (some r))
set_option maxRecDepth 100000 in
set_option maxHeartbeats 0 in
theorem impl_Hash_block_t (w0 : World) (b0_ : Nat) (x0 : S_Hash) (x1 : ByteArray) (b2_ : Nat) (l2 : List Int) (k2_ : Chunk) (v2_ : View (Lay.int .u32) (some ⟨b2_, 0, none⟩) 64 l2 k2_) (w2_ : Has w0 k2_) (e2_ : l2.length = 64) (hs0 : Sat (blks [(1, [(b0_, .cells #[.int .i64 x0.H0, .int .i64 x0.H1, .int .i64 x0.H2, .int .i64 x0.H3, .int .i64 x0.H4, .int .i64 x0.H5, .int .i64 x0.H6, .int .i64 x0.H7, .string x0.Buf, .int .i64 x0.N] 29 (0, 0))])]) w0 w0 [(2, k2_)] [(1, [(b0_, .cells #[.int .i64 x0.H0, .int .i64 x0.H1, .int .i64 x0.H2, .int .i64 x0.H3, .int .i64 x0.H4, .int .i64 x0.H5, .int .i64 x0.H6, .int .i64 x0.H7, .string x0.Buf, .int .i64 x0.N] 29 (0, 0))])]) (r : Int × Int × Int × Int × Int × Int × Int × Int × ByteArray × Int) (H : impl_Hash_block.f x0 x1 l2 = some r) :
    Calls Try.prog 93 #[.pointer (some ⟨b0_, 0, none⟩), .string x1, .pointer (some ⟨b2_, 0, none⟩)] w0 (Ret (fun v w => v = .tuple #[] ∧ Sat (blks [(1, [(b0_, .cells #[.int .i64 x0.H0, .int .i64 x0.H1, .int .i64 x0.H2, .int .i64 x0.H3, .int .i64 x0.H4, .int .i64 x0.H5, .int .i64 x0.H6, .int .i64 x0.H7, .string x0.Buf, .int .i64 x0.N] 29 (0, 0))])]) w0 w [] [(0, [(b0_, .cells #[.int .i64 r.1, .int .i64 r.2.1, .int .i64 r.2.2.1, .int .i64 r.2.2.2.1, .int .i64 r.2.2.2.2.1, .int .i64 r.2.2.2.2.2.1, .int .i64 r.2.2.2.2.2.2.1, .int .i64 r.2.2.2.2.2.2.2.1, .string r.2.2.2.2.2.2.2.2.1, .int .i64 r.2.2.2.2.2.2.2.2.2] 29 (0, 0))])])) := by
  have hs := hs0
  unfold impl_Hash_block.f at H
  refine enter Try.func93 rfl Try.ntmps93 rfl fun a hk => ?_
  apply wp_seq_k; intro K1 hK1
  apply wp_region_lit
  refine sala 3 ((Lay.int .u32)) (m := 64) (z := 0) (zc := [.int .u32 0]) hs rfl hk rfl rfl ze91 (by exact ⟨rfl, rfl⟩) rfl rfl rfl fun b2 k3 w a hk o4 hs => ?_
  have lh5 : (List.replicate 64 (0 : Int)).length = 64 := List.length_replicate
  show wpList _ _ _ [] _ _
  refine wpList_nil ?_
  refine hK1 _ _ ?_
  apply wp_seq_k; intro K6 hK6
  apply wp_seq_k; intro K7 hK7
  apply wp_region_lit
  refine sm _ rfl hk rfl rfl rfl fun a hk => ?_
  show wpList _ _ _ [] _ _
  refine wpList_nil ?_
  refine hK7 _ _ ?_
  obtain ⟨o19, h20, HL21⟩ := bind_some H
  clear H
  obtain ⟨R22, hR22⟩ : ∃ R : Act → World → Prop, R = fun a w => ∃ (u15 : List Int) (k16 : Chunk), o19 = .out u15 ∧ Kn [(0, (.pointer (some ⟨b0_, 0, none⟩))), (2, (.pointer (some ⟨b2_, 0, none⟩))), (6, (.pointer (some ⟨b2, 0, none⟩)))] 215 a ∧ Sat (blks [(1, [(b0_, .cells #[.int .i64 x0.H0, .int .i64 x0.H1, .int .i64 x0.H2, .int .i64 x0.H3, .int .i64 x0.H4, .int .i64 x0.H5, .int .i64 x0.H6, .int .i64 x0.H7, .string x0.Buf, .int .i64 x0.N] 29 (0, 0))])]) w0 w [(2, k2_)] [(3, k16), (1, [(b0_, .cells #[.int .i64 x0.H0, .int .i64 x0.H1, .int .i64 x0.H2, .int .i64 x0.H3, .int .i64 x0.H4, .int .i64 x0.H5, .int .i64 x0.H6, .int .i64 x0.H7, .string x0.Buf, .int .i64 x0.N] 29 (0, 0))])] ∧ Own (Lay.int .u32) 91 (some ⟨b2, 0, none⟩) 64 u15 k16 ∧ u15.length = 64 := ⟨_, rfl⟩
  refine wp_cutq R22 ?_ ?_
  ·refine wp_block ?_
   obtain ⟨fu24, h20⟩ := loopO_some h20
   obtain ⟨I23, hI23⟩ : ∃ I : Nat → Act → World → Prop, I = fun fu a w => ∃ (u10 : List Int) (u14 : Int) (k11 : Chunk), loopN (fun s => impl_Hash_block.s0 x1 s.1 s.2) fu (u10, u14) = some o19 ∧ Kn [(0, (.pointer (some ⟨b0_, 0, none⟩))), (1, (.string x1)), (2, (.pointer (some ⟨b2_, 0, none⟩))), (6, (.pointer (some ⟨b2, 0, none⟩))), (25, (.int .i64 u14))] 215 a ∧ Sat (blks [(1, [(b0_, .cells #[.int .i64 x0.H0, .int .i64 x0.H1, .int .i64 x0.H2, .int .i64 x0.H3, .int .i64 x0.H4, .int .i64 x0.H5, .int .i64 x0.H6, .int .i64 x0.H7, .string x0.Buf, .int .i64 x0.N] 29 (0, 0))])]) w0 w [(2, k2_)] [(3, k11), (1, [(b0_, .cells #[.int .i64 x0.H0, .int .i64 x0.H1, .int .i64 x0.H2, .int .i64 x0.H3, .int .i64 x0.H4, .int .i64 x0.H5, .int .i64 x0.H6, .int .i64 x0.H7, .string x0.Buf, .int .i64 x0.N] 29 (0, 0))])] ∧ Own (Lay.int .u32) 91 (some ⟨b2, 0, none⟩) 64 u10 k11 ∧ u10.length = 64 := ⟨_, rfl⟩
   refine wp_loop_ghost I23 fu24 ?_ ?_
   ·rw [hI23]
    exact ⟨(List.replicate 64 (0 : Int)), 0, _, h20, (hk.c 0 rfl (hk.c 1 rfl (hk.c 2 rfl (hk.c 6 rfl (hk.c 25 rfl hk.k))))), (hs.pick [(3, 3), (1, 1)] rfl), o4, lh5⟩
   ·clear h20 hk hs
    intro fu24 a w hI0
    rw [hI23] at hI0
    obtain ⟨u10, u14, k11, hi, hk, hs, o12, lh13⟩ := hI0
    obtain ⟨x25, H, h26⟩ := loop_round hi
    try dsimp only at H
    unfold impl_Hash_block.s0 at H
    apply wp_seq_k; intro K27 hK27
    apply wp_region_lit
    refine sv (.bool (decide (u14 < 16))) hk rfl rfl rfl fun a hk => ?_
    show wpList _ _ _ [] _ _
    refine wpList_nil ?_
    refine hK27 _ _ ?_
    apply wp_seq_k; intro K28 hK28
    rcases cond_some H with ⟨c29, H⟩ | ⟨c29, H⟩
    ·have hk := hk.lit 26 c29 rfl
     refine cnd_true hk rfl rfl ?_
     refine wp_skip ?_
     refine hK28 _ _ ?_
     have hs := hs.pick [(3, 3), (1, 1)] rfl
     apply wp_seq_k; intro K30 hK30
     refine wp_block ?_
     apply wp_seq_k; intro K31 hK31
     apply wp_region_lit
     refine sm _ rfl hk rfl rfl rfl fun a hk => ?_
     refine sa _ rfl hk rfl rfl rfl fun a hk => ?_
     show wpList _ _ _ [] _ _
     refine wpList_nil ?_
     refine hK31 _ _ ?_
     refine wp_region_tree (.q 0 (.q 1 (.q 2 (.q 3 (.q 4 (.q 5 (.q 6 (.q 7 (.q 8 (.q 9 (.q 10 (.q 11 (.q 12 (.q 13 (.q 14 (.q 15 (.q 16 (.q 17 (.q 18 (.q 19 (.q 20 (.q 21 (.q 22 (.q 23 (.alt 24 (.alt 25 (.alt 26 (.alt 27 (.alt 28 (.alt 29 (.alt 30 (.last 31) .stop) .stop) .stop) .stop) .stop) .stop) .stop))))))))))))))))))))))))) mo (by kernel_rfl) (hs.pick [(3, 3), (1, 1)] rfl) fun _ => ?_
     have hs := hs.drew
     refine tqst (.int .i64 u14) hk rfl rfl rfl rfl (fun w hs => sm _ rfl hk rfl rfl rfl fun a hk => qe hk) fun a hk => ?_
     refine tqst (.string x1) hk rfl rfl rfl rfl (fun w hs => sm _ rfl hk rfl rfl rfl fun a hk => qe hk) fun a hk => ?_
     refine tqst (.int .i64 u14) hk rfl rfl rfl rfl (fun w hs => sm _ rfl hk rfl rfl rfl fun a hk => qe hk) fun a hk => ?_
     refine tqst (.int .i64 (w64 (4 * u14))) hk rfl rfl rfl rfl (fun w hs => sv (.int .i64 (w64 (4 * u14))) hk rfl rfl rfl fun a hk => qe hk) fun a hk => ?_
     rcases ite_some H with ⟨c33, H⟩ | ⟨_, H⟩
     rotate_left
     ·cases H
     refine tqst (.int .u8 (byteAt x1 (w64 (4 * u14)))) hk rfl rfl rfl rfl (fun w hs => six rfl hk rfl rfl rfl rfl un9 c33.1 c33.2 fun a hk => qe hk) fun a hk => ?_
     refine tqst (.int .u32 (IntKind.wrap .u32 (byteAt x1 (w64 (4 * u14))))) hk rfl rfl rfl rfl (fun w hs => scn rfl hk rfl rfl rfl un67 un5 fun a hk => qe hk) fun a hk => ?_
     refine tqst (.int .u32 (IntKind.wrap .u32 ((IntKind.wrap .u32 (byteAt x1 (w64 (4 * u14)))) * 2 ^ 24))) hk rfl rfl rfl rfl (fun w hs => sv (.int .u32 (IntKind.wrap .u32 ((IntKind.wrap .u32 (byteAt x1 (w64 (4 * u14)))) * 2 ^ 24))) hk rfl rfl rfl fun a hk => qe hk) fun a hk => ?_
     refine tqst (.string x1) hk rfl rfl rfl rfl (fun w hs => sm _ rfl hk rfl rfl rfl fun a hk => qe hk) fun a hk => ?_
     refine tqst (.int .i64 u14) hk rfl rfl rfl rfl (fun w hs => sm _ rfl hk rfl rfl rfl fun a hk => qe hk) fun a hk => ?_
     refine tqst (.int .i64 (w64 (4 * u14))) hk rfl rfl rfl rfl (fun w hs => sv (.int .i64 (w64 (4 * u14))) hk rfl rfl rfl fun a hk => qe hk) fun a hk => ?_
     refine tqst (.int .i64 (w64 ((w64 (4 * u14)) + 1))) hk rfl rfl rfl rfl (fun w hs => sv (.int .i64 (w64 ((w64 (4 * u14)) + 1))) hk rfl rfl rfl fun a hk => qe hk) fun a hk => ?_
     rcases ite_some H with ⟨c34, H⟩ | ⟨_, H⟩
     rotate_left
     ·cases H
     refine tqst (.int .u8 (byteAt x1 (w64 ((w64 (4 * u14)) + 1)))) hk rfl rfl rfl rfl (fun w hs => six rfl hk rfl rfl rfl rfl un9 c34.1 c34.2 fun a hk => qe hk) fun a hk => ?_
     refine tqst (.int .u32 (IntKind.wrap .u32 (byteAt x1 (w64 ((w64 (4 * u14)) + 1))))) hk rfl rfl rfl rfl (fun w hs => scn rfl hk rfl rfl rfl un67 un5 fun a hk => qe hk) fun a hk => ?_
     refine tqst (.int .u32 (IntKind.wrap .u32 ((IntKind.wrap .u32 (byteAt x1 (w64 ((w64 (4 * u14)) + 1)))) * 2 ^ 16))) hk rfl rfl rfl rfl (fun w hs => sv (.int .u32 (IntKind.wrap .u32 ((IntKind.wrap .u32 (byteAt x1 (w64 ((w64 (4 * u14)) + 1)))) * 2 ^ 16))) hk rfl rfl rfl fun a hk => qe hk) fun a hk => ?_
     refine tqst (.int .u32 (IntKind.wrap .u32 ((BitVec.ofInt 32 (IntKind.wrap .u32 ((IntKind.wrap .u32 (byteAt x1 (w64 (4 * u14)))) * 2 ^ 24)) ||| BitVec.ofInt 32 (IntKind.wrap .u32 ((IntKind.wrap .u32 (byteAt x1 (w64 ((w64 (4 * u14)) + 1)))) * 2 ^ 16))).toNat : Int))) hk rfl rfl rfl rfl (fun w hs => sv (.int .u32 (IntKind.wrap .u32 ((BitVec.ofInt 32 (IntKind.wrap .u32 ((IntKind.wrap .u32 (byteAt x1 (w64 (4 * u14)))) * 2 ^ 24)) ||| BitVec.ofInt 32 (IntKind.wrap .u32 ((IntKind.wrap .u32 (byteAt x1 (w64 ((w64 (4 * u14)) + 1)))) * 2 ^ 16))).toNat : Int))) hk rfl rfl rfl fun a hk => qe hk) fun a hk => ?_
     refine tqst (.string x1) hk rfl rfl rfl rfl (fun w hs => sm _ rfl hk rfl rfl rfl fun a hk => qe hk) fun a hk => ?_
     refine tqst (.int .i64 u14) hk rfl rfl rfl rfl (fun w hs => sm _ rfl hk rfl rfl rfl fun a hk => qe hk) fun a hk => ?_
     refine tqst (.int .i64 (w64 (4 * u14))) hk rfl rfl rfl rfl (fun w hs => sv (.int .i64 (w64 (4 * u14))) hk rfl rfl rfl fun a hk => qe hk) fun a hk => ?_
     refine tqst (.int .i64 (w64 ((w64 (4 * u14)) + 2))) hk rfl rfl rfl rfl (fun w hs => sv (.int .i64 (w64 ((w64 (4 * u14)) + 2))) hk rfl rfl rfl fun a hk => qe hk) fun a hk => ?_
     rcases ite_some H with ⟨c35, H⟩ | ⟨_, H⟩
     rotate_left
     ·cases H
     refine tqst (.int .u8 (byteAt x1 (w64 ((w64 (4 * u14)) + 2)))) hk rfl rfl rfl rfl (fun w hs => six rfl hk rfl rfl rfl rfl un9 c35.1 c35.2 fun a hk => qe hk) fun a hk => ?_
     refine tqst (.int .u32 (IntKind.wrap .u32 (byteAt x1 (w64 ((w64 (4 * u14)) + 2))))) hk rfl rfl rfl rfl (fun w hs => scn rfl hk rfl rfl rfl un67 un5 fun a hk => qe hk) fun a hk => ?_
     refine tqst (.int .u32 (IntKind.wrap .u32 ((IntKind.wrap .u32 (byteAt x1 (w64 ((w64 (4 * u14)) + 2)))) * 2 ^ 8))) hk rfl rfl rfl rfl (fun w hs => sv (.int .u32 (IntKind.wrap .u32 ((IntKind.wrap .u32 (byteAt x1 (w64 ((w64 (4 * u14)) + 2)))) * 2 ^ 8))) hk rfl rfl rfl fun a hk => qe hk) fun a hk => ?_
     refine tqst (.int .u32 (IntKind.wrap .u32 ((BitVec.ofInt 32 (IntKind.wrap .u32 ((BitVec.ofInt 32 (IntKind.wrap .u32 ((IntKind.wrap .u32 (byteAt x1 (w64 (4 * u14)))) * 2 ^ 24)) ||| BitVec.ofInt 32 (IntKind.wrap .u32 ((IntKind.wrap .u32 (byteAt x1 (w64 ((w64 (4 * u14)) + 1)))) * 2 ^ 16))).toNat : Int)) ||| BitVec.ofInt 32 (IntKind.wrap .u32 ((IntKind.wrap .u32 (byteAt x1 (w64 ((w64 (4 * u14)) + 2)))) * 2 ^ 8))).toNat : Int))) hk rfl rfl rfl rfl (fun w hs => sv (.int .u32 (IntKind.wrap .u32 ((BitVec.ofInt 32 (IntKind.wrap .u32 ((BitVec.ofInt 32 (IntKind.wrap .u32 ((IntKind.wrap .u32 (byteAt x1 (w64 (4 * u14)))) * 2 ^ 24)) ||| BitVec.ofInt 32 (IntKind.wrap .u32 ((IntKind.wrap .u32 (byteAt x1 (w64 ((w64 (4 * u14)) + 1)))) * 2 ^ 16))).toNat : Int)) ||| BitVec.ofInt 32 (IntKind.wrap .u32 ((IntKind.wrap .u32 (byteAt x1 (w64 ((w64 (4 * u14)) + 2)))) * 2 ^ 8))).toNat : Int))) hk rfl rfl rfl fun a hk => qe hk) fun a hk => ?_
     refine tqst (.string x1) hk rfl rfl rfl rfl (fun w hs => sm _ rfl hk rfl rfl rfl fun a hk => qe hk) fun a hk => ?_
     refine tsst hk rfl rfl (fun K_r32_24 hK_r32_24 w hF => ?_) wt_stop
     have hs := hs.f hF
     refine sm _ rfl hk rfl rfl rfl fun a hk => ?_
     refine se (hs.pick [(3, 3), (1, 1)] rfl) hk (hK_r32_24 _ _ ?_)
     refine tsst hk rfl rfl (fun K_r32_25 hK_r32_25 w hF => ?_) wt_stop
     have hs := hs.f hF
     refine sv (.int .i64 (w64 (4 * u14))) hk rfl rfl rfl fun a hk => ?_
     refine se (hs.pick [(3, 3), (1, 1)] rfl) hk (hK_r32_25 _ _ ?_)
     refine tsst hk rfl rfl (fun K_r32_26 hK_r32_26 w hF => ?_) wt_stop
     have hs := hs.f hF
     refine sv (.int .i64 (w64 ((w64 (4 * u14)) + 3))) hk rfl rfl rfl fun a hk => ?_
     refine se (hs.pick [(3, 3), (1, 1)] rfl) hk (hK_r32_26 _ _ ?_)
     refine tsst hk rfl rfl (fun K_r32_27 hK_r32_27 w hF => ?_) wt_stop
     have hs := hs.f hF
     rcases ite_some H with ⟨c36, H⟩ | ⟨_, H⟩
     rotate_left
     ·cases H
     refine six rfl hk rfl rfl rfl rfl un9 c36.1 c36.2 fun a hk => ?_
     refine se (hs.pick [(3, 3), (1, 1)] rfl) hk (hK_r32_27 _ _ ?_)
     refine tsst hk rfl rfl (fun K_r32_28 hK_r32_28 w hF => ?_) wt_stop
     have hs := hs.f hF
     refine scn rfl hk rfl rfl rfl un67 un5 fun a hk => ?_
     refine se (hs.pick [(3, 3), (1, 1)] rfl) hk (hK_r32_28 _ _ ?_)
     refine tsst hk rfl rfl (fun K_r32_29 hK_r32_29 w hF => ?_) wt_stop
     have hs := hs.f hF
     refine sv (.int .u32 (IntKind.wrap .u32 ((BitVec.ofInt 32 (IntKind.wrap .u32 ((BitVec.ofInt 32 (IntKind.wrap .u32 ((BitVec.ofInt 32 (IntKind.wrap .u32 ((IntKind.wrap .u32 (byteAt x1 (w64 (4 * u14)))) * 2 ^ 24)) ||| BitVec.ofInt 32 (IntKind.wrap .u32 ((IntKind.wrap .u32 (byteAt x1 (w64 ((w64 (4 * u14)) + 1)))) * 2 ^ 16))).toNat : Int)) ||| BitVec.ofInt 32 (IntKind.wrap .u32 ((IntKind.wrap .u32 (byteAt x1 (w64 ((w64 (4 * u14)) + 2)))) * 2 ^ 8))).toNat : Int)) ||| BitVec.ofInt 32 (IntKind.wrap .u32 (byteAt x1 (w64 ((w64 (4 * u14)) + 3))))).toNat : Int))) hk rfl rfl rfl fun a hk => ?_
     refine se (hs.pick [(3, 3), (1, 1)] rfl) hk (hK_r32_29 _ _ ?_)
     refine tsst hk rfl rfl (fun K_r32_30 hK_r32_30 w hF => ?_) wt_stop
     have hs := hs.f hF
     rcases ite_some H with ⟨c37, H⟩ | ⟨_, H⟩
     rotate_left
     ·cases H
     obtain ⟨b38, q39, hAc37⟩ := (o12.view).some_ u14 c37.1 (by rw [lh13]; exact c37.2)
     refine sia rfl hk rfl rfl rfl rfl un91 sz67 c37.1 c37.2 hAc37 fun a hk => ?_
     refine se (hs.pick [(3, 3), (1, 1)] rfl) hk (hK_r32_30 _ _ ?_)
     refine tlst hk rfl rfl fun K_r32_31 hK_r32_31 w hF => ?_
     have hs := hs.f hF
     refine so (j := 0) 3 0 (IntKind.wrap .u32 ((BitVec.ofInt 32 (IntKind.wrap .u32 ((BitVec.ofInt 32 (IntKind.wrap .u32 ((BitVec.ofInt 32 (IntKind.wrap .u32 ((IntKind.wrap .u32 (byteAt x1 (w64 (4 * u14)))) * 2 ^ 24)) ||| BitVec.ofInt 32 (IntKind.wrap .u32 ((IntKind.wrap .u32 (byteAt x1 (w64 ((w64 (4 * u14)) + 1)))) * 2 ^ 16))).toNat : Int)) ||| BitVec.ofInt 32 (IntKind.wrap .u32 ((IntKind.wrap .u32 (byteAt x1 (w64 ((w64 (4 * u14)) + 2)))) * 2 ^ 8))).toNat : Int)) ||| BitVec.ofInt 32 (IntKind.wrap .u32 (byteAt x1 (w64 ((w64 (4 * u14)) + 3))))).toNat : Int)) hs rfl o12 c37.1 (by rw [lh13]; exact c37.2) rfl hk rfl rfl rfl rfl rfl sz67 (by simp [Value.cells, Value.oneCell']) (Nat.le_of_ble_eq_true rfl) (fun _ _ h => ⟨by rw [h.1]; rfl, h.2⟩) fun k40 w a hk o41 hs => ?_
     have lh42 : (u10.set u14.toNat (IntKind.wrap .u32 ((BitVec.ofInt 32 (IntKind.wrap .u32 ((BitVec.ofInt 32 (IntKind.wrap .u32 ((BitVec.ofInt 32 (IntKind.wrap .u32 ((IntKind.wrap .u32 (byteAt x1 (w64 (4 * u14)))) * 2 ^ 24)) ||| BitVec.ofInt 32 (IntKind.wrap .u32 ((IntKind.wrap .u32 (byteAt x1 (w64 ((w64 (4 * u14)) + 1)))) * 2 ^ 16))).toNat : Int)) ||| BitVec.ofInt 32 (IntKind.wrap .u32 ((IntKind.wrap .u32 (byteAt x1 (w64 ((w64 (4 * u14)) + 2)))) * 2 ^ 8))).toNat : Int)) ||| BitVec.ofInt 32 (IntKind.wrap .u32 (byteAt x1 (w64 ((w64 (4 * u14)) + 3))))).toNat : Int))).length = 64 := by rw [List.length_set]; exact lh13
     refine se trivial hk (hK_r32_31 _ _ fun w hF => ?_)
     have hs := hs.f hF
     refine hK30 _ _ ?_
     apply wp_region_lit
     refine sv (.int .i64 (w64 (u14 + 1))) hk rfl rfl rfl fun a hk => ?_
     refine sm _ rfl hk rfl rfl rfl fun a hk => ?_
     show wpList _ _ _ [] _ _
     refine wpList_nil ?_
     obtain rfl := Option.some.inj H
     obtain ⟨m43, hmm43, h26⟩ := h26
     show ∃ n', n' < _ ∧ I23 n' _ _
     refine ⟨m43, hmm43, ?_⟩
     rw [hI23]
     exact ⟨(u10.set u14.toNat (IntKind.wrap .u32 ((BitVec.ofInt 32 (IntKind.wrap .u32 ((BitVec.ofInt 32 (IntKind.wrap .u32 ((BitVec.ofInt 32 (IntKind.wrap .u32 ((IntKind.wrap .u32 (byteAt x1 (w64 (4 * u14)))) * 2 ^ 24)) ||| BitVec.ofInt 32 (IntKind.wrap .u32 ((IntKind.wrap .u32 (byteAt x1 (w64 ((w64 (4 * u14)) + 1)))) * 2 ^ 16))).toNat : Int)) ||| BitVec.ofInt 32 (IntKind.wrap .u32 ((IntKind.wrap .u32 (byteAt x1 (w64 ((w64 (4 * u14)) + 2)))) * 2 ^ 8))).toNat : Int)) ||| BitVec.ofInt 32 (IntKind.wrap .u32 (byteAt x1 (w64 ((w64 (4 * u14)) + 3))))).toNat : Int))), (w64 (u14 + 1)), _, h26, (hk.c 0 rfl (hk.c 1 rfl (hk.c 2 rfl (hk.c 6 rfl (hk.c 25 rfl hk.k))))), (hs.pick [(3, 3), (1, 1)] rfl), o41, lh42⟩
    ·have hk := hk.lit 26 c29 rfl
     refine cnd_false hk rfl rfl ?_
     refine wp_exit ?_
     obtain rfl := Option.some.inj H
     show R22 _ _
     rw [hR22]
     exact ⟨u10, _, h26.symm, (hk.c 0 rfl (hk.c 2 rfl (hk.c 6 rfl hk.k))), (hs.pick [(3, 3), (1, 1)] rfl), o12, lh13⟩
  ·intro a w hR0
   rw [hR22] at hR0
   obtain ⟨u15, k16, rfl, hk, hs, o17, lh18⟩ := hR0
   have H := HL21
   try dsimp only at H
   refine hK6 _ _ ?_
   apply wp_seq_k; intro K44 hK44
   apply wp_seq_k; intro K45 hK45
   apply wp_region_lit
   refine sa _ rfl hk rfl rfl rfl fun a hk => ?_
   show wpList _ _ _ [] _ _
   refine wpList_nil ?_
   refine hK45 _ _ ?_
   have hs := hs.pick [(3, 3), (1, 1)] rfl
   obtain ⟨o57, h58, HL59⟩ := bind_some H
   clear H
   obtain ⟨R60, hR60⟩ : ∃ R : Act → World → Prop, R = fun a w => ∃ (u53 : List Int) (k54 : Chunk), o57 = .out u53 ∧ Kn [(0, (.pointer (some ⟨b0_, 0, none⟩))), (2, (.pointer (some ⟨b2_, 0, none⟩))), (6, (.pointer (some ⟨b2, 0, none⟩)))] 215 a ∧ Sat (blks [(1, [(b0_, .cells #[.int .i64 x0.H0, .int .i64 x0.H1, .int .i64 x0.H2, .int .i64 x0.H3, .int .i64 x0.H4, .int .i64 x0.H5, .int .i64 x0.H6, .int .i64 x0.H7, .string x0.Buf, .int .i64 x0.N] 29 (0, 0))])]) w0 w [(2, k2_)] [(3, k54), (1, [(b0_, .cells #[.int .i64 x0.H0, .int .i64 x0.H1, .int .i64 x0.H2, .int .i64 x0.H3, .int .i64 x0.H4, .int .i64 x0.H5, .int .i64 x0.H6, .int .i64 x0.H7, .string x0.Buf, .int .i64 x0.N] 29 (0, 0))])] ∧ Own (Lay.int .u32) 91 (some ⟨b2, 0, none⟩) 64 u53 k54 ∧ u53.length = 64 := ⟨_, rfl⟩
   refine wp_cutq R60 ?_ ?_
   ·refine wp_block ?_
    obtain ⟨fu62, h58⟩ := loopO_some h58
    obtain ⟨I61, hI61⟩ : ∃ I : Nat → Act → World → Prop, I = fun fu a w => ∃ (u48 : List Int) (u52 : Int) (k49 : Chunk), loopN (fun s => impl_Hash_block.s1  s.1 s.2) fu (u48, u52) = some o57 ∧ Kn [(0, (.pointer (some ⟨b0_, 0, none⟩))), (2, (.pointer (some ⟨b2_, 0, none⟩))), (6, (.pointer (some ⟨b2, 0, none⟩))), (8, (.int .i64 u52))] 215 a ∧ Sat (blks [(1, [(b0_, .cells #[.int .i64 x0.H0, .int .i64 x0.H1, .int .i64 x0.H2, .int .i64 x0.H3, .int .i64 x0.H4, .int .i64 x0.H5, .int .i64 x0.H6, .int .i64 x0.H7, .string x0.Buf, .int .i64 x0.N] 29 (0, 0))])]) w0 w [(2, k2_)] [(3, k49), (1, [(b0_, .cells #[.int .i64 x0.H0, .int .i64 x0.H1, .int .i64 x0.H2, .int .i64 x0.H3, .int .i64 x0.H4, .int .i64 x0.H5, .int .i64 x0.H6, .int .i64 x0.H7, .string x0.Buf, .int .i64 x0.N] 29 (0, 0))])] ∧ Own (Lay.int .u32) 91 (some ⟨b2, 0, none⟩) 64 u48 k49 ∧ u48.length = 64 := ⟨_, rfl⟩
    refine wp_loop_ghost I61 fu62 ?_ ?_
    ·rw [hI61]
     exact ⟨u15, 16, _, h58, (hk.c 0 rfl (hk.c 2 rfl (hk.c 6 rfl (hk.c 8 rfl hk.k)))), (hs.pick [(3, 3), (1, 1)] rfl), o17, lh18⟩
    ·clear h58 hk hs
     intro fu62 a w hI0
     rw [hI61] at hI0
     obtain ⟨u48, u52, k49, hi, hk, hs, o50, lh51⟩ := hI0
     obtain ⟨x63, H, h64⟩ := loop_round hi
     try dsimp only at H
     unfold impl_Hash_block.s1 at H
     apply wp_seq_k; intro K65 hK65
     apply wp_seq_k; intro K66 hK66
     apply wp_region_lit
     refine sm _ rfl hk rfl rfl rfl fun a hk => ?_
     refine sv (.bool (decide (u52 < 64))) hk rfl rfl rfl fun a hk => ?_
     show wpList _ _ _ [] _ _
     refine wpList_nil ?_
     refine hK66 _ _ ?_
     rcases cond_some H with ⟨c67, H⟩ | ⟨c67, H⟩
     ·have hk := hk.lit 61 c67 rfl
      refine cnd_true hk rfl rfl ?_
      refine wp_skip ?_
      refine hK65 _ _ ?_
      apply wp_seq_k; intro K68 hK68
      refine wp_block ?_
      apply wp_seq_k; intro K69 hK69
      refine wp_region_tree (.q 0 (.q 1 (.q 2 (.q 3 (.q 4 (.q 5 (.q 6 (.q 7 (.alt 8 (.last 9) .stop))))))))) mo (by kernel_rfl) (hs.pick [(3, 3), (1, 1)] rfl) fun _ => ?_
      have hs := hs.drew
      refine tqst (.int .i64 u52) hk rfl rfl rfl rfl (fun w hs => sm _ rfl hk rfl rfl rfl fun a hk => qe hk) fun a hk => ?_
      refine tqst (.int .i64 (w64 (u52 - 15))) hk rfl rfl rfl rfl (fun w hs => sv (.int .i64 (w64 (u52 - 15))) hk rfl rfl rfl fun a hk => qe hk) fun a hk => ?_
      rcases ite_some H with ⟨c71, H⟩ | ⟨_, H⟩
      rotate_left
      ·cases H
      obtain ⟨b72, q73, hAc71⟩ := (o50.view).some_ (w64 (u52 - 15)) c71.1 (by rw [lh51]; exact c71.2)
      refine tqst (.pointer (some (padd (some ⟨b2, 0, none⟩) ((w64 (u52 - 15)).toNat * 1)))) hk rfl rfl rfl rfl (fun w hs => sia rfl hk rfl rfl rfl rfl un91 sz67 c71.1 c71.2 hAc71 fun a hk => qe hk) fun a hk => ?_
      obtain ⟨_, rfl, e74⟩ := (o50.view).at_ 0 (w64 (u52 - 15)) c71.1 (by rw [lh51]; exact c71.2)
      refine tqst (.int .u32 (u48.getD (w64 (u52 - 15)).toNat 0)) hk rfl rfl rfl rfl (fun w hs => sl (v := (.int .u32 (u48.getD (w64 (u52 - 15)).toNat 0))) rfl hk rfl rfl rfl ag67 ((e74 0 _ rfl).cell (hs.hasG (k := 3) rfl)) fun a hk => qe hk) fun a hk => ?_
      refine tqst (.int .i64 u52) hk rfl rfl rfl rfl (fun w hs => sm _ rfl hk rfl rfl rfl fun a hk => qe hk) fun a hk => ?_
      refine tqst (.int .i64 (w64 (u52 - 2))) hk rfl rfl rfl rfl (fun w hs => sv (.int .i64 (w64 (u52 - 2))) hk rfl rfl rfl fun a hk => qe hk) fun a hk => ?_
      rcases ite_some H with ⟨c75, H⟩ | ⟨_, H⟩
      rotate_left
      ·cases H
      obtain ⟨b76, q77, hAc75⟩ := (o50.view).some_ (w64 (u52 - 2)) c75.1 (by rw [lh51]; exact c75.2)
      refine tqst (.pointer (some (padd (some ⟨b2, 0, none⟩) ((w64 (u52 - 2)).toNat * 1)))) hk rfl rfl rfl rfl (fun w hs => sia rfl hk rfl rfl rfl rfl un91 sz67 c75.1 c75.2 hAc75 fun a hk => qe hk) fun a hk => ?_
      obtain ⟨_, rfl, e78⟩ := (o50.view).at_ 0 (w64 (u52 - 2)) c75.1 (by rw [lh51]; exact c75.2)
      refine tqst (.int .u32 (u48.getD (w64 (u52 - 2)).toNat 0)) hk rfl rfl rfl rfl (fun w hs => sl (v := (.int .u32 (u48.getD (w64 (u52 - 2)).toNat 0))) rfl hk rfl rfl rfl ag67 ((e78 0 _ rfl).cell (hs.hasG (k := 3) rfl)) fun a hk => qe hk) fun a hk => ?_
      refine tsst hk rfl rfl (fun K_r70_8 hK_r70_8 w hF => ?_) wt_stop
      have hs := hs.f hF
      refine sa _ rfl hk rfl rfl rfl fun a hk => ?_
      refine se (hs.pick [(3, 3), (1, 1)] rfl) hk (hK_r70_8 _ _ ?_)
      refine tlst hk rfl rfl fun K_r70_9 hK_r70_9 w hF => ?_
      have hs := hs.f hF
      refine sa _ rfl hk rfl rfl rfl fun a hk => ?_
      refine se trivial hk (hK_r70_9 _ _ fun w hF => ?_)
      have hs := hs.f hF
      refine hK69 _ _ ?_
      refine wp_region_tree (.q 0 (.q 1 (.q 2 (.q 3 (.q 4 (.q 5 (.q 6 (.q 7 (.q 8 (.q 9 (.q 10 (.q 11 (.q 12 (.q 13 (.q 14 (.q 15 (.q 16 (.q 17 (.q 18 (.q 19 (.q 20 (.q 21 (.q 22 (.q 23 (.alt 24 (.alt 25 (.alt 26 (.alt 27 (.alt 28 (.last 29) .stop) .stop) .stop) .stop) .stop))))))))))))))))))))))))) mo (by kernel_rfl) (hs.pick [(3, 3), (1, 1)] rfl) fun _ => ?_
      have hs := hs.drew
      refine tqst (.int .i64 u52) hk rfl rfl rfl rfl (fun w hs => sm _ rfl hk rfl rfl rfl fun a hk => qe hk) fun a hk => ?_
      refine tqst (.int .i64 u52) hk rfl rfl rfl rfl (fun w hs => sm _ rfl hk rfl rfl rfl fun a hk => qe hk) fun a hk => ?_
      refine tqst (.int .i64 (w64 (u52 - 16))) hk rfl rfl rfl rfl (fun w hs => sv (.int .i64 (w64 (u52 - 16))) hk rfl rfl rfl fun a hk => qe hk) fun a hk => ?_
      rcases ite_some H with ⟨c80, H⟩ | ⟨_, H⟩
      rotate_left
      ·cases H
      obtain ⟨b81, q82, hAc80⟩ := (o50.view).some_ (w64 (u52 - 16)) c80.1 (by rw [lh51]; exact c80.2)
      refine tqst (.pointer (some (padd (some ⟨b2, 0, none⟩) ((w64 (u52 - 16)).toNat * 1)))) hk rfl rfl rfl rfl (fun w hs => sia rfl hk rfl rfl rfl rfl un91 sz67 c80.1 c80.2 hAc80 fun a hk => qe hk) fun a hk => ?_
      obtain ⟨_, rfl, e83⟩ := (o50.view).at_ 0 (w64 (u52 - 16)) c80.1 (by rw [lh51]; exact c80.2)
      refine tqst (.int .u32 (u48.getD (w64 (u52 - 16)).toNat 0)) hk rfl rfl rfl rfl (fun w hs => sl (v := (.int .u32 (u48.getD (w64 (u52 - 16)).toNat 0))) rfl hk rfl rfl rfl ag67 ((e83 0 _ rfl).cell (hs.hasG (k := 3) rfl)) fun a hk => qe hk) fun a hk => ?_
      refine tqst (.int .u32 (u48.getD (w64 (u52 - 15)).toNat 0)) hk rfl rfl rfl rfl (fun w hs => sm _ rfl hk rfl rfl rfl fun a hk => qe hk) fun a hk => ?_
      obtain ⟨y84, h85, H⟩ := bind_some H
      refine tqst (.int .u32 y84) hk rfl rfl rfl rfl (fun w hs => sc rfl en124 hk rfl rfl rfl (impl_turned_t _ (u48.getD (w64 (u52 - 15)).toNat 0) 7 _ h85) fun _ w hR a hk => qc hR hk) fun a hk => ?_
      refine tqst (.int .u32 (u48.getD (w64 (u52 - 15)).toNat 0)) hk rfl rfl rfl rfl (fun w hs => sm _ rfl hk rfl rfl rfl fun a hk => qe hk) fun a hk => ?_
      obtain ⟨y86, h87, H⟩ := bind_some H
      refine tqst (.int .u32 y86) hk rfl rfl rfl rfl (fun w hs => sc rfl en124 hk rfl rfl rfl (impl_turned_t _ (u48.getD (w64 (u52 - 15)).toNat 0) 18 _ h87) fun _ w hR a hk => qc hR hk) fun a hk => ?_
      refine tqst (.int .u32 (IntKind.wrap .u32 ((BitVec.ofInt 32 y84 ^^^ BitVec.ofInt 32 y86).toNat : Int))) hk rfl rfl rfl rfl (fun w hs => sv (.int .u32 (IntKind.wrap .u32 ((BitVec.ofInt 32 y84 ^^^ BitVec.ofInt 32 y86).toNat : Int))) hk rfl rfl rfl fun a hk => qe hk) fun a hk => ?_
      refine tqst (.int .u32 (u48.getD (w64 (u52 - 15)).toNat 0)) hk rfl rfl rfl rfl (fun w hs => sm _ rfl hk rfl rfl rfl fun a hk => qe hk) fun a hk => ?_
      refine tqst (.int .u32 (Int.fdiv (u48.getD (w64 (u52 - 15)).toNat 0) (2 ^ 3))) hk rfl rfl rfl rfl (fun w hs => sv (.int .u32 (Int.fdiv (u48.getD (w64 (u52 - 15)).toNat 0) (2 ^ 3))) hk rfl rfl rfl fun a hk => qe hk) fun a hk => ?_
      refine tqst (.int .u32 (IntKind.wrap .u32 ((BitVec.ofInt 32 (IntKind.wrap .u32 ((BitVec.ofInt 32 y84 ^^^ BitVec.ofInt 32 y86).toNat : Int)) ^^^ BitVec.ofInt 32 (Int.fdiv (u48.getD (w64 (u52 - 15)).toNat 0) (2 ^ 3))).toNat : Int))) hk rfl rfl rfl rfl (fun w hs => sv (.int .u32 (IntKind.wrap .u32 ((BitVec.ofInt 32 (IntKind.wrap .u32 ((BitVec.ofInt 32 y84 ^^^ BitVec.ofInt 32 y86).toNat : Int)) ^^^ BitVec.ofInt 32 (Int.fdiv (u48.getD (w64 (u52 - 15)).toNat 0) (2 ^ 3))).toNat : Int))) hk rfl rfl rfl fun a hk => qe hk) fun a hk => ?_
      refine tqst (.int .u32 (IntKind.wrap .u32 ((u48.getD (w64 (u52 - 16)).toNat 0) + (IntKind.wrap .u32 ((BitVec.ofInt 32 (IntKind.wrap .u32 ((BitVec.ofInt 32 y84 ^^^ BitVec.ofInt 32 y86).toNat : Int)) ^^^ BitVec.ofInt 32 (Int.fdiv (u48.getD (w64 (u52 - 15)).toNat 0) (2 ^ 3))).toNat : Int))))) hk rfl rfl rfl rfl (fun w hs => sv (.int .u32 (IntKind.wrap .u32 ((u48.getD (w64 (u52 - 16)).toNat 0) + (IntKind.wrap .u32 ((BitVec.ofInt 32 (IntKind.wrap .u32 ((BitVec.ofInt 32 y84 ^^^ BitVec.ofInt 32 y86).toNat : Int)) ^^^ BitVec.ofInt 32 (Int.fdiv (u48.getD (w64 (u52 - 15)).toNat 0) (2 ^ 3))).toNat : Int))))) hk rfl rfl rfl fun a hk => qe hk) fun a hk => ?_
      refine tqst (.int .i64 u52) hk rfl rfl rfl rfl (fun w hs => sm _ rfl hk rfl rfl rfl fun a hk => qe hk) fun a hk => ?_
      refine tqst (.int .i64 (w64 (u52 - 7))) hk rfl rfl rfl rfl (fun w hs => sv (.int .i64 (w64 (u52 - 7))) hk rfl rfl rfl fun a hk => qe hk) fun a hk => ?_
      rcases ite_some H with ⟨c88, H⟩ | ⟨_, H⟩
      rotate_left
      ·cases H
      obtain ⟨b89, q90, hAc88⟩ := (o50.view).some_ (w64 (u52 - 7)) c88.1 (by rw [lh51]; exact c88.2)
      refine tqst (.pointer (some (padd (some ⟨b2, 0, none⟩) ((w64 (u52 - 7)).toNat * 1)))) hk rfl rfl rfl rfl (fun w hs => sia rfl hk rfl rfl rfl rfl un91 sz67 c88.1 c88.2 hAc88 fun a hk => qe hk) fun a hk => ?_
      obtain ⟨_, rfl, e91⟩ := (o50.view).at_ 0 (w64 (u52 - 7)) c88.1 (by rw [lh51]; exact c88.2)
      refine tqst (.int .u32 (u48.getD (w64 (u52 - 7)).toNat 0)) hk rfl rfl rfl rfl (fun w hs => sl (v := (.int .u32 (u48.getD (w64 (u52 - 7)).toNat 0))) rfl hk rfl rfl rfl ag67 ((e91 0 _ rfl).cell (hs.hasG (k := 3) rfl)) fun a hk => qe hk) fun a hk => ?_
      refine tqst (.int .u32 (IntKind.wrap .u32 ((IntKind.wrap .u32 ((u48.getD (w64 (u52 - 16)).toNat 0) + (IntKind.wrap .u32 ((BitVec.ofInt 32 (IntKind.wrap .u32 ((BitVec.ofInt 32 y84 ^^^ BitVec.ofInt 32 y86).toNat : Int)) ^^^ BitVec.ofInt 32 (Int.fdiv (u48.getD (w64 (u52 - 15)).toNat 0) (2 ^ 3))).toNat : Int)))) + (u48.getD (w64 (u52 - 7)).toNat 0)))) hk rfl rfl rfl rfl (fun w hs => sv (.int .u32 (IntKind.wrap .u32 ((IntKind.wrap .u32 ((u48.getD (w64 (u52 - 16)).toNat 0) + (IntKind.wrap .u32 ((BitVec.ofInt 32 (IntKind.wrap .u32 ((BitVec.ofInt 32 y84 ^^^ BitVec.ofInt 32 y86).toNat : Int)) ^^^ BitVec.ofInt 32 (Int.fdiv (u48.getD (w64 (u52 - 15)).toNat 0) (2 ^ 3))).toNat : Int)))) + (u48.getD (w64 (u52 - 7)).toNat 0)))) hk rfl rfl rfl fun a hk => qe hk) fun a hk => ?_
      refine tqst (.int .u32 (u48.getD (w64 (u52 - 2)).toNat 0)) hk rfl rfl rfl rfl (fun w hs => sm _ rfl hk rfl rfl rfl fun a hk => qe hk) fun a hk => ?_
      obtain ⟨y92, h93, H⟩ := bind_some H
      refine tqst (.int .u32 y92) hk rfl rfl rfl rfl (fun w hs => sc rfl en124 hk rfl rfl rfl (impl_turned_t _ (u48.getD (w64 (u52 - 2)).toNat 0) 17 _ h93) fun _ w hR a hk => qc hR hk) fun a hk => ?_
      refine tqst (.int .u32 (u48.getD (w64 (u52 - 2)).toNat 0)) hk rfl rfl rfl rfl (fun w hs => sm _ rfl hk rfl rfl rfl fun a hk => qe hk) fun a hk => ?_
      obtain ⟨y94, h95, H⟩ := bind_some H
      refine tqst (.int .u32 y94) hk rfl rfl rfl rfl (fun w hs => sc rfl en124 hk rfl rfl rfl (impl_turned_t _ (u48.getD (w64 (u52 - 2)).toNat 0) 19 _ h95) fun _ w hR a hk => qc hR hk) fun a hk => ?_
      refine tqst (.int .u32 (IntKind.wrap .u32 ((BitVec.ofInt 32 y92 ^^^ BitVec.ofInt 32 y94).toNat : Int))) hk rfl rfl rfl rfl (fun w hs => sv (.int .u32 (IntKind.wrap .u32 ((BitVec.ofInt 32 y92 ^^^ BitVec.ofInt 32 y94).toNat : Int))) hk rfl rfl rfl fun a hk => qe hk) fun a hk => ?_
      refine tsst hk rfl rfl (fun K_r79_24 hK_r79_24 w hF => ?_) wt_stop
      have hs := hs.f hF
      refine sm _ rfl hk rfl rfl rfl fun a hk => ?_
      refine se (hs.pick [(3, 3), (1, 1)] rfl) hk (hK_r79_24 _ _ ?_)
      refine tsst hk rfl rfl (fun K_r79_25 hK_r79_25 w hF => ?_) wt_stop
      have hs := hs.f hF
      refine sv (.int .u32 (Int.fdiv (u48.getD (w64 (u52 - 2)).toNat 0) (2 ^ 10))) hk rfl rfl rfl fun a hk => ?_
      refine se (hs.pick [(3, 3), (1, 1)] rfl) hk (hK_r79_25 _ _ ?_)
      refine tsst hk rfl rfl (fun K_r79_26 hK_r79_26 w hF => ?_) wt_stop
      have hs := hs.f hF
      refine sv (.int .u32 (IntKind.wrap .u32 ((BitVec.ofInt 32 (IntKind.wrap .u32 ((BitVec.ofInt 32 y92 ^^^ BitVec.ofInt 32 y94).toNat : Int)) ^^^ BitVec.ofInt 32 (Int.fdiv (u48.getD (w64 (u52 - 2)).toNat 0) (2 ^ 10))).toNat : Int))) hk rfl rfl rfl fun a hk => ?_
      refine se (hs.pick [(3, 3), (1, 1)] rfl) hk (hK_r79_26 _ _ ?_)
      refine tsst hk rfl rfl (fun K_r79_27 hK_r79_27 w hF => ?_) wt_stop
      have hs := hs.f hF
      refine sv (.int .u32 (IntKind.wrap .u32 ((IntKind.wrap .u32 ((IntKind.wrap .u32 ((u48.getD (w64 (u52 - 16)).toNat 0) + (IntKind.wrap .u32 ((BitVec.ofInt 32 (IntKind.wrap .u32 ((BitVec.ofInt 32 y84 ^^^ BitVec.ofInt 32 y86).toNat : Int)) ^^^ BitVec.ofInt 32 (Int.fdiv (u48.getD (w64 (u52 - 15)).toNat 0) (2 ^ 3))).toNat : Int)))) + (u48.getD (w64 (u52 - 7)).toNat 0))) + (IntKind.wrap .u32 ((BitVec.ofInt 32 (IntKind.wrap .u32 ((BitVec.ofInt 32 y92 ^^^ BitVec.ofInt 32 y94).toNat : Int)) ^^^ BitVec.ofInt 32 (Int.fdiv (u48.getD (w64 (u52 - 2)).toNat 0) (2 ^ 10))).toNat : Int))))) hk rfl rfl rfl fun a hk => ?_
      refine se (hs.pick [(3, 3), (1, 1)] rfl) hk (hK_r79_27 _ _ ?_)
      refine tsst hk rfl rfl (fun K_r79_28 hK_r79_28 w hF => ?_) wt_stop
      have hs := hs.f hF
      rcases ite_some H with ⟨c96, H⟩ | ⟨_, H⟩
      rotate_left
      ·cases H
      obtain ⟨b97, q98, hAc96⟩ := (o50.view).some_ u52 c96.1 (by rw [lh51]; exact c96.2)
      refine sia rfl hk rfl rfl rfl rfl un91 sz67 c96.1 c96.2 hAc96 fun a hk => ?_
      refine se (hs.pick [(3, 3), (1, 1)] rfl) hk (hK_r79_28 _ _ ?_)
      refine tlst hk rfl rfl fun K_r79_29 hK_r79_29 w hF => ?_
      have hs := hs.f hF
      refine so (j := 0) 3 0 (IntKind.wrap .u32 ((IntKind.wrap .u32 ((IntKind.wrap .u32 ((u48.getD (w64 (u52 - 16)).toNat 0) + (IntKind.wrap .u32 ((BitVec.ofInt 32 (IntKind.wrap .u32 ((BitVec.ofInt 32 y84 ^^^ BitVec.ofInt 32 y86).toNat : Int)) ^^^ BitVec.ofInt 32 (Int.fdiv (u48.getD (w64 (u52 - 15)).toNat 0) (2 ^ 3))).toNat : Int)))) + (u48.getD (w64 (u52 - 7)).toNat 0))) + (IntKind.wrap .u32 ((BitVec.ofInt 32 (IntKind.wrap .u32 ((BitVec.ofInt 32 y92 ^^^ BitVec.ofInt 32 y94).toNat : Int)) ^^^ BitVec.ofInt 32 (Int.fdiv (u48.getD (w64 (u52 - 2)).toNat 0) (2 ^ 10))).toNat : Int)))) hs rfl o50 c96.1 (by rw [lh51]; exact c96.2) rfl hk rfl rfl rfl rfl rfl sz67 (by simp [Value.cells, Value.oneCell']) (Nat.le_of_ble_eq_true rfl) (fun _ _ h => ⟨by rw [h.1]; rfl, h.2⟩) fun k99 w a hk o100 hs => ?_
      have lh101 : (u48.set u52.toNat (IntKind.wrap .u32 ((IntKind.wrap .u32 ((IntKind.wrap .u32 ((u48.getD (w64 (u52 - 16)).toNat 0) + (IntKind.wrap .u32 ((BitVec.ofInt 32 (IntKind.wrap .u32 ((BitVec.ofInt 32 y84 ^^^ BitVec.ofInt 32 y86).toNat : Int)) ^^^ BitVec.ofInt 32 (Int.fdiv (u48.getD (w64 (u52 - 15)).toNat 0) (2 ^ 3))).toNat : Int)))) + (u48.getD (w64 (u52 - 7)).toNat 0))) + (IntKind.wrap .u32 ((BitVec.ofInt 32 (IntKind.wrap .u32 ((BitVec.ofInt 32 y92 ^^^ BitVec.ofInt 32 y94).toNat : Int)) ^^^ BitVec.ofInt 32 (Int.fdiv (u48.getD (w64 (u52 - 2)).toNat 0) (2 ^ 10))).toNat : Int))))).length = 64 := by rw [List.length_set]; exact lh51
      refine se trivial hk (hK_r79_29 _ _ fun w hF => ?_)
      have hs := hs.f hF
      refine hK68 _ _ ?_
      have hs := hs.pick [(3, 3), (1, 1)] rfl
      apply wp_region_lit
      refine sm _ rfl hk rfl rfl rfl fun a hk => ?_
      refine sv (.int .i64 (w64 (u52 + 1))) hk rfl rfl rfl fun a hk => ?_
      refine sa _ rfl hk rfl rfl rfl fun a hk => ?_
      show wpList _ _ _ [] _ _
      refine wpList_nil ?_
      obtain rfl := Option.some.inj H
      obtain ⟨m102, hmm102, h64⟩ := h64
      show ∃ n', n' < _ ∧ I61 n' _ _
      refine ⟨m102, hmm102, ?_⟩
      rw [hI61]
      exact ⟨(u48.set u52.toNat (IntKind.wrap .u32 ((IntKind.wrap .u32 ((IntKind.wrap .u32 ((u48.getD (w64 (u52 - 16)).toNat 0) + (IntKind.wrap .u32 ((BitVec.ofInt 32 (IntKind.wrap .u32 ((BitVec.ofInt 32 y84 ^^^ BitVec.ofInt 32 y86).toNat : Int)) ^^^ BitVec.ofInt 32 (Int.fdiv (u48.getD (w64 (u52 - 15)).toNat 0) (2 ^ 3))).toNat : Int)))) + (u48.getD (w64 (u52 - 7)).toNat 0))) + (IntKind.wrap .u32 ((BitVec.ofInt 32 (IntKind.wrap .u32 ((BitVec.ofInt 32 y92 ^^^ BitVec.ofInt 32 y94).toNat : Int)) ^^^ BitVec.ofInt 32 (Int.fdiv (u48.getD (w64 (u52 - 2)).toNat 0) (2 ^ 10))).toNat : Int))))), (w64 (u52 + 1)), _, h64, (hk.c 0 rfl (hk.c 2 rfl (hk.c 6 rfl (hk.c 8 rfl hk.k)))), (hs.pick [(3, 3), (1, 1)] rfl), o100, lh101⟩
     ·have hk := hk.lit 61 c67 rfl
      refine cnd_false hk rfl rfl ?_
      refine wp_exit ?_
      obtain rfl := Option.some.inj H
      show R60 _ _
      rw [hR60]
      exact ⟨u48, _, h64.symm, (hk.c 0 rfl (hk.c 2 rfl (hk.c 6 rfl hk.k))), (hs.pick [(3, 3), (1, 1)] rfl), o50, lh51⟩
   ·intro a w hR0
    rw [hR60] at hR0
    obtain ⟨u53, k54, rfl, hk, hs, o55, lh56⟩ := hR0
    have H := HL59
    try dsimp only at H
    refine hK44 _ _ ?_
    apply wp_seq_k; intro K103 hK103
    apply wp_region_lit
    refine sala 9 ((Lay.int .u32)) (m := 8) (z := 0) (zc := [.int .u32 0]) hs rfl hk rfl rfl ze125 (by exact ⟨rfl, rfl⟩) rfl rfl rfl fun b104 k105 w a hk o106 hs => ?_
    have lh107 : (List.replicate 8 (0 : Int)).length = 8 := List.length_replicate
    show wpList _ _ _ [] _ _
    refine wpList_nil ?_
    refine hK103 _ _ ?_
    apply wp_seq_k; intro K108 hK108
    apply wp_seq_k; intro K109 hK109
    apply wp_region_lit
    refine sm _ rfl hk rfl rfl rfl fun a hk => ?_
    refine snk rfl hk rfl rfl rfl fun a hk => ?_
    refine sf ⟨b0_, 0, none⟩ rfl hk rfl rfl rfl fd29_0 rfl fun a hk => ?_
    have lh110 : ([x0.H0, x0.H1, x0.H2, x0.H3, x0.H4, x0.H5, x0.H6, x0.H7] : List Int).length = 8 := rfl
    refine slnB (k := 1) (ik := .i64) (vs := [.int .i64 x0.H0, .int .i64 x0.H1, .int .i64 x0.H2, .int .i64 x0.H3, .int .i64 x0.H4, .int .i64 x0.H5, .int .i64 x0.H6, .int .i64 x0.H7, .string x0.Buf, .int .i64 x0.N]) ([x0.H0, x0.H1, x0.H2, x0.H3, x0.H4, x0.H5, x0.H6, x0.H7] : List Int) hs rfl rfl lh110 rfl hk rfl rfl rfl ag27 sz27 fun a hk => ?_
    refine sm _ rfl hk rfl rfl rfl fun a hk => ?_
    show wpList _ _ _ [] _ _
    refine wpList_nil ?_
    refine hK109 _ _ ?_
    obtain ⟨o122, h123, HL124⟩ := bind_some H
    clear H
    obtain ⟨R125, hR125⟩ : ∃ R : Act → World → Prop, R = fun a w => ∃ (u118 : List Int) (k119 : Chunk), o122 = .out u118 ∧ Kn [(0, (.pointer (some ⟨b0_, 0, none⟩))), (2, (.pointer (some ⟨b2_, 0, none⟩))), (6, (.pointer (some ⟨b2, 0, none⟩))), (11, (.pointer (some ⟨b104, 0, none⟩)))] 215 a ∧ Sat (blks [(1, [(b0_, .cells #[.int .i64 x0.H0, .int .i64 x0.H1, .int .i64 x0.H2, .int .i64 x0.H3, .int .i64 x0.H4, .int .i64 x0.H5, .int .i64 x0.H6, .int .i64 x0.H7, .string x0.Buf, .int .i64 x0.N] 29 (0, 0))])]) w0 w [(2, k2_)] [(3, k54), (9, k119), (1, [(b0_, .cells #[.int .i64 x0.H0, .int .i64 x0.H1, .int .i64 x0.H2, .int .i64 x0.H3, .int .i64 x0.H4, .int .i64 x0.H5, .int .i64 x0.H6, .int .i64 x0.H7, .string x0.Buf, .int .i64 x0.N] 29 (0, 0))])] ∧ Own (Lay.int .u32) 125 (some ⟨b104, 0, none⟩) 8 u118 k119 ∧ u118.length = 8 := ⟨_, rfl⟩
    refine wp_cutq R125 ?_ ?_
    ·refine wp_block ?_
     obtain ⟨fu127, h123⟩ := loopO_some h123
     obtain ⟨I126, hI126⟩ : ∃ I : Nat → Act → World → Prop, I = fun fu a w => ∃ (u113 : List Int) (u117 : Int) (k114 : Chunk), loopN (fun s => impl_Hash_block.s2 x0 s.1 s.2) fu (u113, u117) = some o122 ∧ Kn [(0, (.pointer (some ⟨b0_, 0, none⟩))), (2, (.pointer (some ⟨b2_, 0, none⟩))), (6, (.pointer (some ⟨b2, 0, none⟩))), (11, (.pointer (some ⟨b104, 0, none⟩))), (104, (aggI .i64 ([x0.H0, x0.H1, x0.H2, x0.H3, x0.H4, x0.H5, x0.H6, x0.H7] : List Int))), (105, (.int .i64 u117))] 215 a ∧ Sat (blks [(1, [(b0_, .cells #[.int .i64 x0.H0, .int .i64 x0.H1, .int .i64 x0.H2, .int .i64 x0.H3, .int .i64 x0.H4, .int .i64 x0.H5, .int .i64 x0.H6, .int .i64 x0.H7, .string x0.Buf, .int .i64 x0.N] 29 (0, 0))])]) w0 w [(2, k2_)] [(3, k54), (9, k114), (1, [(b0_, .cells #[.int .i64 x0.H0, .int .i64 x0.H1, .int .i64 x0.H2, .int .i64 x0.H3, .int .i64 x0.H4, .int .i64 x0.H5, .int .i64 x0.H6, .int .i64 x0.H7, .string x0.Buf, .int .i64 x0.N] 29 (0, 0))])] ∧ Own (Lay.int .u32) 125 (some ⟨b104, 0, none⟩) 8 u113 k114 ∧ u113.length = 8 := ⟨_, rfl⟩
     refine wp_loop_ghost I126 fu127 ?_ ?_
     ·rw [hI126]
      exact ⟨(List.replicate 8 (0 : Int)), 0, _, h123, (hk.c 0 rfl (hk.c 2 rfl (hk.c 6 rfl (hk.c 11 rfl (hk.c 104 rfl (hk.c 105 rfl hk.k)))))), (hs.pick [(3, 3), (9, 9), (1, 1)] rfl), o106, lh107⟩
     ·clear h123 hk hs
      intro fu127 a w hI0
      rw [hI126] at hI0
      obtain ⟨u113, u117, k114, hi, hk, hs, o115, lh116⟩ := hI0
      obtain ⟨x128, H, h129⟩ := loop_round hi
      try dsimp only at H
      unfold impl_Hash_block.s2 at H
      apply wp_seq_k; intro K130 hK130
      apply wp_region_lit
      refine sv (.bool (decide (u117 < 8))) hk rfl rfl rfl fun a hk => ?_
      show wpList _ _ _ [] _ _
      refine wpList_nil ?_
      refine hK130 _ _ ?_
      have hs := hs.pick [(3, 3), (9, 9), (1, 1)] rfl
      apply wp_seq_k; intro K131 hK131
      rcases cond_some H with ⟨c132, H⟩ | ⟨c132, H⟩
      ·have hk := hk.lit 106 c132 rfl
       refine cnd_true hk rfl rfl ?_
       refine wp_skip ?_
       refine hK131 _ _ ?_
       apply wp_seq_k; intro K133 hK133
       refine wp_block ?_
       apply wp_seq_k; intro K134 hK134
       apply wp_region_lit
       refine sm _ rfl hk rfl rfl rfl fun a hk => ?_
       rcases ite_some H with ⟨c135, H⟩ | ⟨_, H⟩
       rotate_left
       ·cases H
       refine sixa rfl hk rfl rfl rfl rfl un27 sz3 ag3 lh110 c135.1 c135.2 fun a hk => ?_
       refine sa _ rfl hk rfl rfl rfl fun a hk => ?_
       refine sa _ rfl hk rfl rfl rfl fun a hk => ?_
       show wpList _ _ _ [] _ _
       refine wpList_nil ?_
       refine hK134 _ _ ?_
       apply wp_region_lit
       refine sm _ rfl hk rfl rfl rfl fun a hk => ?_
       refine sm _ rfl hk rfl rfl rfl fun a hk => ?_
       refine scn rfl hk rfl rfl rfl un67 un3 fun a hk => ?_
       rcases ite_some H with ⟨c136, H⟩ | ⟨_, H⟩
       rotate_left
       ·cases H
       obtain ⟨b137, q138, hAc136⟩ := (o115.view).some_ u117 c136.1 (by rw [lh116]; exact c136.2)
       refine sia rfl hk rfl rfl rfl rfl un125 sz67 c136.1 c136.2 hAc136 fun a hk => ?_
       refine so (j := 0) 9 0 (IntKind.wrap .u32 (([x0.H0, x0.H1, x0.H2, x0.H3, x0.H4, x0.H5, x0.H6, x0.H7] : List Int).getD u117.toNat 0)) hs rfl o115 c136.1 (by rw [lh116]; exact c136.2) rfl hk rfl rfl rfl rfl rfl sz67 (by simp [Value.cells, Value.oneCell']) (Nat.le_of_ble_eq_true rfl) (fun _ _ h => ⟨by rw [h.1]; rfl, h.2⟩) fun k139 w a hk o140 hs => ?_
       have lh141 : (u113.set u117.toNat (IntKind.wrap .u32 (([x0.H0, x0.H1, x0.H2, x0.H3, x0.H4, x0.H5, x0.H6, x0.H7] : List Int).getD u117.toNat 0))).length = 8 := by rw [List.length_set]; exact lh116
       show wpList _ _ _ [] _ _
       refine wpList_nil ?_
       refine hK133 _ _ ?_
       apply wp_region_lit
       refine sv (.int .i64 (w64 (u117 + 1))) hk rfl rfl rfl fun a hk => ?_
       refine sm _ rfl hk rfl rfl rfl fun a hk => ?_
       show wpList _ _ _ [] _ _
       refine wpList_nil ?_
       obtain rfl := Option.some.inj H
       obtain ⟨m142, hmm142, h129⟩ := h129
       show ∃ n', n' < _ ∧ I126 n' _ _
       refine ⟨m142, hmm142, ?_⟩
       rw [hI126]
       exact ⟨(u113.set u117.toNat (IntKind.wrap .u32 (([x0.H0, x0.H1, x0.H2, x0.H3, x0.H4, x0.H5, x0.H6, x0.H7] : List Int).getD u117.toNat 0))), (w64 (u117 + 1)), _, h129, (hk.c 0 rfl (hk.c 2 rfl (hk.c 6 rfl (hk.c 11 rfl (hk.c 104 rfl (hk.c 105 rfl hk.k)))))), (hs.pick [(3, 3), (9, 9), (1, 1)] rfl), o140, lh141⟩
      ·have hk := hk.lit 106 c132 rfl
       refine cnd_false hk rfl rfl ?_
       refine wp_exit ?_
       obtain rfl := Option.some.inj H
       show R125 _ _
       rw [hR125]
       exact ⟨u113, _, h129.symm, (hk.c 0 rfl (hk.c 2 rfl (hk.c 6 rfl (hk.c 11 rfl hk.k)))), (hs.pick [(3, 3), (9, 9), (1, 1)] rfl), o115, lh116⟩
    ·intro a w hR0
     rw [hR125] at hR0
     obtain ⟨u118, k119, rfl, hk, hs, o120, lh121⟩ := hR0
     have H := HL124
     try dsimp only at H
     refine hK108 _ _ ?_
     have hs := hs.pick [(3, 3), (9, 9), (1, 1)] rfl
     apply wp_seq_k; intro K143 hK143
     apply wp_seq_k; intro K144 hK144
     apply wp_region_lit
     refine sm _ rfl hk rfl rfl rfl fun a hk => ?_
     show wpList _ _ _ [] _ _
     refine wpList_nil ?_
     refine hK144 _ _ ?_
     obtain ⟨o156, h157, HL158⟩ := bind_some H
     clear H
     obtain ⟨R159, hR159⟩ : ∃ R : Act → World → Prop, R = fun a w => ∃ (u152 : List Int) (k153 : Chunk), o156 = .out u152 ∧ Kn [(0, (.pointer (some ⟨b0_, 0, none⟩))), (11, (.pointer (some ⟨b104, 0, none⟩)))] 215 a ∧ Sat (blks [(1, [(b0_, .cells #[.int .i64 x0.H0, .int .i64 x0.H1, .int .i64 x0.H2, .int .i64 x0.H3, .int .i64 x0.H4, .int .i64 x0.H5, .int .i64 x0.H6, .int .i64 x0.H7, .string x0.Buf, .int .i64 x0.N] 29 (0, 0))])]) w0 w [(2, k2_)] [(9, k153), (1, [(b0_, .cells #[.int .i64 x0.H0, .int .i64 x0.H1, .int .i64 x0.H2, .int .i64 x0.H3, .int .i64 x0.H4, .int .i64 x0.H5, .int .i64 x0.H6, .int .i64 x0.H7, .string x0.Buf, .int .i64 x0.N] 29 (0, 0))])] ∧ Own (Lay.int .u32) 125 (some ⟨b104, 0, none⟩) 8 u152 k153 ∧ u152.length = 8 := ⟨_, rfl⟩
     refine wp_cutq R159 ?_ ?_
     ·refine wp_block ?_
      obtain ⟨fu161, h157⟩ := loopO_some h157
      obtain ⟨I160, hI160⟩ : ∃ I : Nat → Act → World → Prop, I = fun fu a w => ∃ (u147 : List Int) (u151 : Int) (k148 : Chunk), loopN (fun s => impl_Hash_block.s3 l2 u53 s.1 s.2) fu (u147, u151) = some o156 ∧ Kn [(0, (.pointer (some ⟨b0_, 0, none⟩))), (2, (.pointer (some ⟨b2_, 0, none⟩))), (6, (.pointer (some ⟨b2, 0, none⟩))), (11, (.pointer (some ⟨b104, 0, none⟩))), (114, (.int .i64 u151))] 215 a ∧ Sat (blks [(1, [(b0_, .cells #[.int .i64 x0.H0, .int .i64 x0.H1, .int .i64 x0.H2, .int .i64 x0.H3, .int .i64 x0.H4, .int .i64 x0.H5, .int .i64 x0.H6, .int .i64 x0.H7, .string x0.Buf, .int .i64 x0.N] 29 (0, 0))])]) w0 w [(2, k2_)] [(3, k54), (9, k148), (1, [(b0_, .cells #[.int .i64 x0.H0, .int .i64 x0.H1, .int .i64 x0.H2, .int .i64 x0.H3, .int .i64 x0.H4, .int .i64 x0.H5, .int .i64 x0.H6, .int .i64 x0.H7, .string x0.Buf, .int .i64 x0.N] 29 (0, 0))])] ∧ Own (Lay.int .u32) 125 (some ⟨b104, 0, none⟩) 8 u147 k148 ∧ u147.length = 8 := ⟨_, rfl⟩
      refine wp_loop_ghost I160 fu161 ?_ ?_
      ·rw [hI160]
       exact ⟨u118, 0, _, h157, (hk.c 0 rfl (hk.c 2 rfl (hk.c 6 rfl (hk.c 11 rfl (hk.c 114 rfl hk.k))))), (hs.pick [(3, 3), (9, 9), (1, 1)] rfl), o120, lh121⟩
      ·clear h157 hk hs
       intro fu161 a w hI0
       rw [hI160] at hI0
       obtain ⟨u147, u151, k148, hi, hk, hs, o149, lh150⟩ := hI0
       obtain ⟨x162, H, h163⟩ := loop_round hi
       try dsimp only at H
       unfold impl_Hash_block.s3 at H
       apply wp_seq_k; intro K164 hK164
       apply wp_region_lit
       refine sv (.bool (decide (u151 < 64))) hk rfl rfl rfl fun a hk => ?_
       show wpList _ _ _ [] _ _
       refine wpList_nil ?_
       refine hK164 _ _ ?_
       apply wp_seq_k; intro K165 hK165
       rcases cond_some H with ⟨c166, H⟩ | ⟨c166, H⟩
       ·have hk := hk.lit 115 c166 rfl
        refine cnd_true hk rfl rfl ?_
        refine wp_skip ?_
        refine hK165 _ _ ?_
        apply wp_seq_k; intro K167 hK167
        refine wp_block ?_
        apply wp_seq_k; intro K168 hK168
        apply wp_region_lit
        refine sm _ rfl hk rfl rfl rfl fun a hk => ?_
        refine sa _ rfl hk rfl rfl rfl fun a hk => ?_
        show wpList _ _ _ [] _ _
        refine wpList_nil ?_
        refine hK168 _ _ ?_
        have hs := hs.pick [(3, 3), (9, 9), (1, 1)] rfl
        apply wp_seq_k; intro K169 hK169
        refine wp_region_tree (.q 0 (.q 1 (.q 2 (.q 3 (.q 4 (.q 5 (.q 6 (.q 7 (.q 8 (.q 9 (.q 10 (.q 11 (.alt 12 (.alt 13 (.alt 14 (.alt 15 (.alt 16 (.last 17) .stop) .stop) .stop) .stop) .stop))))))))))))) mo (by kernel_rfl) (hs.pick [(3, 3), (9, 9), (1, 1)] rfl) fun _ => ?_
        have hs := hs.drew
        rcases ite_some H with ⟨c171, H⟩ | ⟨_, H⟩
        rotate_left
        ·cases H
        obtain ⟨b172, q173, hAc171⟩ := (o149.view).some_ (0 : Int) c171.1 (by rw [lh150]; exact c171.2)
        refine tqst (.pointer (some (padd (some ⟨b104, 0, none⟩) ((0 : Int).toNat * 1)))) hk rfl rfl rfl rfl (fun w hs => sia rfl hk rfl rfl rfl rfl un125 sz67 c171.1 c171.2 hAc171 fun a hk => qe hk) fun a hk => ?_
        obtain ⟨_, rfl, e174⟩ := (o149.view).at_ 0 (0 : Int) c171.1 (by rw [lh150]; exact c171.2)
        refine tqst (.int .u32 (u147.getD (0 : Int).toNat 0)) hk rfl rfl rfl rfl (fun w hs => sl (v := (.int .u32 (u147.getD (0 : Int).toNat 0))) rfl hk rfl rfl rfl ag67 ((e174 0 _ rfl).cell (hs.hasG (k := 9) rfl)) fun a hk => qe hk) fun a hk => ?_
        rcases ite_some H with ⟨c175, H⟩ | ⟨_, H⟩
        rotate_left
        ·cases H
        obtain ⟨b176, q177, hAc175⟩ := (o149.view).some_ (1 : Int) c175.1 (by rw [lh150]; exact c175.2)
        refine tqst (.pointer (some (padd (some ⟨b104, 0, none⟩) ((1 : Int).toNat * 1)))) hk rfl rfl rfl rfl (fun w hs => sia rfl hk rfl rfl rfl rfl un125 sz67 c175.1 c175.2 hAc175 fun a hk => qe hk) fun a hk => ?_
        obtain ⟨_, rfl, e178⟩ := (o149.view).at_ 0 (1 : Int) c175.1 (by rw [lh150]; exact c175.2)
        refine tqst (.int .u32 (u147.getD (1 : Int).toNat 0)) hk rfl rfl rfl rfl (fun w hs => sl (v := (.int .u32 (u147.getD (1 : Int).toNat 0))) rfl hk rfl rfl rfl ag67 ((e178 0 _ rfl).cell (hs.hasG (k := 9) rfl)) fun a hk => qe hk) fun a hk => ?_
        rcases ite_some H with ⟨c179, H⟩ | ⟨_, H⟩
        rotate_left
        ·cases H
        obtain ⟨b180, q181, hAc179⟩ := (o149.view).some_ (2 : Int) c179.1 (by rw [lh150]; exact c179.2)
        refine tqst (.pointer (some (padd (some ⟨b104, 0, none⟩) ((2 : Int).toNat * 1)))) hk rfl rfl rfl rfl (fun w hs => sia rfl hk rfl rfl rfl rfl un125 sz67 c179.1 c179.2 hAc179 fun a hk => qe hk) fun a hk => ?_
        obtain ⟨_, rfl, e182⟩ := (o149.view).at_ 0 (2 : Int) c179.1 (by rw [lh150]; exact c179.2)
        refine tqst (.int .u32 (u147.getD (2 : Int).toNat 0)) hk rfl rfl rfl rfl (fun w hs => sl (v := (.int .u32 (u147.getD (2 : Int).toNat 0))) rfl hk rfl rfl rfl ag67 ((e182 0 _ rfl).cell (hs.hasG (k := 9) rfl)) fun a hk => qe hk) fun a hk => ?_
        rcases ite_some H with ⟨c183, H⟩ | ⟨_, H⟩
        rotate_left
        ·cases H
        obtain ⟨b184, q185, hAc183⟩ := (o149.view).some_ (4 : Int) c183.1 (by rw [lh150]; exact c183.2)
        refine tqst (.pointer (some (padd (some ⟨b104, 0, none⟩) ((4 : Int).toNat * 1)))) hk rfl rfl rfl rfl (fun w hs => sia rfl hk rfl rfl rfl rfl un125 sz67 c183.1 c183.2 hAc183 fun a hk => qe hk) fun a hk => ?_
        obtain ⟨_, rfl, e186⟩ := (o149.view).at_ 0 (4 : Int) c183.1 (by rw [lh150]; exact c183.2)
        refine tqst (.int .u32 (u147.getD (4 : Int).toNat 0)) hk rfl rfl rfl rfl (fun w hs => sl (v := (.int .u32 (u147.getD (4 : Int).toNat 0))) rfl hk rfl rfl rfl ag67 ((e186 0 _ rfl).cell (hs.hasG (k := 9) rfl)) fun a hk => qe hk) fun a hk => ?_
        rcases ite_some H with ⟨c187, H⟩ | ⟨_, H⟩
        rotate_left
        ·cases H
        obtain ⟨b188, q189, hAc187⟩ := (o149.view).some_ (5 : Int) c187.1 (by rw [lh150]; exact c187.2)
        refine tqst (.pointer (some (padd (some ⟨b104, 0, none⟩) ((5 : Int).toNat * 1)))) hk rfl rfl rfl rfl (fun w hs => sia rfl hk rfl rfl rfl rfl un125 sz67 c187.1 c187.2 hAc187 fun a hk => qe hk) fun a hk => ?_
        obtain ⟨_, rfl, e190⟩ := (o149.view).at_ 0 (5 : Int) c187.1 (by rw [lh150]; exact c187.2)
        refine tqst (.int .u32 (u147.getD (5 : Int).toNat 0)) hk rfl rfl rfl rfl (fun w hs => sl (v := (.int .u32 (u147.getD (5 : Int).toNat 0))) rfl hk rfl rfl rfl ag67 ((e190 0 _ rfl).cell (hs.hasG (k := 9) rfl)) fun a hk => qe hk) fun a hk => ?_
        rcases ite_some H with ⟨c191, H⟩ | ⟨_, H⟩
        rotate_left
        ·cases H
        obtain ⟨b192, q193, hAc191⟩ := (o149.view).some_ (6 : Int) c191.1 (by rw [lh150]; exact c191.2)
        refine tqst (.pointer (some (padd (some ⟨b104, 0, none⟩) ((6 : Int).toNat * 1)))) hk rfl rfl rfl rfl (fun w hs => sia rfl hk rfl rfl rfl rfl un125 sz67 c191.1 c191.2 hAc191 fun a hk => qe hk) fun a hk => ?_
        obtain ⟨_, rfl, e194⟩ := (o149.view).at_ 0 (6 : Int) c191.1 (by rw [lh150]; exact c191.2)
        refine tqst (.int .u32 (u147.getD (6 : Int).toNat 0)) hk rfl rfl rfl rfl (fun w hs => sl (v := (.int .u32 (u147.getD (6 : Int).toNat 0))) rfl hk rfl rfl rfl ag67 ((e194 0 _ rfl).cell (hs.hasG (k := 9) rfl)) fun a hk => qe hk) fun a hk => ?_
        refine tsst hk rfl rfl (fun K_r170_12 hK_r170_12 w hF => ?_) wt_stop
        have hs := hs.f hF
        refine sa _ rfl hk rfl rfl rfl fun a hk => ?_
        refine se (hs.pick [(3, 3), (9, 9), (1, 1)] rfl) hk (hK_r170_12 _ _ ?_)
        refine tsst hk rfl rfl (fun K_r170_13 hK_r170_13 w hF => ?_) wt_stop
        have hs := hs.f hF
        refine sa _ rfl hk rfl rfl rfl fun a hk => ?_
        refine se (hs.pick [(3, 3), (9, 9), (1, 1)] rfl) hk (hK_r170_13 _ _ ?_)
        refine tsst hk rfl rfl (fun K_r170_14 hK_r170_14 w hF => ?_) wt_stop
        have hs := hs.f hF
        refine sa _ rfl hk rfl rfl rfl fun a hk => ?_
        refine se (hs.pick [(3, 3), (9, 9), (1, 1)] rfl) hk (hK_r170_14 _ _ ?_)
        refine tsst hk rfl rfl (fun K_r170_15 hK_r170_15 w hF => ?_) wt_stop
        have hs := hs.f hF
        refine sa _ rfl hk rfl rfl rfl fun a hk => ?_
        refine se (hs.pick [(3, 3), (9, 9), (1, 1)] rfl) hk (hK_r170_15 _ _ ?_)
        refine tsst hk rfl rfl (fun K_r170_16 hK_r170_16 w hF => ?_) wt_stop
        have hs := hs.f hF
        refine sa _ rfl hk rfl rfl rfl fun a hk => ?_
        refine se (hs.pick [(3, 3), (9, 9), (1, 1)] rfl) hk (hK_r170_16 _ _ ?_)
        refine tlst hk rfl rfl fun K_r170_17 hK_r170_17 w hF => ?_
        have hs := hs.f hF
        refine sa _ rfl hk rfl rfl rfl fun a hk => ?_
        refine se trivial hk (hK_r170_17 _ _ fun w hF => ?_)
        have hs := hs.f hF
        refine hK169 _ _ ?_
        apply wp_seq_k; intro K195 hK195
        refine wp_region_tree (.q 0 (.q 1 (.q 2 (.q 3 (.q 4 (.q 5 (.q 6 (.q 7 (.q 8 (.q 9 (.q 10 (.q 11 (.q 12 (.q 13 (.q 14 (.q 15 (.q 16 (.q 17 (.q 18 (.q 19 (.q 20 (.q 21 (.q 22 (.q 23 (.q 24 (.q 25 (.alt 26 (.alt 27 (.alt 28 (.alt 29 (.last 30) .stop) .stop) .stop) .stop))))))))))))))))))))))))))) mo (by kernel_rfl) (hs.pick [(3, 3), (9, 9), (1, 1)] rfl) fun _ => ?_
        have hs := hs.drew
        rcases ite_some H with ⟨c197, H⟩ | ⟨_, H⟩
        rotate_left
        ·cases H
        obtain ⟨b198, q199, hAc197⟩ := (o149.view).some_ (7 : Int) c197.1 (by rw [lh150]; exact c197.2)
        refine tqst (.pointer (some (padd (some ⟨b104, 0, none⟩) ((7 : Int).toNat * 1)))) hk rfl rfl rfl rfl (fun w hs => sia rfl hk rfl rfl rfl rfl un125 sz67 c197.1 c197.2 hAc197 fun a hk => qe hk) fun a hk => ?_
        obtain ⟨_, rfl, e200⟩ := (o149.view).at_ 0 (7 : Int) c197.1 (by rw [lh150]; exact c197.2)
        refine tqst (.int .u32 (u147.getD (7 : Int).toNat 0)) hk rfl rfl rfl rfl (fun w hs => sl (v := (.int .u32 (u147.getD (7 : Int).toNat 0))) rfl hk rfl rfl rfl ag67 ((e200 0 _ rfl).cell (hs.hasG (k := 9) rfl)) fun a hk => qe hk) fun a hk => ?_
        refine tqst (.int .u32 (u147.getD (4 : Int).toNat 0)) hk rfl rfl rfl rfl (fun w hs => sm _ rfl hk rfl rfl rfl fun a hk => qe hk) fun a hk => ?_
        obtain ⟨y201, h202, H⟩ := bind_some H
        refine tqst (.int .u32 y201) hk rfl rfl rfl rfl (fun w hs => sc rfl en124 hk rfl rfl rfl (impl_turned_t _ (u147.getD (4 : Int).toNat 0) 6 _ h202) fun _ w hR a hk => qc hR hk) fun a hk => ?_
        refine tqst (.int .u32 (u147.getD (4 : Int).toNat 0)) hk rfl rfl rfl rfl (fun w hs => sm _ rfl hk rfl rfl rfl fun a hk => qe hk) fun a hk => ?_
        obtain ⟨y203, h204, H⟩ := bind_some H
        refine tqst (.int .u32 y203) hk rfl rfl rfl rfl (fun w hs => sc rfl en124 hk rfl rfl rfl (impl_turned_t _ (u147.getD (4 : Int).toNat 0) 11 _ h204) fun _ w hR a hk => qc hR hk) fun a hk => ?_
        refine tqst (.int .u32 (IntKind.wrap .u32 ((BitVec.ofInt 32 y201 ^^^ BitVec.ofInt 32 y203).toNat : Int))) hk rfl rfl rfl rfl (fun w hs => sv (.int .u32 (IntKind.wrap .u32 ((BitVec.ofInt 32 y201 ^^^ BitVec.ofInt 32 y203).toNat : Int))) hk rfl rfl rfl fun a hk => qe hk) fun a hk => ?_
        refine tqst (.int .u32 (u147.getD (4 : Int).toNat 0)) hk rfl rfl rfl rfl (fun w hs => sm _ rfl hk rfl rfl rfl fun a hk => qe hk) fun a hk => ?_
        obtain ⟨y205, h206, H⟩ := bind_some H
        refine tqst (.int .u32 y205) hk rfl rfl rfl rfl (fun w hs => sc rfl en124 hk rfl rfl rfl (impl_turned_t _ (u147.getD (4 : Int).toNat 0) 25 _ h206) fun _ w hR a hk => qc hR hk) fun a hk => ?_
        refine tqst (.int .u32 (IntKind.wrap .u32 ((BitVec.ofInt 32 (IntKind.wrap .u32 ((BitVec.ofInt 32 y201 ^^^ BitVec.ofInt 32 y203).toNat : Int)) ^^^ BitVec.ofInt 32 y205).toNat : Int))) hk rfl rfl rfl rfl (fun w hs => sv (.int .u32 (IntKind.wrap .u32 ((BitVec.ofInt 32 (IntKind.wrap .u32 ((BitVec.ofInt 32 y201 ^^^ BitVec.ofInt 32 y203).toNat : Int)) ^^^ BitVec.ofInt 32 y205).toNat : Int))) hk rfl rfl rfl fun a hk => qe hk) fun a hk => ?_
        refine tqst (.int .u32 (IntKind.wrap .u32 ((u147.getD (7 : Int).toNat 0) + (IntKind.wrap .u32 ((BitVec.ofInt 32 (IntKind.wrap .u32 ((BitVec.ofInt 32 y201 ^^^ BitVec.ofInt 32 y203).toNat : Int)) ^^^ BitVec.ofInt 32 y205).toNat : Int))))) hk rfl rfl rfl rfl (fun w hs => sv (.int .u32 (IntKind.wrap .u32 ((u147.getD (7 : Int).toNat 0) + (IntKind.wrap .u32 ((BitVec.ofInt 32 (IntKind.wrap .u32 ((BitVec.ofInt 32 y201 ^^^ BitVec.ofInt 32 y203).toNat : Int)) ^^^ BitVec.ofInt 32 y205).toNat : Int))))) hk rfl rfl rfl fun a hk => qe hk) fun a hk => ?_
        refine tqst (.int .u32 (u147.getD (4 : Int).toNat 0)) hk rfl rfl rfl rfl (fun w hs => sm _ rfl hk rfl rfl rfl fun a hk => qe hk) fun a hk => ?_
        refine tqst (.int .u32 (u147.getD (5 : Int).toNat 0)) hk rfl rfl rfl rfl (fun w hs => sm _ rfl hk rfl rfl rfl fun a hk => qe hk) fun a hk => ?_
        refine tqst (.int .u32 (IntKind.wrap .u32 ((BitVec.ofInt 32 (u147.getD (4 : Int).toNat 0) &&& BitVec.ofInt 32 (u147.getD (5 : Int).toNat 0)).toNat : Int))) hk rfl rfl rfl rfl (fun w hs => sv (.int .u32 (IntKind.wrap .u32 ((BitVec.ofInt 32 (u147.getD (4 : Int).toNat 0) &&& BitVec.ofInt 32 (u147.getD (5 : Int).toNat 0)).toNat : Int))) hk rfl rfl rfl fun a hk => qe hk) fun a hk => ?_
        refine tqst (.int .u32 (u147.getD (4 : Int).toNat 0)) hk rfl rfl rfl rfl (fun w hs => sm _ rfl hk rfl rfl rfl fun a hk => qe hk) fun a hk => ?_
        refine tqst (.int .u32 (IntKind.wrap .u32 ((BitVec.ofInt 32 4294967295 ^^^ BitVec.ofInt 32 (u147.getD (4 : Int).toNat 0)).toNat : Int))) hk rfl rfl rfl rfl (fun w hs => sv (.int .u32 (IntKind.wrap .u32 ((BitVec.ofInt 32 4294967295 ^^^ BitVec.ofInt 32 (u147.getD (4 : Int).toNat 0)).toNat : Int))) hk rfl rfl rfl fun a hk => qe hk) fun a hk => ?_
        refine tqst (.int .u32 (u147.getD (6 : Int).toNat 0)) hk rfl rfl rfl rfl (fun w hs => sm _ rfl hk rfl rfl rfl fun a hk => qe hk) fun a hk => ?_
        refine tqst (.int .u32 (IntKind.wrap .u32 ((BitVec.ofInt 32 (IntKind.wrap .u32 ((BitVec.ofInt 32 4294967295 ^^^ BitVec.ofInt 32 (u147.getD (4 : Int).toNat 0)).toNat : Int)) &&& BitVec.ofInt 32 (u147.getD (6 : Int).toNat 0)).toNat : Int))) hk rfl rfl rfl rfl (fun w hs => sv (.int .u32 (IntKind.wrap .u32 ((BitVec.ofInt 32 (IntKind.wrap .u32 ((BitVec.ofInt 32 4294967295 ^^^ BitVec.ofInt 32 (u147.getD (4 : Int).toNat 0)).toNat : Int)) &&& BitVec.ofInt 32 (u147.getD (6 : Int).toNat 0)).toNat : Int))) hk rfl rfl rfl fun a hk => qe hk) fun a hk => ?_
        refine tqst (.int .u32 (IntKind.wrap .u32 ((BitVec.ofInt 32 (IntKind.wrap .u32 ((BitVec.ofInt 32 (u147.getD (4 : Int).toNat 0) &&& BitVec.ofInt 32 (u147.getD (5 : Int).toNat 0)).toNat : Int)) ^^^ BitVec.ofInt 32 (IntKind.wrap .u32 ((BitVec.ofInt 32 (IntKind.wrap .u32 ((BitVec.ofInt 32 4294967295 ^^^ BitVec.ofInt 32 (u147.getD (4 : Int).toNat 0)).toNat : Int)) &&& BitVec.ofInt 32 (u147.getD (6 : Int).toNat 0)).toNat : Int))).toNat : Int))) hk rfl rfl rfl rfl (fun w hs => sv (.int .u32 (IntKind.wrap .u32 ((BitVec.ofInt 32 (IntKind.wrap .u32 ((BitVec.ofInt 32 (u147.getD (4 : Int).toNat 0) &&& BitVec.ofInt 32 (u147.getD (5 : Int).toNat 0)).toNat : Int)) ^^^ BitVec.ofInt 32 (IntKind.wrap .u32 ((BitVec.ofInt 32 (IntKind.wrap .u32 ((BitVec.ofInt 32 4294967295 ^^^ BitVec.ofInt 32 (u147.getD (4 : Int).toNat 0)).toNat : Int)) &&& BitVec.ofInt 32 (u147.getD (6 : Int).toNat 0)).toNat : Int))).toNat : Int))) hk rfl rfl rfl fun a hk => qe hk) fun a hk => ?_
        refine tqst (.int .u32 (IntKind.wrap .u32 ((IntKind.wrap .u32 ((u147.getD (7 : Int).toNat 0) + (IntKind.wrap .u32 ((BitVec.ofInt 32 (IntKind.wrap .u32 ((BitVec.ofInt 32 y201 ^^^ BitVec.ofInt 32 y203).toNat : Int)) ^^^ BitVec.ofInt 32 y205).toNat : Int)))) + (IntKind.wrap .u32 ((BitVec.ofInt 32 (IntKind.wrap .u32 ((BitVec.ofInt 32 (u147.getD (4 : Int).toNat 0) &&& BitVec.ofInt 32 (u147.getD (5 : Int).toNat 0)).toNat : Int)) ^^^ BitVec.ofInt 32 (IntKind.wrap .u32 ((BitVec.ofInt 32 (IntKind.wrap .u32 ((BitVec.ofInt 32 4294967295 ^^^ BitVec.ofInt 32 (u147.getD (4 : Int).toNat 0)).toNat : Int)) &&& BitVec.ofInt 32 (u147.getD (6 : Int).toNat 0)).toNat : Int))).toNat : Int))))) hk rfl rfl rfl rfl (fun w hs => sv (.int .u32 (IntKind.wrap .u32 ((IntKind.wrap .u32 ((u147.getD (7 : Int).toNat 0) + (IntKind.wrap .u32 ((BitVec.ofInt 32 (IntKind.wrap .u32 ((BitVec.ofInt 32 y201 ^^^ BitVec.ofInt 32 y203).toNat : Int)) ^^^ BitVec.ofInt 32 y205).toNat : Int)))) + (IntKind.wrap .u32 ((BitVec.ofInt 32 (IntKind.wrap .u32 ((BitVec.ofInt 32 (u147.getD (4 : Int).toNat 0) &&& BitVec.ofInt 32 (u147.getD (5 : Int).toNat 0)).toNat : Int)) ^^^ BitVec.ofInt 32 (IntKind.wrap .u32 ((BitVec.ofInt 32 (IntKind.wrap .u32 ((BitVec.ofInt 32 4294967295 ^^^ BitVec.ofInt 32 (u147.getD (4 : Int).toNat 0)).toNat : Int)) &&& BitVec.ofInt 32 (u147.getD (6 : Int).toNat 0)).toNat : Int))).toNat : Int))))) hk rfl rfl rfl fun a hk => qe hk) fun a hk => ?_
        refine tqst (.pointer (some ⟨b2_, 0, none⟩)) hk rfl rfl rfl rfl (fun w hs => sm _ rfl hk rfl rfl rfl fun a hk => qe hk) fun a hk => ?_
        refine tqst (.int .i64 u151) hk rfl rfl rfl rfl (fun w hs => sm _ rfl hk rfl rfl rfl fun a hk => qe hk) fun a hk => ?_
        refine tqst (.pointer (some ⟨b2_, 0, none⟩)) hk rfl rfl rfl rfl (fun w hs => snk rfl hk rfl rfl rfl fun a hk => qe hk) fun a hk => ?_
        rcases ite_some H with ⟨c207, H⟩ | ⟨_, H⟩
        rotate_left
        ·cases H
        obtain ⟨b208, q209, hAc207⟩ := (v2_).some_ u151 c207.1 (by rw [e2_]; exact c207.2)
        refine tqst (.pointer (some (padd (some ⟨b2_, 0, none⟩) (u151.toNat * 1)))) hk rfl rfl rfl rfl (fun w hs => sia rfl hk rfl rfl rfl rfl un91 sz67 c207.1 c207.2 hAc207 fun a hk => qe hk) fun a hk => ?_
        obtain ⟨_, rfl, e210⟩ := (v2_).at_ 0 u151 c207.1 (by rw [e2_]; exact c207.2)
        refine tqst (.int .u32 (l2.getD u151.toNat 0)) hk rfl rfl rfl rfl (fun w hs => sl (v := (.int .u32 (l2.getD u151.toNat 0))) rfl hk rfl rfl rfl ag67 ((e210 0 _ rfl).cell (hs.hasD (k := 2) rfl)) fun a hk => qe hk) fun a hk => ?_
        refine tqst (.int .u32 (IntKind.wrap .u32 ((IntKind.wrap .u32 ((IntKind.wrap .u32 ((u147.getD (7 : Int).toNat 0) + (IntKind.wrap .u32 ((BitVec.ofInt 32 (IntKind.wrap .u32 ((BitVec.ofInt 32 y201 ^^^ BitVec.ofInt 32 y203).toNat : Int)) ^^^ BitVec.ofInt 32 y205).toNat : Int)))) + (IntKind.wrap .u32 ((BitVec.ofInt 32 (IntKind.wrap .u32 ((BitVec.ofInt 32 (u147.getD (4 : Int).toNat 0) &&& BitVec.ofInt 32 (u147.getD (5 : Int).toNat 0)).toNat : Int)) ^^^ BitVec.ofInt 32 (IntKind.wrap .u32 ((BitVec.ofInt 32 (IntKind.wrap .u32 ((BitVec.ofInt 32 4294967295 ^^^ BitVec.ofInt 32 (u147.getD (4 : Int).toNat 0)).toNat : Int)) &&& BitVec.ofInt 32 (u147.getD (6 : Int).toNat 0)).toNat : Int))).toNat : Int)))) + (l2.getD u151.toNat 0)))) hk rfl rfl rfl rfl (fun w hs => sv (.int .u32 (IntKind.wrap .u32 ((IntKind.wrap .u32 ((IntKind.wrap .u32 ((u147.getD (7 : Int).toNat 0) + (IntKind.wrap .u32 ((BitVec.ofInt 32 (IntKind.wrap .u32 ((BitVec.ofInt 32 y201 ^^^ BitVec.ofInt 32 y203).toNat : Int)) ^^^ BitVec.ofInt 32 y205).toNat : Int)))) + (IntKind.wrap .u32 ((BitVec.ofInt 32 (IntKind.wrap .u32 ((BitVec.ofInt 32 (u147.getD (4 : Int).toNat 0) &&& BitVec.ofInt 32 (u147.getD (5 : Int).toNat 0)).toNat : Int)) ^^^ BitVec.ofInt 32 (IntKind.wrap .u32 ((BitVec.ofInt 32 (IntKind.wrap .u32 ((BitVec.ofInt 32 4294967295 ^^^ BitVec.ofInt 32 (u147.getD (4 : Int).toNat 0)).toNat : Int)) &&& BitVec.ofInt 32 (u147.getD (6 : Int).toNat 0)).toNat : Int))).toNat : Int)))) + (l2.getD u151.toNat 0)))) hk rfl rfl rfl fun a hk => qe hk) fun a hk => ?_
        refine tsst hk rfl rfl (fun K_r196_26 hK_r196_26 w hF => ?_) wt_stop
        have hs := hs.f hF
        refine sm _ rfl hk rfl rfl rfl fun a hk => ?_
        refine se (hs.pick [(3, 3), (9, 9), (1, 1)] rfl) hk (hK_r196_26 _ _ ?_)
        refine tsst hk rfl rfl (fun K_r196_27 hK_r196_27 w hF => ?_) wt_stop
        have hs := hs.f hF
        rcases ite_some H with ⟨c211, H⟩ | ⟨_, H⟩
        rotate_left
        ·cases H
        obtain ⟨b212, q213, hAc211⟩ := (o55.view).some_ u151 c211.1 (by rw [lh56]; exact c211.2)
        refine sia rfl hk rfl rfl rfl rfl un91 sz67 c211.1 c211.2 hAc211 fun a hk => ?_
        refine se (hs.pick [(3, 3), (9, 9), (1, 1)] rfl) hk (hK_r196_27 _ _ ?_)
        refine tsst hk rfl rfl (fun K_r196_28 hK_r196_28 w hF => ?_) wt_stop
        have hs := hs.f hF
        obtain ⟨_, rfl, e214⟩ := (o55.view).at_ 0 u151 c211.1 (by rw [lh56]; exact c211.2)
        refine sl (v := (.int .u32 (u53.getD u151.toNat 0))) rfl hk rfl rfl rfl ag67 ((e214 0 _ rfl).cell (hs.hasG (k := 3) rfl)) fun a hk => ?_
        refine se (hs.pick [(3, 3), (9, 9), (1, 1)] rfl) hk (hK_r196_28 _ _ ?_)
        refine tsst hk rfl rfl (fun K_r196_29 hK_r196_29 w hF => ?_) wt_stop
        have hs := hs.f hF
        refine sv (.int .u32 (IntKind.wrap .u32 ((IntKind.wrap .u32 ((IntKind.wrap .u32 ((IntKind.wrap .u32 ((u147.getD (7 : Int).toNat 0) + (IntKind.wrap .u32 ((BitVec.ofInt 32 (IntKind.wrap .u32 ((BitVec.ofInt 32 y201 ^^^ BitVec.ofInt 32 y203).toNat : Int)) ^^^ BitVec.ofInt 32 y205).toNat : Int)))) + (IntKind.wrap .u32 ((BitVec.ofInt 32 (IntKind.wrap .u32 ((BitVec.ofInt 32 (u147.getD (4 : Int).toNat 0) &&& BitVec.ofInt 32 (u147.getD (5 : Int).toNat 0)).toNat : Int)) ^^^ BitVec.ofInt 32 (IntKind.wrap .u32 ((BitVec.ofInt 32 (IntKind.wrap .u32 ((BitVec.ofInt 32 4294967295 ^^^ BitVec.ofInt 32 (u147.getD (4 : Int).toNat 0)).toNat : Int)) &&& BitVec.ofInt 32 (u147.getD (6 : Int).toNat 0)).toNat : Int))).toNat : Int)))) + (l2.getD u151.toNat 0))) + (u53.getD u151.toNat 0)))) hk rfl rfl rfl fun a hk => ?_
        refine se (hs.pick [(3, 3), (9, 9), (1, 1)] rfl) hk (hK_r196_29 _ _ ?_)
        refine tlst hk rfl rfl fun K_r196_30 hK_r196_30 w hF => ?_
        have hs := hs.f hF
        refine sa _ rfl hk rfl rfl rfl fun a hk => ?_
        refine se trivial hk (hK_r196_30 _ _ fun w hF => ?_)
        have hs := hs.f hF
        refine hK195 _ _ ?_
        apply wp_seq_k; intro K215 hK215
        apply wp_region_lit
        refine sm _ rfl hk rfl rfl rfl fun a hk => ?_
        obtain ⟨y216, h217, H⟩ := bind_some H
        refine sc rfl en124 hk rfl rfl rfl (impl_turned_t _ (u147.getD (0 : Int).toNat 0) 2 _ h217) ?_
        rintro _ w ⟨rfl, hG⟩ a hk
        have hs := hs.call0 hG
        refine sm _ rfl hk rfl rfl rfl fun a hk => ?_
        obtain ⟨y218, h219, H⟩ := bind_some H
        refine sc rfl en124 hk rfl rfl rfl (impl_turned_t _ (u147.getD (0 : Int).toNat 0) 13 _ h219) ?_
        rintro _ w ⟨rfl, hG⟩ a hk
        have hs := hs.call0 hG
        refine sv (.int .u32 (IntKind.wrap .u32 ((BitVec.ofInt 32 y216 ^^^ BitVec.ofInt 32 y218).toNat : Int))) hk rfl rfl rfl fun a hk => ?_
        refine sm _ rfl hk rfl rfl rfl fun a hk => ?_
        obtain ⟨y220, h221, H⟩ := bind_some H
        refine sc rfl en124 hk rfl rfl rfl (impl_turned_t _ (u147.getD (0 : Int).toNat 0) 22 _ h221) ?_
        rintro _ w ⟨rfl, hG⟩ a hk
        have hs := hs.call0 hG
        refine sv (.int .u32 (IntKind.wrap .u32 ((BitVec.ofInt 32 (IntKind.wrap .u32 ((BitVec.ofInt 32 y216 ^^^ BitVec.ofInt 32 y218).toNat : Int)) ^^^ BitVec.ofInt 32 y220).toNat : Int))) hk rfl rfl rfl fun a hk => ?_
        refine sm _ rfl hk rfl rfl rfl fun a hk => ?_
        refine sm _ rfl hk rfl rfl rfl fun a hk => ?_
        refine sv (.int .u32 (IntKind.wrap .u32 ((BitVec.ofInt 32 (u147.getD (0 : Int).toNat 0) &&& BitVec.ofInt 32 (u147.getD (1 : Int).toNat 0)).toNat : Int))) hk rfl rfl rfl fun a hk => ?_
        refine sm _ rfl hk rfl rfl rfl fun a hk => ?_
        refine sm _ rfl hk rfl rfl rfl fun a hk => ?_
        refine sv (.int .u32 (IntKind.wrap .u32 ((BitVec.ofInt 32 (u147.getD (0 : Int).toNat 0) &&& BitVec.ofInt 32 (u147.getD (2 : Int).toNat 0)).toNat : Int))) hk rfl rfl rfl fun a hk => ?_
        refine sv (.int .u32 (IntKind.wrap .u32 ((BitVec.ofInt 32 (IntKind.wrap .u32 ((BitVec.ofInt 32 (u147.getD (0 : Int).toNat 0) &&& BitVec.ofInt 32 (u147.getD (1 : Int).toNat 0)).toNat : Int)) ^^^ BitVec.ofInt 32 (IntKind.wrap .u32 ((BitVec.ofInt 32 (u147.getD (0 : Int).toNat 0) &&& BitVec.ofInt 32 (u147.getD (2 : Int).toNat 0)).toNat : Int))).toNat : Int))) hk rfl rfl rfl fun a hk => ?_
        refine sm _ rfl hk rfl rfl rfl fun a hk => ?_
        refine sm _ rfl hk rfl rfl rfl fun a hk => ?_
        refine sv (.int .u32 (IntKind.wrap .u32 ((BitVec.ofInt 32 (u147.getD (1 : Int).toNat 0) &&& BitVec.ofInt 32 (u147.getD (2 : Int).toNat 0)).toNat : Int))) hk rfl rfl rfl fun a hk => ?_
        refine sv (.int .u32 (IntKind.wrap .u32 ((BitVec.ofInt 32 (IntKind.wrap .u32 ((BitVec.ofInt 32 (IntKind.wrap .u32 ((BitVec.ofInt 32 (u147.getD (0 : Int).toNat 0) &&& BitVec.ofInt 32 (u147.getD (1 : Int).toNat 0)).toNat : Int)) ^^^ BitVec.ofInt 32 (IntKind.wrap .u32 ((BitVec.ofInt 32 (u147.getD (0 : Int).toNat 0) &&& BitVec.ofInt 32 (u147.getD (2 : Int).toNat 0)).toNat : Int))).toNat : Int)) ^^^ BitVec.ofInt 32 (IntKind.wrap .u32 ((BitVec.ofInt 32 (u147.getD (1 : Int).toNat 0) &&& BitVec.ofInt 32 (u147.getD (2 : Int).toNat 0)).toNat : Int))).toNat : Int))) hk rfl rfl rfl fun a hk => ?_
        refine sv (.int .u32 (IntKind.wrap .u32 ((IntKind.wrap .u32 ((BitVec.ofInt 32 (IntKind.wrap .u32 ((BitVec.ofInt 32 y216 ^^^ BitVec.ofInt 32 y218).toNat : Int)) ^^^ BitVec.ofInt 32 y220).toNat : Int)) + (IntKind.wrap .u32 ((BitVec.ofInt 32 (IntKind.wrap .u32 ((BitVec.ofInt 32 (IntKind.wrap .u32 ((BitVec.ofInt 32 (u147.getD (0 : Int).toNat 0) &&& BitVec.ofInt 32 (u147.getD (1 : Int).toNat 0)).toNat : Int)) ^^^ BitVec.ofInt 32 (IntKind.wrap .u32 ((BitVec.ofInt 32 (u147.getD (0 : Int).toNat 0) &&& BitVec.ofInt 32 (u147.getD (2 : Int).toNat 0)).toNat : Int))).toNat : Int)) ^^^ BitVec.ofInt 32 (IntKind.wrap .u32 ((BitVec.ofInt 32 (u147.getD (1 : Int).toNat 0) &&& BitVec.ofInt 32 (u147.getD (2 : Int).toNat 0)).toNat : Int))).toNat : Int))))) hk rfl rfl rfl fun a hk => ?_
        refine sa _ rfl hk rfl rfl rfl fun a hk => ?_
        show wpList _ _ _ [] _ _
        refine wpList_nil ?_
        refine hK215 _ _ ?_
        apply wp_region_lit
        refine sm _ rfl hk rfl rfl rfl fun a hk => ?_
        refine sm _ rfl hk rfl rfl rfl fun a hk => ?_
        refine sv (.int .u32 (IntKind.wrap .u32 ((IntKind.wrap .u32 ((IntKind.wrap .u32 ((IntKind.wrap .u32 ((IntKind.wrap .u32 ((u147.getD (7 : Int).toNat 0) + (IntKind.wrap .u32 ((BitVec.ofInt 32 (IntKind.wrap .u32 ((BitVec.ofInt 32 y201 ^^^ BitVec.ofInt 32 y203).toNat : Int)) ^^^ BitVec.ofInt 32 y205).toNat : Int)))) + (IntKind.wrap .u32 ((BitVec.ofInt 32 (IntKind.wrap .u32 ((BitVec.ofInt 32 (u147.getD (4 : Int).toNat 0) &&& BitVec.ofInt 32 (u147.getD (5 : Int).toNat 0)).toNat : Int)) ^^^ BitVec.ofInt 32 (IntKind.wrap .u32 ((BitVec.ofInt 32 (IntKind.wrap .u32 ((BitVec.ofInt 32 4294967295 ^^^ BitVec.ofInt 32 (u147.getD (4 : Int).toNat 0)).toNat : Int)) &&& BitVec.ofInt 32 (u147.getD (6 : Int).toNat 0)).toNat : Int))).toNat : Int)))) + (l2.getD u151.toNat 0))) + (u53.getD u151.toNat 0))) + (IntKind.wrap .u32 ((IntKind.wrap .u32 ((BitVec.ofInt 32 (IntKind.wrap .u32 ((BitVec.ofInt 32 y216 ^^^ BitVec.ofInt 32 y218).toNat : Int)) ^^^ BitVec.ofInt 32 y220).toNat : Int)) + (IntKind.wrap .u32 ((BitVec.ofInt 32 (IntKind.wrap .u32 ((BitVec.ofInt 32 (IntKind.wrap .u32 ((BitVec.ofInt 32 (u147.getD (0 : Int).toNat 0) &&& BitVec.ofInt 32 (u147.getD (1 : Int).toNat 0)).toNat : Int)) ^^^ BitVec.ofInt 32 (IntKind.wrap .u32 ((BitVec.ofInt 32 (u147.getD (0 : Int).toNat 0) &&& BitVec.ofInt 32 (u147.getD (2 : Int).toNat 0)).toNat : Int))).toNat : Int)) ^^^ BitVec.ofInt 32 (IntKind.wrap .u32 ((BitVec.ofInt 32 (u147.getD (1 : Int).toNat 0) &&& BitVec.ofInt 32 (u147.getD (2 : Int).toNat 0)).toNat : Int))).toNat : Int))))))) hk rfl rfl rfl fun a hk => ?_
        refine sm _ rfl hk rfl rfl rfl fun a hk => ?_
        refine sm _ rfl hk rfl rfl rfl fun a hk => ?_
        refine sm _ rfl hk rfl rfl rfl fun a hk => ?_
        rcases ite_some H with ⟨c222, H⟩ | ⟨_, H⟩
        rotate_left
        ·cases H
        obtain ⟨b223, q224, hAc222⟩ := (o149.view).some_ (3 : Int) c222.1 (by rw [lh150]; exact c222.2)
        refine sia rfl hk rfl rfl rfl rfl un125 sz67 c222.1 c222.2 hAc222 fun a hk => ?_
        obtain ⟨_, rfl, e225⟩ := (o149.view).at_ 0 (3 : Int) c222.1 (by rw [lh150]; exact c222.2)
        refine sl (v := (.int .u32 (u147.getD (3 : Int).toNat 0))) rfl hk rfl rfl rfl ag67 ((e225 0 _ rfl).cell (hs.hasG (k := 9) rfl)) fun a hk => ?_
        refine sm _ rfl hk rfl rfl rfl fun a hk => ?_
        refine sv (.int .u32 (IntKind.wrap .u32 ((u147.getD (3 : Int).toNat 0) + (IntKind.wrap .u32 ((IntKind.wrap .u32 ((IntKind.wrap .u32 ((IntKind.wrap .u32 ((u147.getD (7 : Int).toNat 0) + (IntKind.wrap .u32 ((BitVec.ofInt 32 (IntKind.wrap .u32 ((BitVec.ofInt 32 y201 ^^^ BitVec.ofInt 32 y203).toNat : Int)) ^^^ BitVec.ofInt 32 y205).toNat : Int)))) + (IntKind.wrap .u32 ((BitVec.ofInt 32 (IntKind.wrap .u32 ((BitVec.ofInt 32 (u147.getD (4 : Int).toNat 0) &&& BitVec.ofInt 32 (u147.getD (5 : Int).toNat 0)).toNat : Int)) ^^^ BitVec.ofInt 32 (IntKind.wrap .u32 ((BitVec.ofInt 32 (IntKind.wrap .u32 ((BitVec.ofInt 32 4294967295 ^^^ BitVec.ofInt 32 (u147.getD (4 : Int).toNat 0)).toNat : Int)) &&& BitVec.ofInt 32 (u147.getD (6 : Int).toNat 0)).toNat : Int))).toNat : Int)))) + (l2.getD u151.toNat 0))) + (u53.getD u151.toNat 0)))))) hk rfl rfl rfl fun a hk => ?_
        refine sm _ rfl hk rfl rfl rfl fun a hk => ?_
        refine sm _ rfl hk rfl rfl rfl fun a hk => ?_
        refine sm _ rfl hk rfl rfl rfl fun a hk => ?_
        refine sbd (pv := [(0, (.int .u32 (IntKind.wrap .u32 ((IntKind.wrap .u32 ((IntKind.wrap .u32 ((IntKind.wrap .u32 ((IntKind.wrap .u32 ((u147.getD (7 : Int).toNat 0) + (IntKind.wrap .u32 ((BitVec.ofInt 32 (IntKind.wrap .u32 ((BitVec.ofInt 32 y201 ^^^ BitVec.ofInt 32 y203).toNat : Int)) ^^^ BitVec.ofInt 32 y205).toNat : Int)))) + (IntKind.wrap .u32 ((BitVec.ofInt 32 (IntKind.wrap .u32 ((BitVec.ofInt 32 (u147.getD (4 : Int).toNat 0) &&& BitVec.ofInt 32 (u147.getD (5 : Int).toNat 0)).toNat : Int)) ^^^ BitVec.ofInt 32 (IntKind.wrap .u32 ((BitVec.ofInt 32 (IntKind.wrap .u32 ((BitVec.ofInt 32 4294967295 ^^^ BitVec.ofInt 32 (u147.getD (4 : Int).toNat 0)).toNat : Int)) &&& BitVec.ofInt 32 (u147.getD (6 : Int).toNat 0)).toNat : Int))).toNat : Int)))) + (l2.getD u151.toNat 0))) + (u53.getD u151.toNat 0))) + (IntKind.wrap .u32 ((IntKind.wrap .u32 ((BitVec.ofInt 32 (IntKind.wrap .u32 ((BitVec.ofInt 32 y216 ^^^ BitVec.ofInt 32 y218).toNat : Int)) ^^^ BitVec.ofInt 32 y220).toNat : Int)) + (IntKind.wrap .u32 ((BitVec.ofInt 32 (IntKind.wrap .u32 ((BitVec.ofInt 32 (IntKind.wrap .u32 ((BitVec.ofInt 32 (u147.getD (0 : Int).toNat 0) &&& BitVec.ofInt 32 (u147.getD (1 : Int).toNat 0)).toNat : Int)) ^^^ BitVec.ofInt 32 (IntKind.wrap .u32 ((BitVec.ofInt 32 (u147.getD (0 : Int).toNat 0) &&& BitVec.ofInt 32 (u147.getD (2 : Int).toNat 0)).toNat : Int))).toNat : Int)) ^^^ BitVec.ofInt 32 (IntKind.wrap .u32 ((BitVec.ofInt 32 (u147.getD (1 : Int).toNat 0) &&& BitVec.ofInt 32 (u147.getD (2 : Int).toNat 0)).toNat : Int))).toNat : Int)))))))), (1, (.int .u32 (u147.getD (0 : Int).toNat 0))), (2, (.int .u32 (u147.getD (1 : Int).toNat 0))), (3, (.int .u32 (u147.getD (2 : Int).toNat 0))), (4, (.int .u32 (IntKind.wrap .u32 ((u147.getD (3 : Int).toNat 0) + (IntKind.wrap .u32 ((IntKind.wrap .u32 ((IntKind.wrap .u32 ((IntKind.wrap .u32 ((u147.getD (7 : Int).toNat 0) + (IntKind.wrap .u32 ((BitVec.ofInt 32 (IntKind.wrap .u32 ((BitVec.ofInt 32 y201 ^^^ BitVec.ofInt 32 y203).toNat : Int)) ^^^ BitVec.ofInt 32 y205).toNat : Int)))) + (IntKind.wrap .u32 ((BitVec.ofInt 32 (IntKind.wrap .u32 ((BitVec.ofInt 32 (u147.getD (4 : Int).toNat 0) &&& BitVec.ofInt 32 (u147.getD (5 : Int).toNat 0)).toNat : Int)) ^^^ BitVec.ofInt 32 (IntKind.wrap .u32 ((BitVec.ofInt 32 (IntKind.wrap .u32 ((BitVec.ofInt 32 4294967295 ^^^ BitVec.ofInt 32 (u147.getD (4 : Int).toNat 0)).toNat : Int)) &&& BitVec.ofInt 32 (u147.getD (6 : Int).toNat 0)).toNat : Int))).toNat : Int)))) + (l2.getD u151.toNat 0))) + (u53.getD u151.toNat 0))))))), (5, (.int .u32 (u147.getD (4 : Int).toNat 0))), (6, (.int .u32 (u147.getD (5 : Int).toNat 0))), (7, (.int .u32 (u147.getD (6 : Int).toNat 0)))]) rfl hk rfl rfl rfl (bd125_6 (IntKind.wrap .u32 ((IntKind.wrap .u32 ((IntKind.wrap .u32 ((IntKind.wrap .u32 ((IntKind.wrap .u32 ((u147.getD (7 : Int).toNat 0) + (IntKind.wrap .u32 ((BitVec.ofInt 32 (IntKind.wrap .u32 ((BitVec.ofInt 32 y201 ^^^ BitVec.ofInt 32 y203).toNat : Int)) ^^^ BitVec.ofInt 32 y205).toNat : Int)))) + (IntKind.wrap .u32 ((BitVec.ofInt 32 (IntKind.wrap .u32 ((BitVec.ofInt 32 (u147.getD (4 : Int).toNat 0) &&& BitVec.ofInt 32 (u147.getD (5 : Int).toNat 0)).toNat : Int)) ^^^ BitVec.ofInt 32 (IntKind.wrap .u32 ((BitVec.ofInt 32 (IntKind.wrap .u32 ((BitVec.ofInt 32 4294967295 ^^^ BitVec.ofInt 32 (u147.getD (4 : Int).toNat 0)).toNat : Int)) &&& BitVec.ofInt 32 (u147.getD (6 : Int).toNat 0)).toNat : Int))).toNat : Int)))) + (l2.getD u151.toNat 0))) + (u53.getD u151.toNat 0))) + (IntKind.wrap .u32 ((IntKind.wrap .u32 ((BitVec.ofInt 32 (IntKind.wrap .u32 ((BitVec.ofInt 32 y216 ^^^ BitVec.ofInt 32 y218).toNat : Int)) ^^^ BitVec.ofInt 32 y220).toNat : Int)) + (IntKind.wrap .u32 ((BitVec.ofInt 32 (IntKind.wrap .u32 ((BitVec.ofInt 32 (IntKind.wrap .u32 ((BitVec.ofInt 32 (u147.getD (0 : Int).toNat 0) &&& BitVec.ofInt 32 (u147.getD (1 : Int).toNat 0)).toNat : Int)) ^^^ BitVec.ofInt 32 (IntKind.wrap .u32 ((BitVec.ofInt 32 (u147.getD (0 : Int).toNat 0) &&& BitVec.ofInt 32 (u147.getD (2 : Int).toNat 0)).toNat : Int))).toNat : Int)) ^^^ BitVec.ofInt 32 (IntKind.wrap .u32 ((BitVec.ofInt 32 (u147.getD (1 : Int).toNat 0) &&& BitVec.ofInt 32 (u147.getD (2 : Int).toNat 0)).toNat : Int))).toNat : Int)))))) (u147.getD (0 : Int).toNat 0) (u147.getD (1 : Int).toNat 0) (u147.getD (2 : Int).toNat 0) (IntKind.wrap .u32 ((u147.getD (3 : Int).toNat 0) + (IntKind.wrap .u32 ((IntKind.wrap .u32 ((IntKind.wrap .u32 ((IntKind.wrap .u32 ((u147.getD (7 : Int).toNat 0) + (IntKind.wrap .u32 ((BitVec.ofInt 32 (IntKind.wrap .u32 ((BitVec.ofInt 32 y201 ^^^ BitVec.ofInt 32 y203).toNat : Int)) ^^^ BitVec.ofInt 32 y205).toNat : Int)))) + (IntKind.wrap .u32 ((BitVec.ofInt 32 (IntKind.wrap .u32 ((BitVec.ofInt 32 (u147.getD (4 : Int).toNat 0) &&& BitVec.ofInt 32 (u147.getD (5 : Int).toNat 0)).toNat : Int)) ^^^ BitVec.ofInt 32 (IntKind.wrap .u32 ((BitVec.ofInt 32 (IntKind.wrap .u32 ((BitVec.ofInt 32 4294967295 ^^^ BitVec.ofInt 32 (u147.getD (4 : Int).toNat 0)).toNat : Int)) &&& BitVec.ofInt 32 (u147.getD (6 : Int).toNat 0)).toNat : Int))).toNat : Int)))) + (l2.getD u151.toNat 0))) + (u53.getD u151.toNat 0))))) (u147.getD (4 : Int).toNat 0) (u147.getD (5 : Int).toNat 0) (u147.getD (6 : Int).toNat 0)) fun a hk => ?_
        have lh226 : ([(IntKind.wrap .u32 ((IntKind.wrap .u32 ((IntKind.wrap .u32 ((IntKind.wrap .u32 ((IntKind.wrap .u32 ((u147.getD (7 : Int).toNat 0) + (IntKind.wrap .u32 ((BitVec.ofInt 32 (IntKind.wrap .u32 ((BitVec.ofInt 32 y201 ^^^ BitVec.ofInt 32 y203).toNat : Int)) ^^^ BitVec.ofInt 32 y205).toNat : Int)))) + (IntKind.wrap .u32 ((BitVec.ofInt 32 (IntKind.wrap .u32 ((BitVec.ofInt 32 (u147.getD (4 : Int).toNat 0) &&& BitVec.ofInt 32 (u147.getD (5 : Int).toNat 0)).toNat : Int)) ^^^ BitVec.ofInt 32 (IntKind.wrap .u32 ((BitVec.ofInt 32 (IntKind.wrap .u32 ((BitVec.ofInt 32 4294967295 ^^^ BitVec.ofInt 32 (u147.getD (4 : Int).toNat 0)).toNat : Int)) &&& BitVec.ofInt 32 (u147.getD (6 : Int).toNat 0)).toNat : Int))).toNat : Int)))) + (l2.getD u151.toNat 0))) + (u53.getD u151.toNat 0))) + (IntKind.wrap .u32 ((IntKind.wrap .u32 ((BitVec.ofInt 32 (IntKind.wrap .u32 ((BitVec.ofInt 32 y216 ^^^ BitVec.ofInt 32 y218).toNat : Int)) ^^^ BitVec.ofInt 32 y220).toNat : Int)) + (IntKind.wrap .u32 ((BitVec.ofInt 32 (IntKind.wrap .u32 ((BitVec.ofInt 32 (IntKind.wrap .u32 ((BitVec.ofInt 32 (u147.getD (0 : Int).toNat 0) &&& BitVec.ofInt 32 (u147.getD (1 : Int).toNat 0)).toNat : Int)) ^^^ BitVec.ofInt 32 (IntKind.wrap .u32 ((BitVec.ofInt 32 (u147.getD (0 : Int).toNat 0) &&& BitVec.ofInt 32 (u147.getD (2 : Int).toNat 0)).toNat : Int))).toNat : Int)) ^^^ BitVec.ofInt 32 (IntKind.wrap .u32 ((BitVec.ofInt 32 (u147.getD (1 : Int).toNat 0) &&& BitVec.ofInt 32 (u147.getD (2 : Int).toNat 0)).toNat : Int))).toNat : Int)))))), (u147.getD (0 : Int).toNat 0), (u147.getD (1 : Int).toNat 0), (u147.getD (2 : Int).toNat 0), (IntKind.wrap .u32 ((u147.getD (3 : Int).toNat 0) + (IntKind.wrap .u32 ((IntKind.wrap .u32 ((IntKind.wrap .u32 ((IntKind.wrap .u32 ((u147.getD (7 : Int).toNat 0) + (IntKind.wrap .u32 ((BitVec.ofInt 32 (IntKind.wrap .u32 ((BitVec.ofInt 32 y201 ^^^ BitVec.ofInt 32 y203).toNat : Int)) ^^^ BitVec.ofInt 32 y205).toNat : Int)))) + (IntKind.wrap .u32 ((BitVec.ofInt 32 (IntKind.wrap .u32 ((BitVec.ofInt 32 (u147.getD (4 : Int).toNat 0) &&& BitVec.ofInt 32 (u147.getD (5 : Int).toNat 0)).toNat : Int)) ^^^ BitVec.ofInt 32 (IntKind.wrap .u32 ((BitVec.ofInt 32 (IntKind.wrap .u32 ((BitVec.ofInt 32 4294967295 ^^^ BitVec.ofInt 32 (u147.getD (4 : Int).toNat 0)).toNat : Int)) &&& BitVec.ofInt 32 (u147.getD (6 : Int).toNat 0)).toNat : Int))).toNat : Int)))) + (l2.getD u151.toNat 0))) + (u53.getD u151.toNat 0))))), (u147.getD (4 : Int).toNat 0), (u147.getD (5 : Int).toNat 0), (u147.getD (6 : Int).toNat 0)] : List Int).length = 8 := rfl
        refine sswa 9 ([(IntKind.wrap .u32 ((IntKind.wrap .u32 ((IntKind.wrap .u32 ((IntKind.wrap .u32 ((IntKind.wrap .u32 ((u147.getD (7 : Int).toNat 0) + (IntKind.wrap .u32 ((BitVec.ofInt 32 (IntKind.wrap .u32 ((BitVec.ofInt 32 y201 ^^^ BitVec.ofInt 32 y203).toNat : Int)) ^^^ BitVec.ofInt 32 y205).toNat : Int)))) + (IntKind.wrap .u32 ((BitVec.ofInt 32 (IntKind.wrap .u32 ((BitVec.ofInt 32 (u147.getD (4 : Int).toNat 0) &&& BitVec.ofInt 32 (u147.getD (5 : Int).toNat 0)).toNat : Int)) ^^^ BitVec.ofInt 32 (IntKind.wrap .u32 ((BitVec.ofInt 32 (IntKind.wrap .u32 ((BitVec.ofInt 32 4294967295 ^^^ BitVec.ofInt 32 (u147.getD (4 : Int).toNat 0)).toNat : Int)) &&& BitVec.ofInt 32 (u147.getD (6 : Int).toNat 0)).toNat : Int))).toNat : Int)))) + (l2.getD u151.toNat 0))) + (u53.getD u151.toNat 0))) + (IntKind.wrap .u32 ((IntKind.wrap .u32 ((BitVec.ofInt 32 (IntKind.wrap .u32 ((BitVec.ofInt 32 y216 ^^^ BitVec.ofInt 32 y218).toNat : Int)) ^^^ BitVec.ofInt 32 y220).toNat : Int)) + (IntKind.wrap .u32 ((BitVec.ofInt 32 (IntKind.wrap .u32 ((BitVec.ofInt 32 (IntKind.wrap .u32 ((BitVec.ofInt 32 (u147.getD (0 : Int).toNat 0) &&& BitVec.ofInt 32 (u147.getD (1 : Int).toNat 0)).toNat : Int)) ^^^ BitVec.ofInt 32 (IntKind.wrap .u32 ((BitVec.ofInt 32 (u147.getD (0 : Int).toNat 0) &&& BitVec.ofInt 32 (u147.getD (2 : Int).toNat 0)).toNat : Int))).toNat : Int)) ^^^ BitVec.ofInt 32 (IntKind.wrap .u32 ((BitVec.ofInt 32 (u147.getD (1 : Int).toNat 0) &&& BitVec.ofInt 32 (u147.getD (2 : Int).toNat 0)).toNat : Int))).toNat : Int)))))), (u147.getD (0 : Int).toNat 0), (u147.getD (1 : Int).toNat 0), (u147.getD (2 : Int).toNat 0), (IntKind.wrap .u32 ((u147.getD (3 : Int).toNat 0) + (IntKind.wrap .u32 ((IntKind.wrap .u32 ((IntKind.wrap .u32 ((IntKind.wrap .u32 ((u147.getD (7 : Int).toNat 0) + (IntKind.wrap .u32 ((BitVec.ofInt 32 (IntKind.wrap .u32 ((BitVec.ofInt 32 y201 ^^^ BitVec.ofInt 32 y203).toNat : Int)) ^^^ BitVec.ofInt 32 y205).toNat : Int)))) + (IntKind.wrap .u32 ((BitVec.ofInt 32 (IntKind.wrap .u32 ((BitVec.ofInt 32 (u147.getD (4 : Int).toNat 0) &&& BitVec.ofInt 32 (u147.getD (5 : Int).toNat 0)).toNat : Int)) ^^^ BitVec.ofInt 32 (IntKind.wrap .u32 ((BitVec.ofInt 32 (IntKind.wrap .u32 ((BitVec.ofInt 32 4294967295 ^^^ BitVec.ofInt 32 (u147.getD (4 : Int).toNat 0)).toNat : Int)) &&& BitVec.ofInt 32 (u147.getD (6 : Int).toNat 0)).toNat : Int))).toNat : Int)))) + (l2.getD u151.toNat 0))) + (u53.getD u151.toNat 0))))), (u147.getD (4 : Int).toNat 0), (u147.getD (5 : Int).toNat 0), (u147.getD (6 : Int).toNat 0)] : List Int) hs rfl o149 lh150 lh226 rfl rfl hk rfl rfl rfl rfl sz125 fun k227 w a hk o228 hs => ?_
        show wpList _ _ _ [] _ _
        refine wpList_nil ?_
        refine hK167 _ _ ?_
        have hs := hs.pick [(3, 3), (9, 9), (1, 1)] rfl
        apply wp_region_lit
        refine sv (.int .i64 (w64 (u151 + 1))) hk rfl rfl rfl fun a hk => ?_
        refine sm _ rfl hk rfl rfl rfl fun a hk => ?_
        show wpList _ _ _ [] _ _
        refine wpList_nil ?_
        obtain rfl := Option.some.inj H
        obtain ⟨m229, hmm229, h163⟩ := h163
        show ∃ n', n' < _ ∧ I160 n' _ _
        refine ⟨m229, hmm229, ?_⟩
        rw [hI160]
        exact ⟨([(IntKind.wrap .u32 ((IntKind.wrap .u32 ((IntKind.wrap .u32 ((IntKind.wrap .u32 ((IntKind.wrap .u32 ((u147.getD (7 : Int).toNat 0) + (IntKind.wrap .u32 ((BitVec.ofInt 32 (IntKind.wrap .u32 ((BitVec.ofInt 32 y201 ^^^ BitVec.ofInt 32 y203).toNat : Int)) ^^^ BitVec.ofInt 32 y205).toNat : Int)))) + (IntKind.wrap .u32 ((BitVec.ofInt 32 (IntKind.wrap .u32 ((BitVec.ofInt 32 (u147.getD (4 : Int).toNat 0) &&& BitVec.ofInt 32 (u147.getD (5 : Int).toNat 0)).toNat : Int)) ^^^ BitVec.ofInt 32 (IntKind.wrap .u32 ((BitVec.ofInt 32 (IntKind.wrap .u32 ((BitVec.ofInt 32 4294967295 ^^^ BitVec.ofInt 32 (u147.getD (4 : Int).toNat 0)).toNat : Int)) &&& BitVec.ofInt 32 (u147.getD (6 : Int).toNat 0)).toNat : Int))).toNat : Int)))) + (l2.getD u151.toNat 0))) + (u53.getD u151.toNat 0))) + (IntKind.wrap .u32 ((IntKind.wrap .u32 ((BitVec.ofInt 32 (IntKind.wrap .u32 ((BitVec.ofInt 32 y216 ^^^ BitVec.ofInt 32 y218).toNat : Int)) ^^^ BitVec.ofInt 32 y220).toNat : Int)) + (IntKind.wrap .u32 ((BitVec.ofInt 32 (IntKind.wrap .u32 ((BitVec.ofInt 32 (IntKind.wrap .u32 ((BitVec.ofInt 32 (u147.getD (0 : Int).toNat 0) &&& BitVec.ofInt 32 (u147.getD (1 : Int).toNat 0)).toNat : Int)) ^^^ BitVec.ofInt 32 (IntKind.wrap .u32 ((BitVec.ofInt 32 (u147.getD (0 : Int).toNat 0) &&& BitVec.ofInt 32 (u147.getD (2 : Int).toNat 0)).toNat : Int))).toNat : Int)) ^^^ BitVec.ofInt 32 (IntKind.wrap .u32 ((BitVec.ofInt 32 (u147.getD (1 : Int).toNat 0) &&& BitVec.ofInt 32 (u147.getD (2 : Int).toNat 0)).toNat : Int))).toNat : Int)))))), (u147.getD (0 : Int).toNat 0), (u147.getD (1 : Int).toNat 0), (u147.getD (2 : Int).toNat 0), (IntKind.wrap .u32 ((u147.getD (3 : Int).toNat 0) + (IntKind.wrap .u32 ((IntKind.wrap .u32 ((IntKind.wrap .u32 ((IntKind.wrap .u32 ((u147.getD (7 : Int).toNat 0) + (IntKind.wrap .u32 ((BitVec.ofInt 32 (IntKind.wrap .u32 ((BitVec.ofInt 32 y201 ^^^ BitVec.ofInt 32 y203).toNat : Int)) ^^^ BitVec.ofInt 32 y205).toNat : Int)))) + (IntKind.wrap .u32 ((BitVec.ofInt 32 (IntKind.wrap .u32 ((BitVec.ofInt 32 (u147.getD (4 : Int).toNat 0) &&& BitVec.ofInt 32 (u147.getD (5 : Int).toNat 0)).toNat : Int)) ^^^ BitVec.ofInt 32 (IntKind.wrap .u32 ((BitVec.ofInt 32 (IntKind.wrap .u32 ((BitVec.ofInt 32 4294967295 ^^^ BitVec.ofInt 32 (u147.getD (4 : Int).toNat 0)).toNat : Int)) &&& BitVec.ofInt 32 (u147.getD (6 : Int).toNat 0)).toNat : Int))).toNat : Int)))) + (l2.getD u151.toNat 0))) + (u53.getD u151.toNat 0))))), (u147.getD (4 : Int).toNat 0), (u147.getD (5 : Int).toNat 0), (u147.getD (6 : Int).toNat 0)] : List Int), (w64 (u151 + 1)), _, h163, (hk.c 0 rfl (hk.c 2 rfl (hk.c 6 rfl (hk.c 11 rfl (hk.c 114 rfl hk.k))))), (hs.pick [(3, 3), (9, 9), (1, 1)] rfl), o228, lh226⟩
       ·have hk := hk.lit 115 c166 rfl
        refine cnd_false hk rfl rfl ?_
        refine wp_exit ?_
        obtain rfl := Option.some.inj H
        show R159 _ _
        rw [hR159]
        exact ⟨u147, _, h163.symm, (hk.c 0 rfl (hk.c 11 rfl hk.k)), (hs.pick [(9, 9), (1, 1)] rfl), o149, lh150⟩
     ·intro a w hR0
      rw [hR159] at hR0
      obtain ⟨u152, k153, rfl, hk, hs, o154, lh155⟩ := hR0
      have H := HL158
      try dsimp only at H
      refine hK143 _ _ ?_
      apply wp_seq_k; intro K230 hK230
      apply wp_region_lit
      refine slna (k := 9) hs rfl o154 lh155 rfl hk rfl rfl rfl ag125 sz125 fun a hk => ?_
      refine sm _ rfl hk rfl rfl rfl fun a hk => ?_
      show wpList _ _ _ [] _ _
      refine wpList_nil ?_
      refine hK230 _ _ ?_
      obtain ⟨o250, h251, HL252⟩ := bind_some H
      clear H
      obtain ⟨R253, hR253⟩ : ∃ R : Act → World → Prop, R = fun a w => ∃ (u242 : Int) (u243 : Int) (u244 : Int) (u245 : Int) (u246 : Int) (u247 : Int) (u248 : Int) (u249 : Int), o250 = .out (u242, u243, u244, u245, u246, u247, u248, u249) ∧ Kn [(0, (.pointer (some ⟨b0_, 0, none⟩)))] 215 a ∧ Sat (blks [(1, [(b0_, .cells #[.int .i64 x0.H0, .int .i64 x0.H1, .int .i64 x0.H2, .int .i64 x0.H3, .int .i64 x0.H4, .int .i64 x0.H5, .int .i64 x0.H6, .int .i64 x0.H7, .string x0.Buf, .int .i64 x0.N] 29 (0, 0))])]) w0 w [(2, k2_)] [(1, [(b0_, .cells #[.int .i64 u242, .int .i64 u243, .int .i64 u244, .int .i64 u245, .int .i64 u246, .int .i64 u247, .int .i64 u248, .int .i64 u249, .string x0.Buf, .int .i64 x0.N] 29 (0, 0))])] := ⟨_, rfl⟩
      refine wp_cutq R253 ?_ ?_
      ·refine wp_block ?_
       obtain ⟨fu255, h251⟩ := loopO_some h251
       obtain ⟨I254, hI254⟩ : ∃ I : Nat → Act → World → Prop, I = fun fu a w => ∃ (u233 : Int) (u234 : Int) (u235 : Int) (u236 : Int) (u237 : Int) (u238 : Int) (u239 : Int) (u240 : Int) (u241 : Int), loopN (fun s => impl_Hash_block.s4 u152 s.1 s.2.1 s.2.2.1 s.2.2.2.1 s.2.2.2.2.1 s.2.2.2.2.2.1 s.2.2.2.2.2.2.1 s.2.2.2.2.2.2.2.1 s.2.2.2.2.2.2.2.2) fu (u233, u234, u235, u236, u237, u238, u239, u240, u241) = some o250 ∧ Kn [(0, (.pointer (some ⟨b0_, 0, none⟩))), (194, (aggI .u32 u152)), (195, (.int .i64 u233))] 215 a ∧ Sat (blks [(1, [(b0_, .cells #[.int .i64 x0.H0, .int .i64 x0.H1, .int .i64 x0.H2, .int .i64 x0.H3, .int .i64 x0.H4, .int .i64 x0.H5, .int .i64 x0.H6, .int .i64 x0.H7, .string x0.Buf, .int .i64 x0.N] 29 (0, 0))])]) w0 w [(2, k2_)] [(1, [(b0_, .cells #[.int .i64 u234, .int .i64 u235, .int .i64 u236, .int .i64 u237, .int .i64 u238, .int .i64 u239, .int .i64 u240, .int .i64 u241, .string x0.Buf, .int .i64 x0.N] 29 (0, 0))])] := ⟨_, rfl⟩
       refine wp_loop_ghost I254 fu255 ?_ ?_
       ·rw [hI254]
        exact ⟨0, x0.H0, x0.H1, x0.H2, x0.H3, x0.H4, x0.H5, x0.H6, x0.H7, h251, (hk.c 0 rfl (hk.c 194 rfl (hk.c 195 rfl hk.k))), (hs.pick [(1, 1)] rfl)⟩
       ·clear h251 hk hs
        intro fu255 a w hI0
        rw [hI254] at hI0
        obtain ⟨u233, u234, u235, u236, u237, u238, u239, u240, u241, hi, hk, hs⟩ := hI0
        obtain ⟨x256, H, h257⟩ := loop_round hi
        try dsimp only at H
        unfold impl_Hash_block.s4 at H
        apply wp_seq_k; intro K258 hK258
        apply wp_region_lit
        refine sv (.bool (decide (u233 < 8))) hk rfl rfl rfl fun a hk => ?_
        show wpList _ _ _ [] _ _
        refine wpList_nil ?_
        refine hK258 _ _ ?_
        have hs := hs.pick [(1, 1)] rfl
        apply wp_seq_k; intro K259 hK259
        rcases cond_some H with ⟨c260, H⟩ | ⟨c260, H⟩
        ·have hk := hk.lit 196 c260 rfl
         refine cnd_true hk rfl rfl ?_
         refine wp_skip ?_
         refine hK259 _ _ ?_
         apply wp_seq_k; intro K261 hK261
         refine wp_block ?_
         apply wp_seq_k; intro K262 hK262
         apply wp_region_lit
         refine sm _ rfl hk rfl rfl rfl fun a hk => ?_
         rcases ite_some H with ⟨c263, H⟩ | ⟨_, H⟩
         rotate_left
         ·cases H
         refine sixa rfl hk rfl rfl rfl rfl un125 sz67 ag67 lh155 c263.1 c263.2 fun a hk => ?_
         refine sa _ rfl hk rfl rfl rfl fun a hk => ?_
         refine sa _ rfl hk rfl rfl rfl fun a hk => ?_
         show wpList _ _ _ [] _ _
         refine wpList_nil ?_
         refine hK262 _ _ ?_
         refine wp_region_tree (.q 0 (.q 1 (.q 2 (.q 3 (.q 4 (.q 5 (.q 6 (.q 9 (.q 12 (.q 13 (.alt 7 (.alt 8 (.alt 10 (.alt 11 (.alt 14 (.alt 15 .done .stop) .stop) .stop) .stop) .stop) .stop))))))))))) mo (by kernel_rfl) (hs.pick [] rfl) fun _ => ?_
         have hs := hs.drew
         refine tqst (.pointer (some ⟨b0_, 0, none⟩)) hk rfl rfl rfl rfl (fun w hs => sm _ rfl hk rfl rfl rfl fun a hk => qe hk) fun a hk => ?_
         refine tqst (.int .i64 u233) hk rfl rfl rfl rfl (fun w hs => sm _ rfl hk rfl rfl rfl fun a hk => qe hk) fun a hk => ?_
         refine tqst (.pointer (some ⟨b0_, 0, none⟩)) hk rfl rfl rfl rfl (fun w hs => sm _ rfl hk rfl rfl rfl fun a hk => qe hk) fun a hk => ?_
         refine tqst (.int .i64 u233) hk rfl rfl rfl rfl (fun w hs => sm _ rfl hk rfl rfl rfl fun a hk => qe hk) fun a hk => ?_
         refine tqst (.pointer (some ⟨b0_, 0, none⟩)) hk rfl rfl rfl rfl (fun w hs => snk rfl hk rfl rfl rfl fun a hk => qe hk) fun a hk => ?_
         refine tqst (.pointer (some ⟨b0_, 0, none⟩)) hk rfl rfl rfl rfl (fun w hs => sf ⟨b0_, 0, none⟩ rfl hk rfl rfl rfl fd29_0 rfl fun a hk => qe hk) fun a hk => ?_
         rcases ite_some H with ⟨c265, H⟩ | ⟨_, H⟩
         rotate_left
         ·cases H
         refine tqst (.pointer (some (padd (some ⟨b0_, 0, none⟩) (u233.toNat * 1)))) hk rfl rfl rfl rfl (fun w hs => sia rfl hk rfl rfl rfl rfl un27 sz3 c265.1 c265.2 rfl fun a hk => qe hk) fun a hk => ?_
         refine tqst (.int .u32 (u152.getD u233.toNat 0)) hk rfl rfl rfl rfl (fun w hs => sm _ rfl hk rfl rfl rfl fun a hk => qe hk) fun a hk => ?_
         refine tqst (.pointer (some ⟨b0_, 0, none⟩)) hk rfl rfl rfl rfl (fun w hs => snk rfl hk rfl rfl rfl fun a hk => qe hk) fun a hk => ?_
         refine tqst (.pointer (some ⟨b0_, 0, none⟩)) hk rfl rfl rfl rfl (fun w hs => sf ⟨b0_, 0, none⟩ rfl hk rfl rfl rfl fd29_0 rfl fun a hk => qe hk) fun a hk => ?_
         refine tsst hk rfl rfl (fun K_r264_7 hK_r264_7 w hF => ?_) wt_stop
         have hs := hs.f hF
         refine slBE (k := 1) (ik := .i64) (vs := [.int .i64 u234, .int .i64 u235, .int .i64 u236, .int .i64 u237, .int .i64 u238, .int .i64 u239, .int .i64 u240, .int .i64 u241, .string x0.Buf, .int .i64 x0.N]) ([u234, u235, u236, u237, u238, u239, u240, u241] : List Int) hs rfl rfl rfl rfl hk rfl rfl rfl ag3 c265.1 c265.2 fun a hk => ?_
         refine se (hs.pick [] rfl) hk (hK_r264_7 _ _ ?_)
         refine tsst hk rfl rfl (fun K_r264_8 hK_r264_8 w hF => ?_) wt_stop
         have hs := hs.f hF
         refine scn rfl hk rfl rfl rfl un67 un3 fun a hk => ?_
         refine se (hs.pick [] rfl) hk (hK_r264_8 _ _ ?_)
         refine tsst hk rfl rfl (fun K_r264_10 hK_r264_10 w hF => ?_) wt_stop
         have hs := hs.f hF
         refine sv (.int .u32 (IntKind.wrap .u32 ((IntKind.wrap .u32 (([u234, u235, u236, u237, u238, u239, u240, u241] : List Int).getD u233.toNat 0)) + (u152.getD u233.toNat 0)))) hk rfl rfl rfl fun a hk => ?_
         refine se (hs.pick [] rfl) hk (hK_r264_10 _ _ ?_)
         refine tsst hk rfl rfl (fun K_r264_11 hK_r264_11 w hF => ?_) wt_stop
         have hs := hs.f hF
         refine scn rfl hk rfl rfl rfl un3 un67 fun a hk => ?_
         refine se (hs.pick [] rfl) hk (hK_r264_11 _ _ ?_)
         refine tsst hk rfl rfl (fun K_r264_14 hK_r264_14 w hF => ?_) wt_stop
         have hs := hs.f hF
         rcases ite_some H with ⟨c266, H⟩ | ⟨_, H⟩
         rotate_left
         ·cases H
         refine sia rfl hk rfl rfl rfl rfl un27 sz3 c266.1 c266.2 rfl fun a hk => ?_
         refine se (hs.pick [] rfl) hk (hK_r264_14 _ _ ?_)
         refine tsst hk rfl rfl (fun K_r264_15 hK_r264_15 w hF => ?_) wt_stop
         have hs := hs.f hF
         refine ssBE (vs := [.int .i64 u234, .int .i64 u235, .int .i64 u236, .int .i64 u237, .int .i64 u238, .int .i64 u239, .int .i64 u240, .int .i64 u241, .string x0.Buf, .int .i64 x0.N]) (vs' := [.int .i64 ((([u234, u235, u236, u237, u238, u239, u240, u241] : List Int).set u233.toNat (IntKind.wrap .i64 (IntKind.wrap .u32 ((IntKind.wrap .u32 (([u234, u235, u236, u237, u238, u239, u240, u241] : List Int).getD u233.toNat 0)) + (u152.getD u233.toNat 0))))).getD 0 0), .int .i64 ((([u234, u235, u236, u237, u238, u239, u240, u241] : List Int).set u233.toNat (IntKind.wrap .i64 (IntKind.wrap .u32 ((IntKind.wrap .u32 (([u234, u235, u236, u237, u238, u239, u240, u241] : List Int).getD u233.toNat 0)) + (u152.getD u233.toNat 0))))).getD 1 0), .int .i64 ((([u234, u235, u236, u237, u238, u239, u240, u241] : List Int).set u233.toNat (IntKind.wrap .i64 (IntKind.wrap .u32 ((IntKind.wrap .u32 (([u234, u235, u236, u237, u238, u239, u240, u241] : List Int).getD u233.toNat 0)) + (u152.getD u233.toNat 0))))).getD 2 0), .int .i64 ((([u234, u235, u236, u237, u238, u239, u240, u241] : List Int).set u233.toNat (IntKind.wrap .i64 (IntKind.wrap .u32 ((IntKind.wrap .u32 (([u234, u235, u236, u237, u238, u239, u240, u241] : List Int).getD u233.toNat 0)) + (u152.getD u233.toNat 0))))).getD 3 0), .int .i64 ((([u234, u235, u236, u237, u238, u239, u240, u241] : List Int).set u233.toNat (IntKind.wrap .i64 (IntKind.wrap .u32 ((IntKind.wrap .u32 (([u234, u235, u236, u237, u238, u239, u240, u241] : List Int).getD u233.toNat 0)) + (u152.getD u233.toNat 0))))).getD 4 0), .int .i64 ((([u234, u235, u236, u237, u238, u239, u240, u241] : List Int).set u233.toNat (IntKind.wrap .i64 (IntKind.wrap .u32 ((IntKind.wrap .u32 (([u234, u235, u236, u237, u238, u239, u240, u241] : List Int).getD u233.toNat 0)) + (u152.getD u233.toNat 0))))).getD 5 0), .int .i64 ((([u234, u235, u236, u237, u238, u239, u240, u241] : List Int).set u233.toNat (IntKind.wrap .i64 (IntKind.wrap .u32 ((IntKind.wrap .u32 (([u234, u235, u236, u237, u238, u239, u240, u241] : List Int).getD u233.toNat 0)) + (u152.getD u233.toNat 0))))).getD 6 0), .int .i64 ((([u234, u235, u236, u237, u238, u239, u240, u241] : List Int).set u233.toNat (IntKind.wrap .i64 (IntKind.wrap .u32 ((IntKind.wrap .u32 (([u234, u235, u236, u237, u238, u239, u240, u241] : List Int).getD u233.toNat 0)) + (u152.getD u233.toNat 0))))).getD 7 0), .string x0.Buf, .int .i64 x0.N]) 1 (ik := .i64) ([u234, u235, u236, u237, u238, u239, u240, u241] : List Int) hs rfl rfl rfl rfl hk rfl rfl rfl rfl sz3 c266.1 c266.2 rfl rfl fun w a hk hs => ?_
         refine se (hs.pick [] rfl) hk (hK_r264_15 _ _ ?_)
         refine wtl_nil fun w hF _ => ?_
         have hs := hs.f hF
         refine hK261 _ _ ?_
         apply wp_region_lit
         refine sv (.int .i64 (w64 (u233 + 1))) hk rfl rfl rfl fun a hk => ?_
         refine sm _ rfl hk rfl rfl rfl fun a hk => ?_
         show wpList _ _ _ [] _ _
         refine wpList_nil ?_
         obtain rfl := Option.some.inj H
         obtain ⟨m267, hmm267, h257⟩ := h257
         show ∃ n', n' < _ ∧ I254 n' _ _
         refine ⟨m267, hmm267, ?_⟩
         rw [hI254]
         exact ⟨(w64 (u233 + 1)), ((([u234, u235, u236, u237, u238, u239, u240, u241] : List Int).set u233.toNat (IntKind.wrap .i64 (IntKind.wrap .u32 ((IntKind.wrap .u32 (([u234, u235, u236, u237, u238, u239, u240, u241] : List Int).getD u233.toNat 0)) + (u152.getD u233.toNat 0))))).getD 0 0), ((([u234, u235, u236, u237, u238, u239, u240, u241] : List Int).set u233.toNat (IntKind.wrap .i64 (IntKind.wrap .u32 ((IntKind.wrap .u32 (([u234, u235, u236, u237, u238, u239, u240, u241] : List Int).getD u233.toNat 0)) + (u152.getD u233.toNat 0))))).getD 1 0), ((([u234, u235, u236, u237, u238, u239, u240, u241] : List Int).set u233.toNat (IntKind.wrap .i64 (IntKind.wrap .u32 ((IntKind.wrap .u32 (([u234, u235, u236, u237, u238, u239, u240, u241] : List Int).getD u233.toNat 0)) + (u152.getD u233.toNat 0))))).getD 2 0), ((([u234, u235, u236, u237, u238, u239, u240, u241] : List Int).set u233.toNat (IntKind.wrap .i64 (IntKind.wrap .u32 ((IntKind.wrap .u32 (([u234, u235, u236, u237, u238, u239, u240, u241] : List Int).getD u233.toNat 0)) + (u152.getD u233.toNat 0))))).getD 3 0), ((([u234, u235, u236, u237, u238, u239, u240, u241] : List Int).set u233.toNat (IntKind.wrap .i64 (IntKind.wrap .u32 ((IntKind.wrap .u32 (([u234, u235, u236, u237, u238, u239, u240, u241] : List Int).getD u233.toNat 0)) + (u152.getD u233.toNat 0))))).getD 4 0), ((([u234, u235, u236, u237, u238, u239, u240, u241] : List Int).set u233.toNat (IntKind.wrap .i64 (IntKind.wrap .u32 ((IntKind.wrap .u32 (([u234, u235, u236, u237, u238, u239, u240, u241] : List Int).getD u233.toNat 0)) + (u152.getD u233.toNat 0))))).getD 5 0), ((([u234, u235, u236, u237, u238, u239, u240, u241] : List Int).set u233.toNat (IntKind.wrap .i64 (IntKind.wrap .u32 ((IntKind.wrap .u32 (([u234, u235, u236, u237, u238, u239, u240, u241] : List Int).getD u233.toNat 0)) + (u152.getD u233.toNat 0))))).getD 6 0), ((([u234, u235, u236, u237, u238, u239, u240, u241] : List Int).set u233.toNat (IntKind.wrap .i64 (IntKind.wrap .u32 ((IntKind.wrap .u32 (([u234, u235, u236, u237, u238, u239, u240, u241] : List Int).getD u233.toNat 0)) + (u152.getD u233.toNat 0))))).getD 7 0), h257, (hk.c 0 rfl (hk.c 194 rfl (hk.c 195 rfl hk.k))), (hs.pick [(1, 1)] rfl)⟩
        ·have hk := hk.lit 196 c260 rfl
         refine cnd_false hk rfl rfl ?_
         refine wp_exit ?_
         obtain rfl := Option.some.inj H
         show R253 _ _
         rw [hR253]
         exact ⟨u234, u235, u236, u237, u238, u239, u240, u241, h257.symm, (hk.c 0 rfl hk.k), (hs.pick [(1, 1)] rfl)⟩
      ·intro a w hR0
       rw [hR253] at hR0
       obtain ⟨u242, u243, u244, u245, u246, u247, u248, u249, rfl, hk, hs⟩ := hR0
       have H := HL252
       try dsimp only at H
       obtain rfl := Option.some.inj H
       exact fin0 hk _ [] rfl trivial ⟨rfl, (hs.pick [(0, 1)] rfl).dnil⟩

noncomputable def impl_Hash_more.s0 (y5 : (List Int)) (u20 : ByteArray) (u21 : Int) (u22 : Int) (u23 : Int) (u24 : Int) (u25 : Int) (u26 : Int) (u27 : Int) (u28 : Int) (u29 : ByteArray) (u30 : Int) : Option ((ByteArray × Int × Int × Int × Int × Int × Int × Int × Int × ByteArray × Int) ⊕ Ex (ByteArray × Int × Int × Int × Int × Int × Int × Int × Int × ByteArray × Int) (S_Hash)) :=
  (bif (decide ((u20.size : Int) ≥ 64)) then (if 0 ≤ (64 : Int) ∧ (64 : Int) ≤ (u20.size : Int) then ((impl_Hash_block.f (⟨u21, u22, u23, u24, u25, u26, u27, u28, u29, u30⟩ : S_Hash) (u20.extract 0 (64 : Int).toNat) y5).bind fun y55 => (if 0 ≤ (64 : Int) ∧ (64 : Int) ≤ (u20.size : Int) then (some (.inl ((u20.extract (64 : Int).toNat u20.size), y55.1, y55.2.1, y55.2.2.1, y55.2.2.2.1, y55.2.2.2.2.1, y55.2.2.2.2.2.1, y55.2.2.2.2.2.2.1, y55.2.2.2.2.2.2.2.1, y55.2.2.2.2.2.2.2.2.1, y55.2.2.2.2.2.2.2.2.2))) else none)) else none) else (some (.inr (.out (u20, u21, u22, u23, u24, u25, u26, u27, u28, u29, u30)))))
noncomputable def impl_Hash_more.f (x0 : S_Hash) (x1 : ByteArray) : Option (S_Hash) :=
  ((impl_constants.f).bind fun y5 => (if x0.Buf.size + x1.size ≤ 1152921504606846976 then ((loopO (fun s => impl_Hash_more.s0 y5 s.1 s.2.1 s.2.2.1 s.2.2.2.1 s.2.2.2.2.1 s.2.2.2.2.2.1 s.2.2.2.2.2.2.1 s.2.2.2.2.2.2.2.1 s.2.2.2.2.2.2.2.2.1 s.2.2.2.2.2.2.2.2.2.1 s.2.2.2.2.2.2.2.2.2.2) ((x0.Buf ++ x1), x0.H0, x0.H1, x0.H2, x0.H3, x0.H4, x0.H5, x0.H6, x0.H7, x0.Buf, (w64 (x0.N + (x1.size : Int))))).bind fun o => match o with | .out (u31, u32, u33, u34, u35, u36, u37, u38, u39, u40, u41) => (some (⟨u32, u33, u34, u35, u36, u37, u38, u39, u31, u41⟩ : S_Hash)) | .ret r => (some r)) else none))
set_option maxRecDepth 100000 in
set_option maxHeartbeats 0 in
theorem impl_Hash_more_t (w0 : World) (x0 : S_Hash) (x1 : ByteArray) (r : S_Hash) (H : impl_Hash_more.f x0 x1 = some r) :
    Calls Try.prog 48 #[.agg #[.int .i64 x0.H0, .int .i64 x0.H1, .int .i64 x0.H2, .int .i64 x0.H3, .int .i64 x0.H4, .int .i64 x0.H5, .int .i64 x0.H6, .int .i64 x0.H7, .string x0.Buf, .int .i64 x0.N], .string x1] w0 (Ret (fun v w => v = .agg #[.int .i64 r.H0, .int .i64 r.H1, .int .i64 r.H2, .int .i64 r.H3, .int .i64 r.H4, .int .i64 r.H5, .int .i64 r.H6, .int .i64 r.H7, .string r.Buf, .int .i64 r.N] ∧ Sat [] w0 w [] [])) := by
  have hs : Sat [] w0 w0 [] [] := Sat.init w0 [] [] (by simp) (by simp) List.nodup_nil (by simp [blks])
  unfold impl_Hash_more.f at H
  refine enter Try.func48 rfl Try.ntmps48 rfl fun a hk => ?_
  apply wp_seq_k; intro K1 hK1
  apply wp_region_lit
  refine sbx 1 hs rfl hk rfl rfl rfl rfl fun b2 w a hk hs => ?_
  refine salx 2 hs rfl hk rfl rfl ze29 rfl fun b3 w a hk hs => ?_
  show wpList _ _ _ [] _ _
  refine wpList_nil ?_
  refine hK1 _ _ ?_
  apply wp_seq_k; intro K4 hK4
  apply wp_region_lit
  obtain ⟨y5, h6, H⟩ := bind_some H
  refine sc rfl en92 hk rfl rfl rfl (impl_constants_t _ _ h6) ?_
  rintro _ w ⟨rfl, lh7, hG⟩ a hk
  have hs := hs.call0 hG
  refine sala 3 ((Lay.int .u32)) (m := 64) (z := 0) (zc := [.int .u32 0]) hs rfl hk rfl rfl ze91 (by exact ⟨rfl, rfl⟩) rfl rfl rfl fun b8 k9 w a hk o10 hs => ?_
  have lh11 : (List.replicate 64 (0 : Int)).length = 64 := List.length_replicate
  refine sswa 3 y5 hs rfl o10 lh11 lh7 rfl rfl hk rfl rfl rfl rfl sz91 fun k12 w a hk o13 hs => ?_
  show wpList _ _ _ [] _ _
  refine wpList_nil ?_
  refine hK4 _ _ ?_
  apply wp_seq_k; intro K14 hK14
  apply wp_region_lit
  refine sf ⟨b2, 9, none⟩ rfl hk rfl rfl rfl fd29_2 rfl fun a hk => ?_
  refine sl rfl hk rfl rfl rfl ag3 (box_cell hs (k := 1) rfl rfl) fun a hk => ?_
  refine sm _ rfl hk rfl rfl rfl fun a hk => ?_
  refine sles rfl hk rfl rfl rfl un9 fun a hk => ?_
  refine sv (.int .i64 (w64 (x0.N + (x1.size : Int)))) hk rfl rfl rfl fun a hk => ?_
  refine sf ⟨b2, 9, none⟩ rfl hk rfl rfl rfl fd29_2 rfl fun a hk => ?_
  refine ssx (cs' := #[.int .i64 x0.H0, .int .i64 x0.H1, .int .i64 x0.H2, .int .i64 x0.H3, .int .i64 x0.H4, .int .i64 x0.H5, .int .i64 x0.H6, .int .i64 x0.H7, .string x0.Buf, .int .i64 (w64 (x0.N + (x1.size : Int)))]) 1 hs rfl rfl hk rfl rfl rfl rfl sz3 rfl rfl rfl rfl fun w a hk hs => ?_
  show wpList _ _ _ [] _ _
  refine wpList_nil ?_
  refine hK14 _ _ ?_
  apply wp_seq_k; intro K15 hK15
  apply wp_region_lit
  refine sf ⟨b2, 8, none⟩ rfl hk rfl rfl rfl fd29_1 rfl fun a hk => ?_
  refine sl rfl hk rfl rfl rfl ag9 (box_cell hs (k := 1) rfl rfl) fun a hk => ?_
  refine sm _ rfl hk rfl rfl rfl fun a hk => ?_
  rcases ite_some H with ⟨c16, H⟩ | ⟨_, H⟩
  rotate_left
  ·cases H
  refine ssa rfl hk rfl rfl rfl rfl c16 fun a hk => ?_
  refine sa _ rfl hk rfl rfl rfl fun a hk => ?_
  show wpList _ _ _ [] _ _
  refine wpList_nil ?_
  refine hK15 _ _ ?_
  have hs := hs.pick [(3, 3), (1, 1), (2, 2)] rfl
  apply wp_seq_k; intro K17 hK17
  obtain ⟨o42, h43, HL44⟩ := bind_some H
  clear H
  obtain ⟨R45, hR45⟩ : ∃ R : Act → World → Prop, R = fun a w => ∃ (u31 : ByteArray) (u32 : Int) (u33 : Int) (u34 : Int) (u35 : Int) (u36 : Int) (u37 : Int) (u38 : Int) (u39 : Int) (u40 : ByteArray) (u41 : Int), o42 = .out (u31, u32, u33, u34, u35, u36, u37, u38, u39, u40, u41) ∧ Kn [(1, (.string u31)), (2, (.pointer (some ⟨b2, 0, none⟩))), (4, (.pointer (some ⟨b3, 0, none⟩)))] 28 a ∧ Sat [] w0 w [] [(1, [(b2, .cells #[.int .i64 u32, .int .i64 u33, .int .i64 u34, .int .i64 u35, .int .i64 u36, .int .i64 u37, .int .i64 u38, .int .i64 u39, .string u40, .int .i64 u41] 29 (0, 0))]), (2, [(b3, .cells #[.int .i64 0, .int .i64 0, .int .i64 0, .int .i64 0, .int .i64 0, .int .i64 0, .int .i64 0, .int .i64 0, .string ByteArray.empty, .int .i64 0] 29 (0, 0))])] := ⟨_, rfl⟩
  refine wp_cutq R45 ?_ ?_
  ·refine wp_block ?_
   obtain ⟨fu47, h43⟩ := loopO_some h43
   obtain ⟨I46, hI46⟩ : ∃ I : Nat → Act → World → Prop, I = fun fu a w => ∃ (u20 : ByteArray) (u21 : Int) (u22 : Int) (u23 : Int) (u24 : Int) (u25 : Int) (u26 : Int) (u27 : Int) (u28 : Int) (u29 : ByteArray) (u30 : Int), loopN (fun s => impl_Hash_more.s0 y5 s.1 s.2.1 s.2.2.1 s.2.2.2.1 s.2.2.2.2.1 s.2.2.2.2.2.1 s.2.2.2.2.2.2.1 s.2.2.2.2.2.2.2.1 s.2.2.2.2.2.2.2.2.1 s.2.2.2.2.2.2.2.2.2.1 s.2.2.2.2.2.2.2.2.2.2) fu (u20, u21, u22, u23, u24, u25, u26, u27, u28, u29, u30) = some o42 ∧ Kn [(1, (.string u20)), (2, (.pointer (some ⟨b2, 0, none⟩))), (4, (.pointer (some ⟨b3, 0, none⟩))), (5, (.pointer (some ⟨b8, 0, none⟩)))] 28 a ∧ Sat [] w0 w [] [(3, k12), (1, [(b2, .cells #[.int .i64 u21, .int .i64 u22, .int .i64 u23, .int .i64 u24, .int .i64 u25, .int .i64 u26, .int .i64 u27, .int .i64 u28, .string u29, .int .i64 u30] 29 (0, 0))]), (2, [(b3, .cells #[.int .i64 0, .int .i64 0, .int .i64 0, .int .i64 0, .int .i64 0, .int .i64 0, .int .i64 0, .int .i64 0, .string ByteArray.empty, .int .i64 0] 29 (0, 0))])] := ⟨_, rfl⟩
   refine wp_loop_ghost I46 fu47 ?_ ?_
   ·rw [hI46]
    exact ⟨(x0.Buf ++ x1), x0.H0, x0.H1, x0.H2, x0.H3, x0.H4, x0.H5, x0.H6, x0.H7, x0.Buf, (w64 (x0.N + (x1.size : Int))), h43, (hk.c 1 rfl (hk.c 2 rfl (hk.c 4 rfl (hk.c 5 rfl hk.k)))), (hs.pick [(3, 3), (1, 1), (2, 2)] rfl)⟩
   ·clear h43 hk hs
    intro fu47 a w hI0
    rw [hI46] at hI0
    obtain ⟨u20, u21, u22, u23, u24, u25, u26, u27, u28, u29, u30, hi, hk, hs⟩ := hI0
    obtain ⟨x48, H, h49⟩ := loop_round hi
    try dsimp only at H
    unfold impl_Hash_more.s0 at H
    apply wp_seq_k; intro K50 hK50
    apply wp_seq_k; intro K51 hK51
    apply wp_region_lit
    refine sm _ rfl hk rfl rfl rfl fun a hk => ?_
    refine sles rfl hk rfl rfl rfl un9 fun a hk => ?_
    refine sv (.bool (decide ((u20.size : Int) ≥ 64))) hk rfl rfl rfl fun a hk => ?_
    show wpList _ _ _ [] _ _
    refine wpList_nil ?_
    refine hK51 _ _ ?_
    rcases cond_some H with ⟨c52, H⟩ | ⟨c52, H⟩
    ·have hk := hk.lit 19 c52 rfl
     refine cnd_true hk rfl rfl ?_
     refine wp_skip ?_
     refine hK50 _ _ ?_
     refine wp_block ?_
     apply wp_seq_k; intro K53 hK53
     apply wp_region_lit
     refine sm _ rfl hk rfl rfl rfl fun a hk => ?_
     rcases ite_some H with ⟨c54, H⟩ | ⟨_, H⟩
     rotate_left
     ·cases H
     refine ssl_h rfl hk rfl rfl rfl rfl un9 c54.1 c54.2 fun a hk => ?_
     obtain ⟨y55, h56, H⟩ := bind_some H
     refine sc rfl en93 hk rfl rfl rfl (impl_Hash_block_t _ b2 (⟨u21, u22, u23, u24, u25, u26, u27, u28, u29, u30⟩ : S_Hash) (u20.extract 0 (64 : Int).toNat) b8 y5 _ o13.view (hs.hasG (k := 3) rfl) lh7 ((hs.hand [(1, 1)] rfl).dpick [(2, 3)] rfl) _ h56) ?_
     rintro _ w ⟨rfl, hG⟩ a hk
     have hs := hs.back [(1, 1)] rfl hG [1] rfl
     show wpList _ _ _ [] _ _
     refine wpList_nil ?_
     refine hK53 _ _ ?_
     apply wp_region_lit
     refine sm _ rfl hk rfl rfl rfl fun a hk => ?_
     rcases ite_some H with ⟨c57, H⟩ | ⟨_, H⟩
     rotate_left
     ·cases H
     refine ssl_l rfl hk rfl rfl rfl rfl un9 c57.1 c57.2 fun a hk => ?_
     refine sa _ rfl hk rfl rfl rfl fun a hk => ?_
     show wpList _ _ _ [] _ _
     refine wpList_nil ?_
     obtain rfl := Option.some.inj H
     obtain ⟨m58, hmm58, h49⟩ := h49
     show ∃ n', n' < _ ∧ I46 n' _ _
     refine ⟨m58, hmm58, ?_⟩
     rw [hI46]
     exact ⟨(u20.extract (64 : Int).toNat u20.size), y55.1, y55.2.1, y55.2.2.1, y55.2.2.2.1, y55.2.2.2.2.1, y55.2.2.2.2.2.1, y55.2.2.2.2.2.2.1, y55.2.2.2.2.2.2.2.1, y55.2.2.2.2.2.2.2.2.1, y55.2.2.2.2.2.2.2.2.2, h49, (hk.c 1 rfl (hk.c 2 rfl (hk.c 4 rfl (hk.c 5 rfl hk.k)))), (hs.pick [(3, 3), (1, 1), (2, 2)] rfl)⟩
    ·have hk := hk.lit 19 c52 rfl
     refine cnd_false hk rfl rfl ?_
     refine wp_exit ?_
     obtain rfl := Option.some.inj H
     show R45 _ _
     rw [hR45]
     exact ⟨u20, u21, u22, u23, u24, u25, u26, u27, u28, u29, u30, h49.symm, (hk.c 1 rfl (hk.c 2 rfl (hk.c 4 rfl hk.k))), (hs.pick [(1, 1), (2, 2)] rfl)⟩
  ·intro a w hR0
   rw [hR45] at hR0
   obtain ⟨u31, u32, u33, u34, u35, u36, u37, u38, u39, u40, u41, rfl, hk, hs⟩ := hR0
   have H := HL44
   try dsimp only at H
   refine hK17 _ _ ?_
   apply wp_seq_k; intro K59 hK59
   apply wp_region_lit
   refine sm _ rfl hk rfl rfl rfl fun a hk => ?_
   refine sf ⟨b2, 8, none⟩ rfl hk rfl rfl rfl fd29_1 rfl fun a hk => ?_
   refine ssx (cs' := #[.int .i64 u32, .int .i64 u33, .int .i64 u34, .int .i64 u35, .int .i64 u36, .int .i64 u37, .int .i64 u38, .int .i64 u39, .string u31, .int .i64 u41]) 1 hs rfl rfl hk rfl rfl rfl rfl sz9 rfl rfl rfl rfl fun w a hk hs => ?_
   show wpList _ _ _ [] _ _
   refine wpList_nil ?_
   refine hK59 _ _ ?_
   apply wp_seq_k; intro K60 hK60
   apply wp_region_lit
   refine sln [.int .i64 u32, .int .i64 u33, .int .i64 u34, .int .i64 u35, .int .i64 u36, .int .i64 u37, .int .i64 u38, .int .i64 u39, .string u31, .int .i64 u41] rfl hk rfl rfl rfl ag29 sz29 (box_cells hs (k := 1) rfl) fun a hk => ?_
   refine ssw 2 hs rfl rfl hk rfl rfl rfl rfl sz29 (by simp [Value.oneCell']) rfl fun w a hk hs => ?_
   show wpList _ _ _ [] _ _
   refine wpList_nil ?_
   refine hK60 _ _ ?_
   refine wp_ret ?_
   obtain rfl := Option.some.inj H
   exact fin hk _ [(.agg #[.int .i64 u32, .int .i64 u33, .int .i64 u34, .int .i64 u35, .int .i64 u36, .int .i64 u37, .int .i64 u38, .int .i64 u39, .string u31, .int .i64 u41])] rfl ⟨⟨_, rfl, run_loadN ag29 sz29 (box_cells hs (k := 2) rfl)⟩, trivial⟩ ⟨rfl, (hs.pick [] rfl).dnil⟩

def repeat_ren : Go.Shelf.Ren := ⟨fun | 105 => 94 | 212 => 125 | 99 => 126 | 165 => 127 | 166 => 106 | 170 => 128 | 169 => 107 | 263 => 142 | 264 => 143 | 206 => 144 | 240 => 131 | 241 => 145 | 276 => 146 | 277 => 147 | n => n, fun | 9 => 9 | 3 => 3 | 4 => 4 | 20 => 20 | 0 => 0 | 46 => 96 | 109 => 126 | 5 => 5 | 72 => 109 | 76 => 112 | 51 => 67 | 146 => 138 | 53 => 97 | 148 => 140 | 70 => 107 | 37 => 22 | 75 => 111 | 127 => 130 | 164 => 142 | 80 => 55 | n => n, fun | n => n⟩
theorem repeat_lays : Go.Proofs.Lays.n105 Try.prog repeat_ren := {
  mixed := by kernel_rfl
  f99 := Try.func126.trans (congrArg some (by kernel_rfl))
  f105 := Try.func94.trans (congrArg some (by kernel_rfl))
  f165 := Try.func127.trans (congrArg some (by kernel_rfl))
  f166 := Try.func106.trans (congrArg some (by kernel_rfl))
  f169 := Try.func107.trans (congrArg some (by kernel_rfl))
  f170 := Try.func128.trans (congrArg some (by kernel_rfl))
  f206 := Try.func144.trans (congrArg some (by kernel_rfl))
  f212 := Try.func125.trans (congrArg some (by kernel_rfl))
  f240 := Try.func131.trans (congrArg some (by kernel_rfl))
  f241 := Try.func145.trans (congrArg some (by kernel_rfl))
  f263 := Try.func142.trans (congrArg some (by kernel_rfl))
  f264 := Try.func143.trans (congrArg some (by kernel_rfl))
  f276 := Try.func146.trans (congrArg some (by kernel_rfl))
  f277 := Try.func147.trans (congrArg some (by kernel_rfl))
  t0 := Try.underlying0
  a0 := Try.isAgg0
  z0 := Try.sizeOf0
  v0 := Try.zeroValue0
  t3 := Try.underlying3
  a3 := Try.isAgg3
  z3 := Try.sizeOf3
  v3 := Try.zeroValue3
  t4 := Try.underlying4
  a4 := Try.isAgg4
  z4 := Try.sizeOf4
  v4 := Try.zeroValue4
  t5 := Try.underlying5
  a5 := Try.isAgg5
  z5 := Try.sizeOf5
  v5 := Try.zeroValue5
  t9 := Try.underlying9
  a9 := Try.isAgg9
  z9 := Try.sizeOf9
  v9 := Try.zeroValue9
  t20 := Try.underlying20
  a20 := Try.isAgg20
  z20 := Try.sizeOf20
  v20 := Try.zeroValue20
  t37 := Try.underlying22
  a37 := Try.isAgg22
  z37 := Try.sizeOf22
  v37 := Try.zeroValue22
  t46 := Try.underlying96
  a46 := Try.isAgg96
  z46 := Try.sizeOf96
  v46 := Try.zeroValue96
  t51 := Try.underlying67
  a51 := Try.isAgg67
  z51 := Try.sizeOf67
  v51 := Try.zeroValue67
  t53 := Try.underlying97
  a53 := Try.isAgg97
  z53 := Try.sizeOf97
  v53 := Try.zeroValue97
  t70 := Try.underlying107
  a70 := Try.isAgg107
  z70 := Try.sizeOf107
  v70 := Try.zeroValue107
  t72 := Try.underlying109
  a72 := Try.isAgg109
  z72 := Try.sizeOf109
  v72 := Try.zeroValue109
  t75 := Try.underlying111
  a75 := Try.isAgg111
  z75 := Try.sizeOf111
  v75 := Try.zeroValue111
  t76 := Try.underlying112
  a76 := Try.isAgg112
  z76 := Try.sizeOf112
  v76 := Try.zeroValue112
  t109 := Try.underlying126
  a109 := Try.isAgg126
  z109 := Try.sizeOf126
  v109 := Try.zeroValue126
  t127 := Try.underlying130
  a127 := Try.isAgg130
  z127 := Try.sizeOf130
  v127 := Try.zeroValue130
  t146 := Try.underlying138
  a146 := Try.isAgg138
  z146 := Try.sizeOf138
  v146 := Try.zeroValue138
  t148 := Try.underlying140
  a148 := Try.isAgg140
  z148 := Try.sizeOf140
  v148 := Try.zeroValue140
  t164 := Try.underlying142
  a164 := Try.isAgg142
  z164 := Try.sizeOf142
  v164 := Try.zeroValue142 }
theorem repeat_extra : Builder.Extra Try.prog repeat_ren := {
  sizeBuilder := by kernel_rfl
  liesBuilder := by kernel_rfl
  t5 := Try.underlying5
  a5 := Try.isAgg5
  z5 := Try.sizeOf5
  v5 := Try.zeroValue5
  infoByte := by kernel_rfl
  cellsByte := by kernel_rfl
  sizeByte := by kernel_rfl
  neB5 := by decide }
noncomputable def strings_Repeat.f (x0 : ByteArray) (x1 : Int) : Option ByteArray := if 0 ≤ x1 ∧ x1 ≤ 9223372036854775807 ∧ x0.size * x1.toNat ≤ 140737488355328 then some (⟨(Lib.repeatL x0.data.toList x1.toNat).toArray⟩) else none
theorem strings_Repeat_t (w0 : World) (x0 : ByteArray) (x1 : Int) (r : ByteArray) (H : strings_Repeat.f x0 x1 = some r) :
    Calls Try.prog 94 #[.string x0, .int .i64 x1] w0 (Ret (fun v w => v = .string r ∧ Sat [] w0 w [] [])) := by
  unfold strings_Repeat.f at H
  rcases ite_some H with ⟨⟨h1, h2, h3⟩, H⟩ | ⟨_, H⟩
  rotate_left
  · cases H
  obtain rfl := Option.some.inj H
  obtain ⟨c, rfl⟩ := Int.eq_ofNat_of_zero_le h1
  rw [Int.toNat_natCast] at h3
  refine (Any.strings_Repeat repeat_lays repeat_extra x0 c w0 (by omega) h3).mono ?_
  rintro e w' ⟨rfl, hB⟩
  exact ⟨_, rfl, rfl, Sat.ofBelow hB⟩

noncomputable def impl_Hash_sum.s0 (x0 : S_Hash) (u12 : ByteArray) (u13 : Int) : Option ((ByteArray × Int) ⊕ Ex (ByteArray) (ByteArray)) :=
  (bif (decide (u13 ≥ 0)) then (if 0 ≤ (w64 (8 * u13)) then (if u12.size + (strOfNums ([(IntKind.wrap .u8 (Int.fdiv (w64 (8 * x0.N)) (2 ^ min (w64 (8 * u13)).toNat 64)))])).size ≤ 1152921504606846976 then (some (.inl ((u12 ++ (strOfNums ([(IntKind.wrap .u8 (Int.fdiv (w64 (8 * x0.N)) (2 ^ min (w64 (8 * u13)).toNat 64)))]))), (w64 (u13 - 1))))) else none) else none) else (some (.inr (.out u12))))
noncomputable def impl_Hash_sum.s1 (y36 : S_Hash) (u47 : List Int) (u46 : Int) : Option (((List Int) × Int) ⊕ Ex ((List Int)) (ByteArray)) :=
  (bif (decide (u46 < 8)) then (if 0 ≤ u46 ∧ u46 < (8 : Int) then (if u47.length + ([(IntKind.wrap .u8 (Int.fdiv (([y36.H0, y36.H1, y36.H2, y36.H3, y36.H4, y36.H5, y36.H6, y36.H7] : List Int).getD u46.toNat 0) (2 ^ 24))), (IntKind.wrap .u8 (Int.fdiv (([y36.H0, y36.H1, y36.H2, y36.H3, y36.H4, y36.H5, y36.H6, y36.H7] : List Int).getD u46.toNat 0) (2 ^ 16))), (IntKind.wrap .u8 (Int.fdiv (([y36.H0, y36.H1, y36.H2, y36.H3, y36.H4, y36.H5, y36.H6, y36.H7] : List Int).getD u46.toNat 0) (2 ^ 8))), (IntKind.wrap .u8 (([y36.H0, y36.H1, y36.H2, y36.H3, y36.H4, y36.H5, y36.H6, y36.H7] : List Int).getD u46.toNat 0))]).length ≤ 1073741824 then (some (.inl ((u47 ++ ([(IntKind.wrap .u8 (Int.fdiv (([y36.H0, y36.H1, y36.H2, y36.H3, y36.H4, y36.H5, y36.H6, y36.H7] : List Int).getD u46.toNat 0) (2 ^ 24))), (IntKind.wrap .u8 (Int.fdiv (([y36.H0, y36.H1, y36.H2, y36.H3, y36.H4, y36.H5, y36.H6, y36.H7] : List Int).getD u46.toNat 0) (2 ^ 16))), (IntKind.wrap .u8 (Int.fdiv (([y36.H0, y36.H1, y36.H2, y36.H3, y36.H4, y36.H5, y36.H6, y36.H7] : List Int).getD u46.toNat 0) (2 ^ 8))), (IntKind.wrap .u8 (([y36.H0, y36.H1, y36.H2, y36.H3, y36.H4, y36.H5, y36.H6, y36.H7] : List Int).getD u46.toNat 0))])), (w64 (u46 + 1))))) else none) else none) else (some (.inr (.out u47))))
noncomputable def impl_Hash_sum.f (x0 : S_Hash) : Option (ByteArray) :=
  ((strings_Repeat.f (⟨#[0]⟩ : ByteArray) (Int.tmod (w64 (119 - (x0.Buf.size : Int))) 64)).bind fun y5 => (if (⟨#[128]⟩ : ByteArray).size + y5.size ≤ 1152921504606846976 then ((loopO (fun s => impl_Hash_sum.s0 x0 s.1 s.2) (((⟨#[128]⟩ : ByteArray) ++ y5), 7)).bind fun o => match o with | .out u14 => ((impl_Hash_more.f x0 u14).bind fun y36 => ((loopO (fun s => impl_Hash_sum.s1 y36 s.1 s.2) (([] : List Int), 0)).bind fun o => match o with | .out u52 => (some (strOfNums u52)) | .ret r => (some r))) | .ret r => (some r)) else none))
set_option maxRecDepth 100000 in
set_option maxHeartbeats 0 in
theorem impl_Hash_sum_t (w0 : World) (x0 : S_Hash) (r : ByteArray) (H : impl_Hash_sum.f x0 = some r) :
    Calls Try.prog 49 #[.agg #[.int .i64 x0.H0, .int .i64 x0.H1, .int .i64 x0.H2, .int .i64 x0.H3, .int .i64 x0.H4, .int .i64 x0.H5, .int .i64 x0.H6, .int .i64 x0.H7, .string x0.Buf, .int .i64 x0.N]] w0 (Ret (fun v w => v = .string r ∧ Sat [] w0 w [] [])) := by
  have hs : Sat [] w0 w0 [] [] := Sat.init w0 [] [] (by simp) (by simp) List.nodup_nil (by simp [blks])
  unfold impl_Hash_sum.f at H
  refine enter Try.func49 rfl Try.ntmps49 rfl fun a hk => ?_
  apply wp_seq_k; intro K1 hK1
  apply wp_region_lit
  refine sbx 1 hs rfl hk rfl rfl rfl rfl fun b2 w a hk hs => ?_
  refine sa _ rfl hk rfl rfl rfl fun a hk => ?_
  show wpList _ _ _ [] _ _
  refine wpList_nil ?_
  refine hK1 _ _ ?_
  apply wp_seq_k; intro K3 hK3
  apply wp_region_lit
  refine sf ⟨b2, 9, none⟩ rfl hk rfl rfl rfl fd29_2 rfl fun a hk => ?_
  refine sl rfl hk rfl rfl rfl ag3 (box_cell hs (k := 1) rfl rfl) fun a hk => ?_
  refine sv (.int .i64 (w64 (8 * x0.N))) hk rfl rfl rfl fun a hk => ?_
  refine sa _ rfl hk rfl rfl rfl fun a hk => ?_
  show wpList _ _ _ [] _ _
  refine wpList_nil ?_
  refine hK3 _ _ ?_
  apply wp_seq_k; intro K4 hK4
  apply wp_region_lit
  refine sf ⟨b2, 8, none⟩ rfl hk rfl rfl rfl fd29_1 rfl fun a hk => ?_
  refine sl rfl hk rfl rfl rfl ag9 (box_cell hs (k := 1) rfl rfl) fun a hk => ?_
  refine sles rfl hk rfl rfl rfl un9 fun a hk => ?_
  refine sv (.int .i64 (w64 (119 - (x0.Buf.size : Int)))) hk rfl rfl rfl fun a hk => ?_
  refine sv (.int .i64 (Int.tmod (w64 (119 - (x0.Buf.size : Int))) 64)) hk rfl rfl rfl fun a hk => ?_
  obtain ⟨y5, h6, H⟩ := bind_some H
  refine sc rfl en94 hk rfl rfl rfl (strings_Repeat_t _ (⟨#[0]⟩ : ByteArray) (Int.tmod (w64 (119 - (x0.Buf.size : Int))) 64) _ h6) ?_
  rintro _ w ⟨rfl, hG⟩ a hk
  have hs := hs.call0 hG
  rcases ite_some H with ⟨c7, H⟩ | ⟨_, H⟩
  rotate_left
  ·cases H
  refine ssa rfl hk rfl rfl rfl rfl c7 fun a hk => ?_
  refine sa _ rfl hk rfl rfl rfl fun a hk => ?_
  show wpList _ _ _ [] _ _
  refine wpList_nil ?_
  refine hK4 _ _ ?_
  apply wp_seq_k; intro K8 hK8
  apply wp_seq_k; intro K9 hK9
  apply wp_region_lit
  refine sa _ rfl hk rfl rfl rfl fun a hk => ?_
  show wpList _ _ _ [] _ _
  refine wpList_nil ?_
  refine hK9 _ _ ?_
  have hs := hs.pick [(1, 1)] rfl
  obtain ⟨o15, h16, HL17⟩ := bind_some H
  clear H
  obtain ⟨R18, hR18⟩ : ∃ R : Act → World → Prop, R = fun a w => ∃ (u14 : ByteArray), o15 = .out u14 ∧ Kn [(1, (.pointer (some ⟨b2, 0, none⟩))), (4, (.string u14))] 56 a ∧ Sat [] w0 w [] [(1, [(b2, .cells #[.int .i64 x0.H0, .int .i64 x0.H1, .int .i64 x0.H2, .int .i64 x0.H3, .int .i64 x0.H4, .int .i64 x0.H5, .int .i64 x0.H6, .int .i64 x0.H7, .string x0.Buf, .int .i64 x0.N] 29 (0, 0))])] := ⟨_, rfl⟩
  refine wp_cutq R18 ?_ ?_
  ·refine wp_block ?_
   obtain ⟨fu20, h16⟩ := loopO_some h16
   obtain ⟨I19, hI19⟩ : ∃ I : Nat → Act → World → Prop, I = fun fu a w => ∃ (u12 : ByteArray) (u13 : Int), loopN (fun s => impl_Hash_sum.s0 x0 s.1 s.2) fu (u12, u13) = some o15 ∧ Kn [(1, (.pointer (some ⟨b2, 0, none⟩))), (3, (.int .i64 (w64 (8 * x0.N)))), (4, (.string u12)), (5, (.int .i64 u13))] 56 a ∧ Sat [] w0 w [] [(1, [(b2, .cells #[.int .i64 x0.H0, .int .i64 x0.H1, .int .i64 x0.H2, .int .i64 x0.H3, .int .i64 x0.H4, .int .i64 x0.H5, .int .i64 x0.H6, .int .i64 x0.H7, .string x0.Buf, .int .i64 x0.N] 29 (0, 0))])] := ⟨_, rfl⟩
   refine wp_loop_ghost I19 fu20 ?_ ?_
   ·rw [hI19]
    exact ⟨((⟨#[128]⟩ : ByteArray) ++ y5), 7, h16, (hk.c 1 rfl (hk.c 3 rfl (hk.c 4 rfl (hk.c 5 rfl hk.k)))), (hs.pick [(1, 1)] rfl)⟩
   ·clear h16 hk hs
    intro fu20 a w hI0
    rw [hI19] at hI0
    obtain ⟨u12, u13, hi, hk, hs⟩ := hI0
    obtain ⟨x21, H, h22⟩ := loop_round hi
    try dsimp only at H
    unfold impl_Hash_sum.s0 at H
    apply wp_seq_k; intro K23 hK23
    apply wp_seq_k; intro K24 hK24
    apply wp_region_lit
    refine sm _ rfl hk rfl rfl rfl fun a hk => ?_
    refine sv (.bool (decide (u13 ≥ 0))) hk rfl rfl rfl fun a hk => ?_
    show wpList _ _ _ [] _ _
    refine wpList_nil ?_
    refine hK24 _ _ ?_
    rcases cond_some H with ⟨c25, H⟩ | ⟨c25, H⟩
    ·have hk := hk.lit 20 c25 rfl
     refine cnd_true hk rfl rfl ?_
     refine wp_skip ?_
     refine hK23 _ _ ?_
     apply wp_seq_k; intro K26 hK26
     refine wp_block ?_
     apply wp_region_lit
     refine sm _ rfl hk rfl rfl rfl fun a hk => ?_
     refine sm _ rfl hk rfl rfl rfl fun a hk => ?_
     refine sm _ rfl hk rfl rfl rfl fun a hk => ?_
     refine sv (.int .i64 (w64 (8 * u13))) hk rfl rfl rfl fun a hk => ?_
     rcases ite_some H with ⟨c27, H⟩ | ⟨_, H⟩
     rotate_left
     ·cases H
     refine ssr rfl hk rfl rfl rfl rfl c27 fun a hk => ?_
     refine scn rfl hk rfl rfl rfl un5 un3 fun a hk => ?_
     refine sbs (L := (Lay.int .u8)) (pv := [(0, (.int .u8 (IntKind.wrap .u8 (Int.fdiv (w64 (8 * x0.N)) (2 ^ min (w64 (8 * u13)).toNat 64)))))]) (xs := [(IntKind.wrap .u8 (Int.fdiv (w64 (8 * x0.N)) (2 ^ min (w64 (8 * u13)).toNat 64)))]) (ess := [[.int .u8 (IntKind.wrap .u8 (Int.fdiv (w64 (8 * x0.N)) (2 ^ min (w64 (8 * u13)).toNat 64)))]]) 3 hs rfl hk rfl rfl rfl un22 (bs5_1 (IntKind.wrap .u8 (Int.fdiv (w64 (8 * x0.N)) (2 ^ min (w64 (8 * u13)).toNat 64)))) (AllOwn.cons0 ⟨rfl, rfl⟩ AllOwn.nil) rfl rfl rfl fun b28 k29 w a hk o30 hs => ?_
     refine sbt (xs := ([(IntKind.wrap .u8 (Int.fdiv (w64 (8 * x0.N)) (2 ^ min (w64 (8 * u13)).toNat 64)))])) rfl hk rfl rfl rfl rfl un22 un5 un9 o30.view (hs.hasG (k := 3) rfl) fun a hk => ?_
     rcases ite_some H with ⟨c31, H⟩ | ⟨_, H⟩
     rotate_left
     ·cases H
     refine ssa rfl hk rfl rfl rfl rfl c31 fun a hk => ?_
     refine sa _ rfl hk rfl rfl rfl fun a hk => ?_
     show wpList _ _ _ [] _ _
     refine wpList_nil ?_
     refine hK26 _ _ ?_
     apply wp_region_lit
     refine sm _ rfl hk rfl rfl rfl fun a hk => ?_
     refine sv (.int .i64 (w64 (u13 - 1))) hk rfl rfl rfl fun a hk => ?_
     refine sa _ rfl hk rfl rfl rfl fun a hk => ?_
     show wpList _ _ _ [] _ _
     refine wpList_nil ?_
     obtain rfl := Option.some.inj H
     obtain ⟨m32, hmm32, h22⟩ := h22
     show ∃ n', n' < _ ∧ I19 n' _ _
     refine ⟨m32, hmm32, ?_⟩
     rw [hI19]
     exact ⟨(u12 ++ (strOfNums ([(IntKind.wrap .u8 (Int.fdiv (w64 (8 * x0.N)) (2 ^ min (w64 (8 * u13)).toNat 64)))]))), (w64 (u13 - 1)), h22, (hk.c 1 rfl (hk.c 3 rfl (hk.c 4 rfl (hk.c 5 rfl hk.k)))), (hs.pick [(1, 1)] rfl)⟩
    ·have hk := hk.lit 20 c25 rfl
     refine cnd_false hk rfl rfl ?_
     refine wp_exit ?_
     obtain rfl := Option.some.inj H
     show R18 _ _
     rw [hR18]
     exact ⟨u12, h22.symm, (hk.c 1 rfl (hk.c 4 rfl hk.k)), (hs.pick [(1, 1)] rfl)⟩
  ·intro a w hR0
   rw [hR18] at hR0
   obtain ⟨u14, rfl, hk, hs⟩ := hR0
   have H := HL17
   try dsimp only at H
   refine hK8 _ _ ?_
   apply wp_seq_k; intro K33 hK33
   apply wp_region_lit
   refine sa _ rfl hk rfl rfl rfl fun a hk => ?_
   show wpList _ _ _ [] _ _
   refine wpList_nil ?_
   refine hK33 _ _ ?_
   apply wp_seq_k; intro K34 hK34
   apply wp_seq_k; intro K35 hK35
   apply wp_region_lit
   refine sln [.int .i64 x0.H0, .int .i64 x0.H1, .int .i64 x0.H2, .int .i64 x0.H3, .int .i64 x0.H4, .int .i64 x0.H5, .int .i64 x0.H6, .int .i64 x0.H7, .string x0.Buf, .int .i64 x0.N] rfl hk rfl rfl rfl ag29 sz29 (box_cells hs (k := 1) rfl) fun a hk => ?_
   refine sm _ rfl hk rfl rfl rfl fun a hk => ?_
   obtain ⟨y36, h37, H⟩ := bind_some H
   refine sc rfl en48 hk rfl rfl rfl (impl_Hash_more_t _ x0 u14 _ h37) ?_
   rintro _ w ⟨rfl, hG⟩ a hk
   have hs := hs.call0 hG
   have lh38 : ([y36.H0, y36.H1, y36.H2, y36.H3, y36.H4, y36.H5, y36.H6, y36.H7] : List Int).length = 8 := rfl
   refine sfdA (ik := .i64) ([y36.H0, y36.H1, y36.H2, y36.H3, y36.H4, y36.H5, y36.H6, y36.H7] : List Int) rfl hk rfl rfl rfl fdt29_0 ag27 sz27 rfl fun a hk => ?_
   refine sm _ rfl hk rfl rfl rfl fun a hk => ?_
   show wpList _ _ _ [] _ _
   refine wpList_nil ?_
   refine hK35 _ _ ?_
   obtain ⟨o57, h58, HL59⟩ := bind_some H
   clear H
   obtain ⟨R60, hR60⟩ : ∃ R : Act → World → Prop, R = fun a w => ∃ (u52 : List Int) (A55 : Option Addr) (p56 : Nat) (k53 : Chunk), o57 = .out u52 ∧ Kn [(6, (.slice A55 u52.length p56))] 56 a ∧ Sat [] w0 w [] [(6, k53)] ∧ Own (Lay.int .u8) 5 A55 p56 u52 k53 := ⟨_, rfl⟩
   refine wp_cutq R60 ?_ ?_
   ·refine wp_block ?_
    obtain ⟨fu62, h58⟩ := loopO_some h58
    obtain ⟨I61, hI61⟩ : ∃ I : Nat → Act → World → Prop, I = fun fu a w => ∃ (u47 : List Int) (u46 : Int) (A50 : Option Addr) (p51 : Nat) (k48 : Chunk), loopN (fun s => impl_Hash_sum.s1 y36 s.1 s.2) fu (u47, u46) = some o57 ∧ Kn [(6, (.slice A50 u47.length p51)), (35, (aggI .i64 ([y36.H0, y36.H1, y36.H2, y36.H3, y36.H4, y36.H5, y36.H6, y36.H7] : List Int))), (36, (.int .i64 u46))] 56 a ∧ Sat [] w0 w [] [(6, k48)] ∧ Own (Lay.int .u8) 5 A50 p51 u47 k48 := ⟨_, rfl⟩
    refine wp_loop_ghost I61 fu62 ?_ ?_
    ·rw [hI61]
     exact ⟨([] : List Int), 0, none, 0, _, h58, (hk.c 6 rfl (hk.c 35 rfl (hk.c 36 rfl hk.k))), ((hs.addNil 1006).pick [(6, 1006)] rfl), Own.nil _ _⟩
    ·clear h58 hk hs
     intro fu62 a w hI0
     rw [hI61] at hI0
     obtain ⟨u47, u46, A50, p51, k48, hi, hk, hs, o49⟩ := hI0
     obtain ⟨x63, H, h64⟩ := loop_round hi
     try dsimp only at H
     unfold impl_Hash_sum.s1 at H
     apply wp_seq_k; intro K65 hK65
     apply wp_region_lit
     refine sv (.bool (decide (u46 < 8))) hk rfl rfl rfl fun a hk => ?_
     show wpList _ _ _ [] _ _
     refine wpList_nil ?_
     refine hK65 _ _ ?_
     have hs := hs.pick [(6, 6)] rfl
     apply wp_seq_k; intro K66 hK66
     rcases cond_some H with ⟨c67, H⟩ | ⟨c67, H⟩
     ·have hk := hk.lit 37 c67 rfl
      refine cnd_true hk rfl rfl ?_
      refine wp_skip ?_
      refine hK66 _ _ ?_
      apply wp_seq_k; intro K68 hK68
      refine wp_block ?_
      apply wp_seq_k; intro K69 hK69
      apply wp_region_lit
      rcases ite_some H with ⟨c70, H⟩ | ⟨_, H⟩
      rotate_left
      ·cases H
      refine sixa rfl hk rfl rfl rfl rfl un27 sz3 ag3 lh38 c70.1 c70.2 fun a hk => ?_
      refine sa _ rfl hk rfl rfl rfl fun a hk => ?_
      show wpList _ _ _ [] _ _
      refine wpList_nil ?_
      refine hK69 _ _ ?_
      apply wp_region_lit
      refine sm _ rfl hk rfl rfl rfl fun a hk => ?_
      refine sm _ rfl hk rfl rfl rfl fun a hk => ?_
      refine sv (.int .i64 (Int.fdiv (([y36.H0, y36.H1, y36.H2, y36.H3, y36.H4, y36.H5, y36.H6, y36.H7] : List Int).getD u46.toNat 0) (2 ^ 24))) hk rfl rfl rfl fun a hk => ?_
      refine scn rfl hk rfl rfl rfl un5 un3 fun a hk => ?_
      refine sm _ rfl hk rfl rfl rfl fun a hk => ?_
      refine sv (.int .i64 (Int.fdiv (([y36.H0, y36.H1, y36.H2, y36.H3, y36.H4, y36.H5, y36.H6, y36.H7] : List Int).getD u46.toNat 0) (2 ^ 16))) hk rfl rfl rfl fun a hk => ?_
      refine scn rfl hk rfl rfl rfl un5 un3 fun a hk => ?_
      refine sm _ rfl hk rfl rfl rfl fun a hk => ?_
      refine sv (.int .i64 (Int.fdiv (([y36.H0, y36.H1, y36.H2, y36.H3, y36.H4, y36.H5, y36.H6, y36.H7] : List Int).getD u46.toNat 0) (2 ^ 8))) hk rfl rfl rfl fun a hk => ?_
      refine scn rfl hk rfl rfl rfl un5 un3 fun a hk => ?_
      refine sm _ rfl hk rfl rfl rfl fun a hk => ?_
      refine scn rfl hk rfl rfl rfl un5 un3 fun a hk => ?_
      refine sbs (L := (Lay.int .u8)) (pv := [(0, (.int .u8 (IntKind.wrap .u8 (Int.fdiv (([y36.H0, y36.H1, y36.H2, y36.H3, y36.H4, y36.H5, y36.H6, y36.H7] : List Int).getD u46.toNat 0) (2 ^ 24))))), (1, (.int .u8 (IntKind.wrap .u8 (Int.fdiv (([y36.H0, y36.H1, y36.H2, y36.H3, y36.H4, y36.H5, y36.H6, y36.H7] : List Int).getD u46.toNat 0) (2 ^ 16))))), (2, (.int .u8 (IntKind.wrap .u8 (Int.fdiv (([y36.H0, y36.H1, y36.H2, y36.H3, y36.H4, y36.H5, y36.H6, y36.H7] : List Int).getD u46.toNat 0) (2 ^ 8))))), (3, (.int .u8 (IntKind.wrap .u8 (([y36.H0, y36.H1, y36.H2, y36.H3, y36.H4, y36.H5, y36.H6, y36.H7] : List Int).getD u46.toNat 0))))]) (xs := [(IntKind.wrap .u8 (Int.fdiv (([y36.H0, y36.H1, y36.H2, y36.H3, y36.H4, y36.H5, y36.H6, y36.H7] : List Int).getD u46.toNat 0) (2 ^ 24))), (IntKind.wrap .u8 (Int.fdiv (([y36.H0, y36.H1, y36.H2, y36.H3, y36.H4, y36.H5, y36.H6, y36.H7] : List Int).getD u46.toNat 0) (2 ^ 16))), (IntKind.wrap .u8 (Int.fdiv (([y36.H0, y36.H1, y36.H2, y36.H3, y36.H4, y36.H5, y36.H6, y36.H7] : List Int).getD u46.toNat 0) (2 ^ 8))), (IntKind.wrap .u8 (([y36.H0, y36.H1, y36.H2, y36.H3, y36.H4, y36.H5, y36.H6, y36.H7] : List Int).getD u46.toNat 0))]) (ess := [[.int .u8 (IntKind.wrap .u8 (Int.fdiv (([y36.H0, y36.H1, y36.H2, y36.H3, y36.H4, y36.H5, y36.H6, y36.H7] : List Int).getD u46.toNat 0) (2 ^ 24)))], [.int .u8 (IntKind.wrap .u8 (Int.fdiv (([y36.H0, y36.H1, y36.H2, y36.H3, y36.H4, y36.H5, y36.H6, y36.H7] : List Int).getD u46.toNat 0) (2 ^ 16)))], [.int .u8 (IntKind.wrap .u8 (Int.fdiv (([y36.H0, y36.H1, y36.H2, y36.H3, y36.H4, y36.H5, y36.H6, y36.H7] : List Int).getD u46.toNat 0) (2 ^ 8)))], [.int .u8 (IntKind.wrap .u8 (([y36.H0, y36.H1, y36.H2, y36.H3, y36.H4, y36.H5, y36.H6, y36.H7] : List Int).getD u46.toNat 0))]]) 7 hs rfl hk rfl rfl rfl un22 (bs5_7 (IntKind.wrap .u8 (Int.fdiv (([y36.H0, y36.H1, y36.H2, y36.H3, y36.H4, y36.H5, y36.H6, y36.H7] : List Int).getD u46.toNat 0) (2 ^ 24))) (IntKind.wrap .u8 (Int.fdiv (([y36.H0, y36.H1, y36.H2, y36.H3, y36.H4, y36.H5, y36.H6, y36.H7] : List Int).getD u46.toNat 0) (2 ^ 16))) (IntKind.wrap .u8 (Int.fdiv (([y36.H0, y36.H1, y36.H2, y36.H3, y36.H4, y36.H5, y36.H6, y36.H7] : List Int).getD u46.toNat 0) (2 ^ 8))) (IntKind.wrap .u8 (([y36.H0, y36.H1, y36.H2, y36.H3, y36.H4, y36.H5, y36.H6, y36.H7] : List Int).getD u46.toNat 0))) (AllOwn.cons0 ⟨rfl, rfl⟩ (AllOwn.cons0 ⟨rfl, rfl⟩ (AllOwn.cons0 ⟨rfl, rfl⟩ (AllOwn.cons0 ⟨rfl, rfl⟩ AllOwn.nil)))) rfl rfl rfl fun b71 k72 w a hk o73 hs => ?_
      rcases ite_some H with ⟨c74, H⟩ | ⟨_, H⟩
      rotate_left
      ·cases H
      refine sap 6 (xs := u47) (ys := [(IntKind.wrap .u8 (Int.fdiv (([y36.H0, y36.H1, y36.H2, y36.H3, y36.H4, y36.H5, y36.H6, y36.H7] : List Int).getD u46.toNat 0) (2 ^ 24))), (IntKind.wrap .u8 (Int.fdiv (([y36.H0, y36.H1, y36.H2, y36.H3, y36.H4, y36.H5, y36.H6, y36.H7] : List Int).getD u46.toNat 0) (2 ^ 16))), (IntKind.wrap .u8 (Int.fdiv (([y36.H0, y36.H1, y36.H2, y36.H3, y36.H4, y36.H5, y36.H6, y36.H7] : List Int).getD u46.toNat 0) (2 ^ 8))), (IntKind.wrap .u8 (([y36.H0, y36.H1, y36.H2, y36.H3, y36.H4, y36.H5, y36.H6, y36.H7] : List Int).getD u46.toNat 0))]) (flat_flat : ((Lay.int .u8)).Flat) hs rfl o49 o73.view (hs.hasG (k := 7) rfl) rfl hk rfl rfl rfl rfl rfl rfl un22 mk5 rfl rfl rfl c74 fun A75 p76 k77 w a hk o78 hs => ?_
      refine sa _ rfl hk rfl rfl rfl fun a hk => ?_
      show wpList _ _ _ [] _ _
      refine wpList_nil ?_
      refine hK68 _ _ ?_
      apply wp_region_lit
      refine sv (.int .i64 (w64 (u46 + 1))) hk rfl rfl rfl fun a hk => ?_
      refine sm _ rfl hk rfl rfl rfl fun a hk => ?_
      show wpList _ _ _ [] _ _
      refine wpList_nil ?_
      obtain rfl := Option.some.inj H
      obtain ⟨m79, hmm79, h64⟩ := h64
      show ∃ n', n' < _ ∧ I61 n' _ _
      refine ⟨m79, hmm79, ?_⟩
      rw [hI61]
      exact ⟨(u47 ++ ([(IntKind.wrap .u8 (Int.fdiv (([y36.H0, y36.H1, y36.H2, y36.H3, y36.H4, y36.H5, y36.H6, y36.H7] : List Int).getD u46.toNat 0) (2 ^ 24))), (IntKind.wrap .u8 (Int.fdiv (([y36.H0, y36.H1, y36.H2, y36.H3, y36.H4, y36.H5, y36.H6, y36.H7] : List Int).getD u46.toNat 0) (2 ^ 16))), (IntKind.wrap .u8 (Int.fdiv (([y36.H0, y36.H1, y36.H2, y36.H3, y36.H4, y36.H5, y36.H6, y36.H7] : List Int).getD u46.toNat 0) (2 ^ 8))), (IntKind.wrap .u8 (([y36.H0, y36.H1, y36.H2, y36.H3, y36.H4, y36.H5, y36.H6, y36.H7] : List Int).getD u46.toNat 0))])), (w64 (u46 + 1)), A75, p76, _, h64, (hk.c 6 rfl (hk.c 35 rfl (hk.c 36 rfl hk.k))), (hs.pick [(6, 6)] rfl), o78⟩
     ·have hk := hk.lit 37 c67 rfl
      refine cnd_false hk rfl rfl ?_
      refine wp_exit ?_
      obtain rfl := Option.some.inj H
      show R60 _ _
      rw [hR60]
      exact ⟨u47, A50, p51, _, h64.symm, (hk.c 6 rfl hk.k), (hs.pick [(6, 6)] rfl), o49⟩
   ·intro a w hR0
    rw [hR60] at hR0
    obtain ⟨u52, A55, p56, k53, rfl, hk, hs, o54⟩ := hR0
    have H := HL59
    try dsimp only at H
    refine hK34 _ _ ?_
    have hs := hs.pick [(6, 6)] rfl
    apply wp_seq_k; intro K80 hK80
    apply wp_region_lit
    refine sm _ rfl hk rfl rfl rfl fun a hk => ?_
    refine sbt (xs := u52) rfl hk rfl rfl rfl rfl un22 un5 un9 o54.view (hs.hasG (k := 6) rfl) fun a hk => ?_
    refine sa _ rfl hk rfl rfl rfl fun a hk => ?_
    show wpList _ _ _ [] _ _
    refine wpList_nil ?_
    refine hK80 _ _ ?_
    refine wp_ret ?_
    obtain rfl := Option.some.inj H
    exact fin hk _ [(.string (strOfNums u52))] rfl ⟨rfl, trivial⟩ ⟨rfl, (hs.pick [] rfl).dnil⟩

noncomputable def impl_digest.f (x0 : ByteArray) : Option (ByteArray) :=
  ((impl_NewHash.f).bind fun y3 => ((impl_Hash_more.f y3 x0).bind fun y5 => ((impl_Hash_sum.f y5).bind fun y7 => (some y7))))
set_option maxRecDepth 100000 in
set_option maxHeartbeats 0 in
theorem impl_digest_t (w0 : World) (x0 : ByteArray) (r : ByteArray) (H : impl_digest.f x0 = some r) :
    Calls Try.prog 46 #[.string x0] w0 (Ret (fun v w => v = .string r ∧ Sat [] w0 w [] [])) := by
  have hs : Sat [] w0 w0 [] [] := Sat.init w0 [] [] (by simp) (by simp) List.nodup_nil (by simp [blks])
  unfold impl_digest.f at H
  refine enter Try.func46 rfl Try.ntmps46 rfl fun a hk => ?_
  apply wp_seq_k; intro K1 hK1
  apply wp_region_lit
  refine sa _ rfl hk rfl rfl rfl fun a hk => ?_
  show wpList _ _ _ [] _ _
  refine wpList_nil ?_
  refine hK1 _ _ ?_
  apply wp_seq_k; intro K2 hK2
  apply wp_region_lit
  obtain ⟨y3, h4, H⟩ := bind_some H
  refine sc rfl en13 hk rfl rfl rfl (impl_NewHash_t _ _ h4) ?_
  rintro _ w ⟨rfl, hG⟩ a hk
  have hs := hs.call0 hG
  refine sm _ rfl hk rfl rfl rfl fun a hk => ?_
  obtain ⟨y5, h6, H⟩ := bind_some H
  refine sc rfl en48 hk rfl rfl rfl (impl_Hash_more_t _ y3 x0 _ h6) ?_
  rintro _ w ⟨rfl, hG⟩ a hk
  have hs := hs.call0 hG
  obtain ⟨y7, h8, H⟩ := bind_some H
  refine sc rfl en49 hk rfl rfl rfl (impl_Hash_sum_t _ y5 _ h8) ?_
  rintro _ w ⟨rfl, hG⟩ a hk
  have hs := hs.call0 hG
  refine sa _ rfl hk rfl rfl rfl fun a hk => ?_
  show wpList _ _ _ [] _ _
  refine wpList_nil ?_
  refine hK2 _ _ ?_
  refine wp_ret ?_
  obtain rfl := Option.some.inj H
  exact fin hk _ [(.string y7)] rfl ⟨rfl, trivial⟩ ⟨rfl, (hs.pick [] rfl).dnil⟩

noncomputable def impl_HashOf.f (x0 : ByteArray) : Option (ByteArray × Int) :=
  ((impl_areShort.f ([x0])).bind fun y7 => (bif (!y7) then (some ((⟨#[]⟩ : ByteArray), 2)) else ((impl_digest.f x0).bind fun y12 => (some (y12, 0)))))
set_option maxRecDepth 100000 in
set_option maxHeartbeats 0 in
theorem impl_HashOf_t (w0 : World) (x0 : ByteArray) (r : ByteArray × Int) (H : impl_HashOf.f x0 = some r) :
    Calls Try.prog 9 #[.string x0] w0 (Ret (fun v w => v = .tuple #[.string r.1, .int .i64 r.2] ∧ Sat [] w0 w [] [])) := by
  have hs : Sat [] w0 w0 [] [] := Sat.init w0 [] [] (by simp) (by simp) List.nodup_nil (by simp [blks])
  unfold impl_HashOf.f at H
  refine enter Try.func9 rfl Try.ntmps9 rfl fun a hk => ?_
  apply wp_seq_k; intro K1 hK1
  apply wp_region_lit
  refine sa _ rfl hk rfl rfl rfl fun a hk => ?_
  refine sa _ rfl hk rfl rfl rfl fun a hk => ?_
  show wpList _ _ _ [] _ _
  refine wpList_nil ?_
  refine hK1 _ _ ?_
  apply wp_seq_k; intro K2 hK2
  apply wp_seq_k; intro K3 hK3
  apply wp_region_lit
  refine sm _ rfl hk rfl rfl rfl fun a hk => ?_
  refine sbs (L := Lay.str) (pv := [(0, (.string x0))]) (xs := [x0]) (ess := [[.string x0]]) 1 hs rfl hk rfl rfl rfl un86 (bs9_8 x0) (AllOwn.cons0 ⟨rfl, rfl⟩ AllOwn.nil) rfl rfl rfl fun b4 k5 w a hk o6 hs => ?_
  obtain ⟨y7, h8, H⟩ := bind_some H
  refine sc rfl en45 hk rfl rfl rfl (impl_areShort_t _ (some ⟨b4, 0, none⟩) 1 ([x0]) _ o6.view (hs.hasG (k := 1) rfl) _ h8) ?_
  rintro _ w ⟨rfl, hG⟩ a hk
  have hs := hs.call0 hG
  refine sv (.bool (!y7)) hk rfl rfl rfl fun a hk => ?_
  show wpList _ _ _ [] _ _
  refine wpList_nil ?_
  refine hK3 _ _ ?_
  rcases cond_some H with ⟨c9, H⟩ | ⟨c9, H⟩
  ·have hk := hk.lit 7 c9 rfl
   refine cnd_true hk rfl rfl ?_
   apply wp_seq_k; intro K10 hK10
   apply wp_region_lit
   refine sa _ rfl hk rfl rfl rfl fun a hk => ?_
   refine sa _ rfl hk rfl rfl rfl fun a hk => ?_
   show wpList _ _ _ [] _ _
   refine wpList_nil ?_
   refine hK10 _ _ ?_
   refine wp_ret ?_
   obtain rfl := Option.some.inj H
   exact fin hk _ [(.string (⟨#[]⟩ : ByteArray)), (.int .i64 2)] rfl ⟨rfl, ⟨rfl, trivial⟩⟩ ⟨rfl, (hs.pick [] rfl).dnil⟩
  ·have hk := hk.lit 7 c9 rfl
   refine cnd_false hk rfl rfl ?_
   refine wp_skip ?_
   refine hK2 _ _ ?_
   apply wp_seq_k; intro K11 hK11
   apply wp_region_lit
   refine sm _ rfl hk rfl rfl rfl fun a hk => ?_
   obtain ⟨y12, h13, H⟩ := bind_some H
   refine sc rfl en46 hk rfl rfl rfl (impl_digest_t _ x0 _ h13) ?_
   rintro _ w ⟨rfl, hG⟩ a hk
   have hs := hs.call0 hG
   refine sa _ rfl hk rfl rfl rfl fun a hk => ?_
   refine sa _ rfl hk rfl rfl rfl fun a hk => ?_
   show wpList _ _ _ [] _ _
   refine wpList_nil ?_
   refine hK11 _ _ ?_
   have hs := hs.pick [] rfl
   refine wp_ret ?_
   obtain rfl := Option.some.inj H
   exact fin hk _ [(.string y12), (.int .i64 0)] rfl ⟨rfl, ⟨rfl, trivial⟩⟩ ⟨rfl, (hs.pick [] rfl).dnil⟩

noncomputable def spec_l01Word.f (x0 : ByteArray) (x1 : Int) : Option (Int) :=
  (if 0 ≤ x1 ∧ x1 < (x0.size : Int) then (if 0 ≤ (w64 (x1 + 1)) ∧ (w64 (x1 + 1)) < (x0.size : Int) then (if 0 ≤ (w64 (x1 + 2)) ∧ (w64 (x1 + 2)) < (x0.size : Int) then (if 0 ≤ (w64 (x1 + 3)) ∧ (w64 (x1 + 3)) < (x0.size : Int) then (some (IntKind.wrap .i64 ((BitVec.ofInt 64 (IntKind.wrap .i64 ((BitVec.ofInt 64 (IntKind.wrap .i64 ((BitVec.ofInt 64 (IntKind.wrap .i64 ((IntKind.wrap .i64 (byteAt x0 x1)) * 2 ^ 24)) ||| BitVec.ofInt 64 (IntKind.wrap .i64 ((IntKind.wrap .i64 (byteAt x0 (w64 (x1 + 1)))) * 2 ^ 16))).toNat : Int)) ||| BitVec.ofInt 64 (IntKind.wrap .i64 ((IntKind.wrap .i64 (byteAt x0 (w64 (x1 + 2)))) * 2 ^ 8))).toNat : Int)) ||| BitVec.ofInt 64 (IntKind.wrap .i64 (byteAt x0 (w64 (x1 + 3))))).toNat : Int))) else none) else none) else none) else none)
set_option maxRecDepth 100000 in
set_option maxHeartbeats 0 in
theorem spec_l01Word_t (w0 : World) (x0 : ByteArray) (x1 : Int) (r : Int) (H : spec_l01Word.f x0 x1 = some r) :
    Calls Try.prog 139 #[.string x0, .int .i64 x1] w0 (Ret (fun v w => v = .int .i64 r ∧ Sat [] w0 w [] [])) := by
  have hs : Sat [] w0 w0 [] [] := Sat.init w0 [] [] (by simp) (by simp) List.nodup_nil (by simp [blks])
  unfold spec_l01Word.f at H
  refine enter Try.func139 rfl Try.ntmps139 rfl fun a hk => ?_
  apply wp_seq_k; intro K1 hK1
  apply wp_region_lit
  refine sa _ rfl hk rfl rfl rfl fun a hk => ?_
  show wpList _ _ _ [] _ _
  refine wpList_nil ?_
  refine hK1 _ _ ?_
  apply wp_seq_k; intro K2 hK2
  refine wp_region_tree (.q 0 (.q 1 (.q 2 (.q 3 (.q 4 (.q 5 (.q 6 (.q 7 (.q 8 (.q 9 (.q 10 (.q 11 (.q 12 (.q 13 (.q 14 (.q 15 (.q 16 (.q 17 (.q 18 (.q 19 (.alt 20 (.alt 21 (.alt 22 (.alt 23 (.alt 24 (.last 25) .stop) .stop) .stop) .stop) .stop))))))))))))))))))))) mo (by kernel_rfl) (hs.pick [] rfl) fun _ => ?_
  have hs := hs.drew
  refine tqst (.string x0) hk rfl rfl rfl rfl (fun w hs => sm _ rfl hk rfl rfl rfl fun a hk => qe hk) fun a hk => ?_
  refine tqst (.int .i64 x1) hk rfl rfl rfl rfl (fun w hs => sm _ rfl hk rfl rfl rfl fun a hk => qe hk) fun a hk => ?_
  rcases ite_some H with ⟨c4, H⟩ | ⟨_, H⟩
  rotate_left
  ·cases H
  refine tqst (.int .u8 (byteAt x0 x1)) hk rfl rfl rfl rfl (fun w hs => six rfl hk rfl rfl rfl rfl un9 c4.1 c4.2 fun a hk => qe hk) fun a hk => ?_
  refine tqst (.int .i64 (IntKind.wrap .i64 (byteAt x0 x1))) hk rfl rfl rfl rfl (fun w hs => scn rfl hk rfl rfl rfl un3 un5 fun a hk => qe hk) fun a hk => ?_
  refine tqst (.int .i64 (IntKind.wrap .i64 ((IntKind.wrap .i64 (byteAt x0 x1)) * 2 ^ 24))) hk rfl rfl rfl rfl (fun w hs => sv (.int .i64 (IntKind.wrap .i64 ((IntKind.wrap .i64 (byteAt x0 x1)) * 2 ^ 24))) hk rfl rfl rfl fun a hk => qe hk) fun a hk => ?_
  refine tqst (.string x0) hk rfl rfl rfl rfl (fun w hs => sm _ rfl hk rfl rfl rfl fun a hk => qe hk) fun a hk => ?_
  refine tqst (.int .i64 x1) hk rfl rfl rfl rfl (fun w hs => sm _ rfl hk rfl rfl rfl fun a hk => qe hk) fun a hk => ?_
  refine tqst (.int .i64 (w64 (x1 + 1))) hk rfl rfl rfl rfl (fun w hs => sv (.int .i64 (w64 (x1 + 1))) hk rfl rfl rfl fun a hk => qe hk) fun a hk => ?_
  rcases ite_some H with ⟨c5, H⟩ | ⟨_, H⟩
  rotate_left
  ·cases H
  refine tqst (.int .u8 (byteAt x0 (w64 (x1 + 1)))) hk rfl rfl rfl rfl (fun w hs => six rfl hk rfl rfl rfl rfl un9 c5.1 c5.2 fun a hk => qe hk) fun a hk => ?_
  refine tqst (.int .i64 (IntKind.wrap .i64 (byteAt x0 (w64 (x1 + 1))))) hk rfl rfl rfl rfl (fun w hs => scn rfl hk rfl rfl rfl un3 un5 fun a hk => qe hk) fun a hk => ?_
  refine tqst (.int .i64 (IntKind.wrap .i64 ((IntKind.wrap .i64 (byteAt x0 (w64 (x1 + 1)))) * 2 ^ 16))) hk rfl rfl rfl rfl (fun w hs => sv (.int .i64 (IntKind.wrap .i64 ((IntKind.wrap .i64 (byteAt x0 (w64 (x1 + 1)))) * 2 ^ 16))) hk rfl rfl rfl fun a hk => qe hk) fun a hk => ?_
  refine tqst (.int .i64 (IntKind.wrap .i64 ((BitVec.ofInt 64 (IntKind.wrap .i64 ((IntKind.wrap .i64 (byteAt x0 x1)) * 2 ^ 24)) ||| BitVec.ofInt 64 (IntKind.wrap .i64 ((IntKind.wrap .i64 (byteAt x0 (w64 (x1 + 1)))) * 2 ^ 16))).toNat : Int))) hk rfl rfl rfl rfl (fun w hs => sv (.int .i64 (IntKind.wrap .i64 ((BitVec.ofInt 64 (IntKind.wrap .i64 ((IntKind.wrap .i64 (byteAt x0 x1)) * 2 ^ 24)) ||| BitVec.ofInt 64 (IntKind.wrap .i64 ((IntKind.wrap .i64 (byteAt x0 (w64 (x1 + 1)))) * 2 ^ 16))).toNat : Int))) hk rfl rfl rfl fun a hk => qe hk) fun a hk => ?_
  refine tqst (.string x0) hk rfl rfl rfl rfl (fun w hs => sm _ rfl hk rfl rfl rfl fun a hk => qe hk) fun a hk => ?_
  refine tqst (.int .i64 x1) hk rfl rfl rfl rfl (fun w hs => sm _ rfl hk rfl rfl rfl fun a hk => qe hk) fun a hk => ?_
  refine tqst (.int .i64 (w64 (x1 + 2))) hk rfl rfl rfl rfl (fun w hs => sv (.int .i64 (w64 (x1 + 2))) hk rfl rfl rfl fun a hk => qe hk) fun a hk => ?_
  rcases ite_some H with ⟨c6, H⟩ | ⟨_, H⟩
  rotate_left
  ·cases H
  refine tqst (.int .u8 (byteAt x0 (w64 (x1 + 2)))) hk rfl rfl rfl rfl (fun w hs => six rfl hk rfl rfl rfl rfl un9 c6.1 c6.2 fun a hk => qe hk) fun a hk => ?_
  refine tqst (.int .i64 (IntKind.wrap .i64 (byteAt x0 (w64 (x1 + 2))))) hk rfl rfl rfl rfl (fun w hs => scn rfl hk rfl rfl rfl un3 un5 fun a hk => qe hk) fun a hk => ?_
  refine tqst (.int .i64 (IntKind.wrap .i64 ((IntKind.wrap .i64 (byteAt x0 (w64 (x1 + 2)))) * 2 ^ 8))) hk rfl rfl rfl rfl (fun w hs => sv (.int .i64 (IntKind.wrap .i64 ((IntKind.wrap .i64 (byteAt x0 (w64 (x1 + 2)))) * 2 ^ 8))) hk rfl rfl rfl fun a hk => qe hk) fun a hk => ?_
  refine tqst (.int .i64 (IntKind.wrap .i64 ((BitVec.ofInt 64 (IntKind.wrap .i64 ((BitVec.ofInt 64 (IntKind.wrap .i64 ((IntKind.wrap .i64 (byteAt x0 x1)) * 2 ^ 24)) ||| BitVec.ofInt 64 (IntKind.wrap .i64 ((IntKind.wrap .i64 (byteAt x0 (w64 (x1 + 1)))) * 2 ^ 16))).toNat : Int)) ||| BitVec.ofInt 64 (IntKind.wrap .i64 ((IntKind.wrap .i64 (byteAt x0 (w64 (x1 + 2)))) * 2 ^ 8))).toNat : Int))) hk rfl rfl rfl rfl (fun w hs => sv (.int .i64 (IntKind.wrap .i64 ((BitVec.ofInt 64 (IntKind.wrap .i64 ((BitVec.ofInt 64 (IntKind.wrap .i64 ((IntKind.wrap .i64 (byteAt x0 x1)) * 2 ^ 24)) ||| BitVec.ofInt 64 (IntKind.wrap .i64 ((IntKind.wrap .i64 (byteAt x0 (w64 (x1 + 1)))) * 2 ^ 16))).toNat : Int)) ||| BitVec.ofInt 64 (IntKind.wrap .i64 ((IntKind.wrap .i64 (byteAt x0 (w64 (x1 + 2)))) * 2 ^ 8))).toNat : Int))) hk rfl rfl rfl fun a hk => qe hk) fun a hk => ?_
  refine tqst (.string x0) hk rfl rfl rfl rfl (fun w hs => sm _ rfl hk rfl rfl rfl fun a hk => qe hk) fun a hk => ?_
  refine tsst hk rfl rfl (fun K_r3_20 hK_r3_20 w hF => ?_) wt_stop
  have hs := hs.f hF
  refine sm _ rfl hk rfl rfl rfl fun a hk => ?_
  refine se (hs.pick [] rfl) hk (hK_r3_20 _ _ ?_)
  refine tsst hk rfl rfl (fun K_r3_21 hK_r3_21 w hF => ?_) wt_stop
  have hs := hs.f hF
  refine sv (.int .i64 (w64 (x1 + 3))) hk rfl rfl rfl fun a hk => ?_
  refine se (hs.pick [] rfl) hk (hK_r3_21 _ _ ?_)
  refine tsst hk rfl rfl (fun K_r3_22 hK_r3_22 w hF => ?_) wt_stop
  have hs := hs.f hF
  rcases ite_some H with ⟨c7, H⟩ | ⟨_, H⟩
  rotate_left
  ·cases H
  refine six rfl hk rfl rfl rfl rfl un9 c7.1 c7.2 fun a hk => ?_
  refine se (hs.pick [] rfl) hk (hK_r3_22 _ _ ?_)
  refine tsst hk rfl rfl (fun K_r3_23 hK_r3_23 w hF => ?_) wt_stop
  have hs := hs.f hF
  refine scn rfl hk rfl rfl rfl un3 un5 fun a hk => ?_
  refine se (hs.pick [] rfl) hk (hK_r3_23 _ _ ?_)
  refine tsst hk rfl rfl (fun K_r3_24 hK_r3_24 w hF => ?_) wt_stop
  have hs := hs.f hF
  refine sv (.int .i64 (IntKind.wrap .i64 ((BitVec.ofInt 64 (IntKind.wrap .i64 ((BitVec.ofInt 64 (IntKind.wrap .i64 ((BitVec.ofInt 64 (IntKind.wrap .i64 ((IntKind.wrap .i64 (byteAt x0 x1)) * 2 ^ 24)) ||| BitVec.ofInt 64 (IntKind.wrap .i64 ((IntKind.wrap .i64 (byteAt x0 (w64 (x1 + 1)))) * 2 ^ 16))).toNat : Int)) ||| BitVec.ofInt 64 (IntKind.wrap .i64 ((IntKind.wrap .i64 (byteAt x0 (w64 (x1 + 2)))) * 2 ^ 8))).toNat : Int)) ||| BitVec.ofInt 64 (IntKind.wrap .i64 (byteAt x0 (w64 (x1 + 3))))).toNat : Int))) hk rfl rfl rfl fun a hk => ?_
  refine se (hs.pick [] rfl) hk (hK_r3_24 _ _ ?_)
  refine tlst hk rfl rfl fun K_r3_25 hK_r3_25 w hF => ?_
  have hs := hs.f hF
  refine sa _ rfl hk rfl rfl rfl fun a hk => ?_
  refine se trivial hk (hK_r3_25 _ _ fun w hF => ?_)
  have hs := hs.f hF
  refine hK2 _ _ ?_
  refine wp_ret ?_
  obtain rfl := Option.some.inj H
  exact fin hk _ [(.int .i64 (IntKind.wrap .i64 ((BitVec.ofInt 64 (IntKind.wrap .i64 ((BitVec.ofInt 64 (IntKind.wrap .i64 ((BitVec.ofInt 64 (IntKind.wrap .i64 ((IntKind.wrap .i64 (byteAt x0 x1)) * 2 ^ 24)) ||| BitVec.ofInt 64 (IntKind.wrap .i64 ((IntKind.wrap .i64 (byteAt x0 (w64 (x1 + 1)))) * 2 ^ 16))).toNat : Int)) ||| BitVec.ofInt 64 (IntKind.wrap .i64 ((IntKind.wrap .i64 (byteAt x0 (w64 (x1 + 2)))) * 2 ^ 8))).toNat : Int)) ||| BitVec.ofInt 64 (IntKind.wrap .i64 (byteAt x0 (w64 (x1 + 3))))).toNat : Int)))] rfl ⟨rfl, trivial⟩ ⟨rfl, (hs.pick [] rfl).dnil⟩

noncomputable def spec_l01Right.f (x0 : Int) (x1 : Int) : Option (Int) :=
  (if 0 ≤ x1 then (if 0 ≤ (w64 (32 - x1)) then (some (IntKind.wrap .i64 ((BitVec.ofInt 64 (IntKind.wrap .i64 ((BitVec.ofInt 64 (Int.fdiv x0 (2 ^ min x1.toNat 64)) ||| BitVec.ofInt 64 (IntKind.wrap .i64 (x0 * 2 ^ min (w64 (32 - x1)).toNat 64))).toNat : Int)) &&& BitVec.ofInt 64 4294967295).toNat : Int))) else none) else none)
set_option maxRecDepth 100000 in
set_option maxHeartbeats 0 in
theorem spec_l01Right_t (w0 : World) (x0 : Int) (x1 : Int) (r : Int) (H : spec_l01Right.f x0 x1 = some r) :
    Calls Try.prog 140 #[.int .i64 x0, .int .i64 x1] w0 (Ret (fun v w => v = .int .i64 r ∧ Sat [] w0 w [] [])) := by
  have hs : Sat [] w0 w0 [] [] := Sat.init w0 [] [] (by simp) (by simp) List.nodup_nil (by simp [blks])
  unfold spec_l01Right.f at H
  refine enter Try.func140 rfl Try.ntmps140 rfl fun a hk => ?_
  apply wp_seq_k; intro K1 hK1
  apply wp_region_lit
  refine sa _ rfl hk rfl rfl rfl fun a hk => ?_
  show wpList _ _ _ [] _ _
  refine wpList_nil ?_
  refine hK1 _ _ ?_
  apply wp_seq_k; intro K2 hK2
  refine wp_region_tree (.q 0 (.q 1 (.q 2 (.q 3 (.alt 4 (.alt 5 (.alt 6 (.alt 7 (.alt 8 (.last 9) .stop) .stop) .stop) .stop) .stop))))) mo (by kernel_rfl) (hs.pick [] rfl) fun _ => ?_
  have hs := hs.drew
  refine tqst (.int .i64 x0) hk rfl rfl rfl rfl (fun w hs => sm _ rfl hk rfl rfl rfl fun a hk => qe hk) fun a hk => ?_
  refine tqst (.int .i64 x1) hk rfl rfl rfl rfl (fun w hs => sm _ rfl hk rfl rfl rfl fun a hk => qe hk) fun a hk => ?_
  rcases ite_some H with ⟨c4, H⟩ | ⟨_, H⟩
  rotate_left
  ·cases H
  refine tqst (.int .i64 (Int.fdiv x0 (2 ^ min x1.toNat 64))) hk rfl rfl rfl rfl (fun w hs => ssr rfl hk rfl rfl rfl rfl c4 fun a hk => qe hk) fun a hk => ?_
  refine tqst (.int .i64 x0) hk rfl rfl rfl rfl (fun w hs => sm _ rfl hk rfl rfl rfl fun a hk => qe hk) fun a hk => ?_
  refine tsst hk rfl rfl (fun K_r3_4 hK_r3_4 w hF => ?_) wt_stop
  have hs := hs.f hF
  refine sm _ rfl hk rfl rfl rfl fun a hk => ?_
  refine se (hs.pick [] rfl) hk (hK_r3_4 _ _ ?_)
  refine tsst hk rfl rfl (fun K_r3_5 hK_r3_5 w hF => ?_) wt_stop
  have hs := hs.f hF
  refine sv (.int .i64 (w64 (32 - x1))) hk rfl rfl rfl fun a hk => ?_
  refine se (hs.pick [] rfl) hk (hK_r3_5 _ _ ?_)
  refine tsst hk rfl rfl (fun K_r3_6 hK_r3_6 w hF => ?_) wt_stop
  have hs := hs.f hF
  rcases ite_some H with ⟨c5, H⟩ | ⟨_, H⟩
  rotate_left
  ·cases H
  refine ssh rfl hk rfl rfl rfl rfl c5 fun a hk => ?_
  refine se (hs.pick [] rfl) hk (hK_r3_6 _ _ ?_)
  refine tsst hk rfl rfl (fun K_r3_7 hK_r3_7 w hF => ?_) wt_stop
  have hs := hs.f hF
  refine sv (.int .i64 (IntKind.wrap .i64 ((BitVec.ofInt 64 (Int.fdiv x0 (2 ^ min x1.toNat 64)) ||| BitVec.ofInt 64 (IntKind.wrap .i64 (x0 * 2 ^ min (w64 (32 - x1)).toNat 64))).toNat : Int))) hk rfl rfl rfl fun a hk => ?_
  refine se (hs.pick [] rfl) hk (hK_r3_7 _ _ ?_)
  refine tsst hk rfl rfl (fun K_r3_8 hK_r3_8 w hF => ?_) wt_stop
  have hs := hs.f hF
  refine sv (.int .i64 (IntKind.wrap .i64 ((BitVec.ofInt 64 (IntKind.wrap .i64 ((BitVec.ofInt 64 (Int.fdiv x0 (2 ^ min x1.toNat 64)) ||| BitVec.ofInt 64 (IntKind.wrap .i64 (x0 * 2 ^ min (w64 (32 - x1)).toNat 64))).toNat : Int)) &&& BitVec.ofInt 64 4294967295).toNat : Int))) hk rfl rfl rfl fun a hk => ?_
  refine se (hs.pick [] rfl) hk (hK_r3_8 _ _ ?_)
  refine tlst hk rfl rfl fun K_r3_9 hK_r3_9 w hF => ?_
  have hs := hs.f hF
  refine sa _ rfl hk rfl rfl rfl fun a hk => ?_
  refine se trivial hk (hK_r3_9 _ _ fun w hF => ?_)
  have hs := hs.f hF
  refine hK2 _ _ ?_
  refine wp_ret ?_
  obtain rfl := Option.some.inj H
  exact fin hk _ [(.int .i64 (IntKind.wrap .i64 ((BitVec.ofInt 64 (IntKind.wrap .i64 ((BitVec.ofInt 64 (Int.fdiv x0 (2 ^ min x1.toNat 64)) ||| BitVec.ofInt 64 (IntKind.wrap .i64 (x0 * 2 ^ min (w64 (32 - x1)).toNat 64))).toNat : Int)) &&& BitVec.ofInt 64 4294967295).toNat : Int)))] rfl ⟨rfl, trivial⟩ ⟨rfl, (hs.pick [] rfl).dnil⟩

end Go.Proofs.Yteklgnhfgdhdiaa
