/- The functions that FnHex reaches: for each a model and the walk that shows that the Go code comes to it. -/
import Derived.Test.YtmgfkpfacdlfbaaT
namespace Go.Proofs.Ytmgfkpfacdlfbaa
open Go Go.Z Go.Proofs Go.MuLone Go.ChangeShapes Go.WideShapes Go.ChangeAt Go.RowKit
set_option linter.unusedVariables false
set_option linter.unusedSimpArgs false
noncomputable def spec_l00Source.f (l0 : List Int) : Option (S_l00Src) :=
  (some (⟨l0, 0, (Int.tmod (l0.length : Int) 1000)⟩ : S_l00Src))
set_option maxRecDepth 100000 in
set_option maxHeartbeats 0 in
theorem spec_l00Source_t (w0 : World) (A0_ : Option Addr) (p0_ : Nat) (l0 : List Int) (k0_ : Chunk) (v0_ : View (Lay.int .u8) A0_ p0_ l0 k0_) (w0_ : Has w0 k0_) (r : S_l00Src) (H : spec_l00Source.f l0 = some r) :
    Calls Try.prog 97 #[.slice A0_ l0.length p0_] w0 (Ret (fun v w => ∃ (bb0 : Nat), ∃ (A0 : Option Addr) (p0 : Nat), ∃ (kS : Chunk), v = .pointer (some ⟨bb0, 0, none⟩) ∧ View (Lay.int .u8) A0 p0 r.code (k0_ ++ kS) ∧ Sat [] w0 w [] [(0, [(bb0, .cells #[.slice A0 r.code.length p0, .int .i64 r.at_, .int .i64 r.seed] 165 (0, 0))]), (1, kS)])) := by
  have hs : Sat [] w0 w0 [(1, k0_)] [] := Sat.init w0 [(1, k0_)] [] (by simp only [List.mem_cons, List.not_mem_nil, or_false]; rintro x (rfl) <;> assumption) (by simp) List.nodup_nil (by simp [blks])
  unfold spec_l00Source.f at H
  refine enter Try.func97 rfl Try.ntmps97 rfl fun a hk => ?_
  apply wp_seq_k; intro K1 hK1
  apply wp_region_lit
  refine sa _ rfl hk rfl rfl rfl fun a hk => ?_
  show wpList _ _ _ [] _ _
  refine wpList_nil ?_
  refine hK1 _ _ ?_
  apply wp_seq_k; intro K2 hK2
  apply wp_region_lit
  refine sm _ rfl hk rfl rfl rfl fun a hk => ?_
  refine sm _ rfl hk rfl rfl rfl fun a hk => ?_
  refine sle rfl hk rfl rfl rfl un74 fun a hk => ?_
  refine sv (.int .i64 (Int.tmod (l0.length : Int) 1000)) hk rfl rfl rfl fun a hk => ?_
  refine sbd (pv := [(0, (.slice A0_ l0.length p0_)), (2, (.int .i64 (Int.tmod (l0.length : Int) 1000)))]) rfl hk rfl rfl rfl (bd165_0 A0_ l0.length p0_ (Int.tmod (l0.length : Int) 1000)) fun a hk => ?_
  refine sbx 2 hs rfl hk rfl rfl rfl rfl fun b3 w a hk hs => ?_
  refine sa _ rfl hk rfl rfl rfl fun a hk => ?_
  show wpList _ _ _ [] _ _
  refine wpList_nil ?_
  refine hK2 _ _ ?_
  refine wp_ret ?_
  obtain rfl := Option.some.inj H
  exact fin hk _ [(.pointer (some ⟨b3, 0, none⟩))] rfl ⟨rfl, trivial⟩ ⟨b3, A0_, p0_, _, rfl, (v0_).sub (Sub.l _ (Sub.refl _)), ((hs.addNil 3000).pick [(0, 2), (1, 3000)] rfl).dnil⟩

noncomputable def spec_l00Src_byte.f (x0 : S_l00Src) : Option (Int × Int × Int) :=
  (bif (decide ((w64 (x0.at_ + 1)) ≤ (x0.code.length : Int))) then (if 0 ≤ (w64 ((w64 (x0.at_ + 1)) - 1)) ∧ (w64 ((w64 (x0.at_ + 1)) - 1)) < (x0.code.length : Int) then (if 0 ≤ (w64 ((w64 (x0.at_ + 1)) - 1)) ∧ (w64 ((w64 (x0.at_ + 1)) - 1)) < (x0.code.length : Int) then (some ((IntKind.wrap .i64 (x0.code.getD (w64 ((w64 (x0.at_ + 1)) - 1)).toNat 0)), (w64 (x0.at_ + 1)), (Int.tmod (w64 ((w64 ((w64 (x0.seed * 31)) + (IntKind.wrap .i64 (x0.code.getD (w64 ((w64 (x0.at_ + 1)) - 1)).toNat 0)))) + 7)) 2147483648))) else none) else none) else (bif (decide ((w64 (x0.at_ + 1)) > 3000)) then (some (0, (w64 (x0.at_ + 1)), x0.seed)) else (some ((Int.tmod (IntKind.wrap .i64 (Int.tdiv (Int.tmod (w64 ((w64 (x0.seed * 1103515245)) + 12345)) 2147483648) 65536)) 256), (w64 (x0.at_ + 1)), (Int.tmod (w64 ((w64 (x0.seed * 1103515245)) + 12345)) 2147483648)))))
set_option maxRecDepth 100000 in
set_option maxHeartbeats 0 in
theorem spec_l00Src_byte_t (w0 : World) (b0_ : Nat) (x0 : S_l00Src) (A0_0 : Option Addr) (p0_0 : Nat) (k0_0 : Chunk) (v0_0 : View (Lay.int .u8) A0_0 p0_0 x0.code k0_0) (w0_0 : Has w0 k0_0) (hs0 : Sat (blks [(1, [(b0_, .cells #[.slice A0_0 x0.code.length p0_0, .int .i64 x0.at_, .int .i64 x0.seed] 165 (0, 0))])]) w0 w0 [(2, k0_0)] [(1, [(b0_, .cells #[.slice A0_0 x0.code.length p0_0, .int .i64 x0.at_, .int .i64 x0.seed] 165 (0, 0))])]) (r : Int × Int × Int) (H : spec_l00Src_byte.f x0 = some r) :
    Calls Try.prog 174 #[.pointer (some ⟨b0_, 0, none⟩)] w0 (Ret (fun v w => v = .int .i64 r.1 ∧ Sat (blks [(1, [(b0_, .cells #[.slice A0_0 x0.code.length p0_0, .int .i64 x0.at_, .int .i64 x0.seed] 165 (0, 0))])]) w0 w [] [(0, [(b0_, .cells #[.slice A0_0 x0.code.length p0_0, .int .i64 r.2.1, .int .i64 r.2.2] 165 (0, 0))])])) := by
  have hs := hs0
  unfold spec_l00Src_byte.f at H
  refine enter Try.func174 rfl Try.ntmps174 rfl fun a hk => ?_
  apply wp_seq_k; intro K1 hK1
  apply wp_region_lit
  refine sa _ rfl hk rfl rfl rfl fun a hk => ?_
  show wpList _ _ _ [] _ _
  refine wpList_nil ?_
  refine hK1 _ _ ?_
  apply wp_seq_k; intro K2 hK2
  apply wp_region_lit
  refine sm _ rfl hk rfl rfl rfl fun a hk => ?_
  refine snk rfl hk rfl rfl rfl fun a hk => ?_
  refine sf ⟨b0_, 1, none⟩ rfl hk rfl rfl rfl fd165_1 rfl fun a hk => ?_
  refine sl rfl hk rfl rfl rfl ag3 (box_cell hs (k := 1) rfl rfl) fun a hk => ?_
  refine sv (.int .i64 (w64 (x0.at_ + 1))) hk rfl rfl rfl fun a hk => ?_
  refine snk rfl hk rfl rfl rfl fun a hk => ?_
  refine sf ⟨b0_, 1, none⟩ rfl hk rfl rfl rfl fd165_1 rfl fun a hk => ?_
  refine ssx (cs' := #[.slice A0_0 x0.code.length p0_0, .int .i64 (w64 (x0.at_ + 1)), .int .i64 x0.seed]) 1 hs rfl rfl hk rfl rfl rfl rfl sz3 rfl rfl rfl rfl fun w a hk hs => ?_
  show wpList _ _ _ [] _ _
  refine wpList_nil ?_
  refine hK2 _ _ ?_
  apply wp_seq_k; intro K3 hK3
  apply wp_seq_k; intro K4 hK4
  refine wp_region_tree (.q 0 (.q 1 (.q 2 (.q 3 (.alt 4 (.alt 5 (.alt 6 (.alt 7 (.alt 8 (.alt 9 .done .stop) .stop) .stop) .stop) .stop) .stop))))) mo (by kernel_rfl) (hs.pick [(1, 1)] rfl) fun _ => ?_
  have hs := hs.drew
  refine tqst (.pointer (some ⟨b0_, 0, none⟩)) hk rfl rfl rfl rfl (fun w hs => sm _ rfl hk rfl rfl rfl fun a hk => qe hk) fun a hk => ?_
  refine tqst (.pointer (some ⟨b0_, 0, none⟩)) hk rfl rfl rfl rfl (fun w hs => snk rfl hk rfl rfl rfl fun a hk => qe hk) fun a hk => ?_
  refine tqst (.pointer (some ⟨b0_, 1, none⟩)) hk rfl rfl rfl rfl (fun w hs => sf ⟨b0_, 1, none⟩ rfl hk rfl rfl rfl fd165_1 rfl fun a hk => qe hk) fun a hk => ?_
  refine tqst (.int .i64 (w64 (x0.at_ + 1))) hk rfl rfl rfl rfl (fun w hs => sl rfl hk rfl rfl rfl ag3 (box_cell hs (k := 1) rfl rfl) fun a hk => qe hk) fun a hk => ?_
  refine tsst hk rfl rfl (fun K_r5_4 hK_r5_4 w hF => ?_) wt_stop
  have hs := hs.f hF
  refine sm _ rfl hk rfl rfl rfl fun a hk => ?_
  refine se (hs.pick [(1, 1)] rfl) hk (hK_r5_4 _ _ ?_)
  refine tsst hk rfl rfl (fun K_r5_5 hK_r5_5 w hF => ?_) wt_stop
  have hs := hs.f hF
  refine snk rfl hk rfl rfl rfl fun a hk => ?_
  refine se (hs.pick [(1, 1)] rfl) hk (hK_r5_5 _ _ ?_)
  refine tsst hk rfl rfl (fun K_r5_6 hK_r5_6 w hF => ?_) wt_stop
  have hs := hs.f hF
  refine sf ⟨b0_, 0, none⟩ rfl hk rfl rfl rfl fd165_0 rfl fun a hk => ?_
  refine se (hs.pick [(1, 1)] rfl) hk (hK_r5_6 _ _ ?_)
  refine tsst hk rfl rfl (fun K_r5_7 hK_r5_7 w hF => ?_) wt_stop
  have hs := hs.f hF
  refine sl rfl hk rfl rfl rfl ag74 (box_cell hs (k := 1) rfl rfl) fun a hk => ?_
  refine se (hs.pick [(1, 1)] rfl) hk (hK_r5_7 _ _ ?_)
  refine tsst hk rfl rfl (fun K_r5_8 hK_r5_8 w hF => ?_) wt_stop
  have hs := hs.f hF
  refine sle rfl hk rfl rfl rfl un74 fun a hk => ?_
  refine se (hs.pick [(1, 1)] rfl) hk (hK_r5_8 _ _ ?_)
  refine tsst hk rfl rfl (fun K_r5_9 hK_r5_9 w hF => ?_) wt_stop
  have hs := hs.f hF
  refine sv (.bool (decide ((w64 (x0.at_ + 1)) ≤ (x0.code.length : Int)))) hk rfl rfl rfl fun a hk => ?_
  refine se (hs.pick [(1, 1)] rfl) hk (hK_r5_9 _ _ ?_)
  refine wtl_nil fun w hF _ => ?_
  have hs := hs.f hF
  refine hK4 _ _ ?_
  rcases cond_some H with ⟨c6, H⟩ | ⟨c6, H⟩
  · have hk := hk.lit 19 c6 rfl
    refine cnd_true hk rfl rfl ?_
    apply wp_seq_k; intro K7 hK7
    rcases ite_some H with ⟨c_r8_15_1, H⟩ | ⟨_, H⟩
    rotate_left
    · cases H
    obtain ⟨R9, hR9⟩ : ∃ R : Act → World → Prop, R = fun a w => Kn [(0, (.pointer (some ⟨b0_, 0, none⟩)))] 76 a ∧ Sat (blks [(1, [(b0_, .cells #[.slice A0_0 x0.code.length p0_0, .int .i64 x0.at_, .int .i64 x0.seed] 165 (0, 0))])]) w0 w [(2, k0_0)] [(1, [(b0_, .cells #[.slice A0_0 x0.code.length p0_0, .int .i64 (w64 (x0.at_ + 1)), .int .i64 (Int.tmod (w64 ((w64 ((w64 (x0.seed * 31)) + (IntKind.wrap .i64 (x0.code.getD (w64 ((w64 (x0.at_ + 1)) - 1)).toNat 0)))) + 7)) 2147483648)] 165 (0, 0))])] := ⟨_, rfl⟩
    refine wp_cutq R9 ?_ ?_
    · skip
      refine wp_region_tree (.q 0 (.q 1 (.q 2 (.q 3 (.q 6 (.q 7 (.q 8 (.q 10 (.q 11 (.q 12 (.alt 4 (.q 5 (.alt 9 (.alt 13 (.alt 14 (.alt 15 (.alt 16 (.alt 17 (.alt 18 (.alt 19 (.alt 20 (.alt 21 (.alt 22 (.alt 23 .done .stop) .stop) .stop) .stop) .stop) .stop) .stop) .stop) .stop) .stop) .stop) (.alt 13 (.q 14 (.alt 9 (.alt 15 (.alt 16 (.alt 17 (.alt 18 (.alt 19 (.alt 20 (.alt 21 (.alt 22 (.alt 23 .done .stop) .stop) .stop) .stop) .stop) .stop) .stop) .stop) .stop) .stop)) .stop))) (.alt 9 (.alt 4 (.q 5 (.alt 13 (.alt 14 (.alt 15 (.alt 16 (.alt 17 (.alt 18 (.alt 19 (.alt 20 (.alt 21 (.alt 22 (.alt 23 .done .stop) .stop) .stop) .stop) .stop) .stop) .stop) .stop) .stop) .stop) .stop)) (.alt 13 (.q 14 (.q 15 (.q 16 (.q 17 (.alt 4 (.alt 5 (.alt 18 (.alt 19 (.alt 20 (.alt 21 (.alt 22 (.alt 23 .done .stop) .stop) .stop) .stop) .stop) .stop) .stop) .stop))))) .stop)) (.alt 13 (.q 14 (.alt 4 (.q 5 (.alt 9 (.alt 15 (.alt 16 (.alt 17 (.alt 18 (.alt 19 (.alt 20 (.alt 21 (.alt 22 (.alt 23 .done .stop) .stop) .stop) .stop) .stop) .stop) .stop) .stop) .stop) .stop)) (.alt 9 (.q 15 (.q 16 (.q 17 (.alt 4 (.alt 5 (.alt 18 (.alt 19 (.alt 20 (.alt 21 (.alt 22 (.alt 23 .done .stop) .stop) .stop) .stop) .stop) .stop) .stop) .stop)))) .stop))) .stop))))))))))))) mo (by kernel_rfl) (hs.pick [] rfl) fun _ => ?_
      have hs := hs.drew
      refine tqst (.pointer (some ⟨b0_, 0, none⟩)) hk rfl rfl rfl rfl (fun w hs => sm _ rfl hk rfl rfl rfl fun a hk => qe hk) fun a hk => ?_
      refine tqst (.pointer (some ⟨b0_, 0, none⟩)) hk rfl rfl rfl rfl (fun w hs => sm _ rfl hk rfl rfl rfl fun a hk => qe hk) fun a hk => ?_
      refine tqst (.pointer (some ⟨b0_, 0, none⟩)) hk rfl rfl rfl rfl (fun w hs => snk rfl hk rfl rfl rfl fun a hk => qe hk) fun a hk => ?_
      refine tqst (.pointer (some ⟨b0_, 2, none⟩)) hk rfl rfl rfl rfl (fun w hs => sf ⟨b0_, 2, none⟩ rfl hk rfl rfl rfl fd165_2 rfl fun a hk => qe hk) fun a hk => ?_
      refine tqst (.pointer (some ⟨b0_, 0, none⟩)) hk rfl rfl rfl rfl (fun w hs => sm _ rfl hk rfl rfl rfl fun a hk => qe hk) fun a hk => ?_
      refine tqst (.pointer (some ⟨b0_, 0, none⟩)) hk rfl rfl rfl rfl (fun w hs => snk rfl hk rfl rfl rfl fun a hk => qe hk) fun a hk => ?_
      refine tqst (.pointer (some ⟨b0_, 0, none⟩)) hk rfl rfl rfl rfl (fun w hs => sf ⟨b0_, 0, none⟩ rfl hk rfl rfl rfl fd165_0 rfl fun a hk => qe hk) fun a hk => ?_
      refine tqst (.pointer (some ⟨b0_, 0, none⟩)) hk rfl rfl rfl rfl (fun w hs => sm _ rfl hk rfl rfl rfl fun a hk => qe hk) fun a hk => ?_
      refine tqst (.pointer (some ⟨b0_, 0, none⟩)) hk rfl rfl rfl rfl (fun w hs => snk rfl hk rfl rfl rfl fun a hk => qe hk) fun a hk => ?_
      refine tqst (.pointer (some ⟨b0_, 1, none⟩)) hk rfl rfl rfl rfl (fun w hs => sf ⟨b0_, 1, none⟩ rfl hk rfl rfl rfl fd165_1 rfl fun a hk => qe hk) fun a hk => ?_
      refine tsst hk rfl rfl (fun K_r8_4 hK_r8_4 w hF => ?_) ?_
      · skip
        have hs := hs.f hF
        refine sl rfl hk rfl rfl rfl ag3 (box_cell hs (k := 1) rfl rfl) fun a hk => ?_
        refine se (hs.pick [] rfl) hk (hK_r8_4 _ _ ?_)
        refine tqst (.int .i64 (w64 (x0.seed * 31))) hk rfl rfl rfl rfl (fun w hs => sv (.int .i64 (w64 (x0.seed * 31))) hk rfl rfl rfl fun a hk => qe hk) fun a hk => ?_
        refine tsst hk rfl rfl (fun K_r8_9 hK_r8_9 w hF => ?_) ?_
        · skip
          have hs := hs.f hF
          refine sl rfl hk rfl rfl rfl ag74 (box_cell hs (k := 1) rfl rfl) fun a hk => ?_
          refine se (hs.pick [] rfl) hk (hK_r8_9 _ _ ?_)
          refine tsst hk rfl rfl (fun K_r8_13 hK_r8_13 w hF => ?_) wt_stop
          have hs := hs.f hF
          refine sl rfl hk rfl rfl rfl ag3 (box_cell hs (k := 1) rfl rfl) fun a hk => ?_
          refine se (hs.pick [] rfl) hk (hK_r8_13 _ _ ?_)
          refine tsst hk rfl rfl (fun K_r8_14 hK_r8_14 w hF => ?_) wt_stop
          have hs := hs.f hF
          refine sv (.int .i64 (w64 ((w64 (x0.at_ + 1)) - 1))) hk rfl rfl rfl fun a hk => ?_
          refine se (hs.pick [] rfl) hk (hK_r8_14 _ _ ?_)
          refine tsst hk rfl rfl (fun K_r8_15 hK_r8_15 w hF => ?_) wt_stop
          have hs := hs.f hF
          obtain ⟨b_r8_15_2, q_r8_15_3, hAc_r8_15_1⟩ := (v0_0).some_ (w64 ((w64 (x0.at_ + 1)) - 1)) c_r8_15_1.1 c_r8_15_1.2
          refine si rfl hk rfl rfl rfl rfl un74 sz5 c_r8_15_1.1 c_r8_15_1.2 hAc_r8_15_1 fun a hk => ?_
          refine se (hs.pick [] rfl) hk (hK_r8_15 _ _ ?_)
          refine tsst hk rfl rfl (fun K_r8_16 hK_r8_16 w hF => ?_) wt_stop
          have hs := hs.f hF
          obtain ⟨_, rfl, e_r8_16_1⟩ := (v0_0).at_ 0 (w64 ((w64 (x0.at_ + 1)) - 1)) c_r8_15_1.1 c_r8_15_1.2
          refine sl (v := (.int .u8 (x0.code.getD (w64 ((w64 (x0.at_ + 1)) - 1)).toNat 0))) rfl hk rfl rfl rfl ag5 ((e_r8_16_1 0 _ rfl).cell (hs.hasD (k := 2) rfl)) fun a hk => ?_
          refine se (hs.pick [] rfl) hk (hK_r8_16 _ _ ?_)
          refine tsst hk rfl rfl (fun K_r8_17 hK_r8_17 w hF => ?_) wt_stop
          have hs := hs.f hF
          refine scn rfl hk rfl rfl rfl un3 un5 fun a hk => ?_
          refine se (hs.pick [] rfl) hk (hK_r8_17 _ _ ?_)
          refine tsst hk rfl rfl (fun K_r8_18 hK_r8_18 w hF => ?_) wt_stop
          have hs := hs.f hF
          refine sv (.int .i64 (w64 ((w64 (x0.seed * 31)) + (IntKind.wrap .i64 (x0.code.getD (w64 ((w64 (x0.at_ + 1)) - 1)).toNat 0))))) hk rfl rfl rfl fun a hk => ?_
          refine se (hs.pick [] rfl) hk (hK_r8_18 _ _ ?_)
          refine tsst hk rfl rfl (fun K_r8_19 hK_r8_19 w hF => ?_) wt_stop
          have hs := hs.f hF
          refine sv (.int .i64 (w64 ((w64 ((w64 (x0.seed * 31)) + (IntKind.wrap .i64 (x0.code.getD (w64 ((w64 (x0.at_ + 1)) - 1)).toNat 0)))) + 7))) hk rfl rfl rfl fun a hk => ?_
          refine se (hs.pick [] rfl) hk (hK_r8_19 _ _ ?_)
          refine tsst hk rfl rfl (fun K_r8_20 hK_r8_20 w hF => ?_) wt_stop
          have hs := hs.f hF
          refine sv (.int .i64 (Int.tmod (w64 ((w64 ((w64 (x0.seed * 31)) + (IntKind.wrap .i64 (x0.code.getD (w64 ((w64 (x0.at_ + 1)) - 1)).toNat 0)))) + 7)) 2147483648)) hk rfl rfl rfl fun a hk => ?_
          refine se (hs.pick [] rfl) hk (hK_r8_20 _ _ ?_)
          refine tsst hk rfl rfl (fun K_r8_21 hK_r8_21 w hF => ?_) wt_stop
          have hs := hs.f hF
          refine snk rfl hk rfl rfl rfl fun a hk => ?_
          refine se (hs.pick [] rfl) hk (hK_r8_21 _ _ ?_)
          refine tsst hk rfl rfl (fun K_r8_22 hK_r8_22 w hF => ?_) wt_stop
          have hs := hs.f hF
          refine sf ⟨b0_, 2, none⟩ rfl hk rfl rfl rfl fd165_2 rfl fun a hk => ?_
          refine se (hs.pick [] rfl) hk (hK_r8_22 _ _ ?_)
          refine tsst hk rfl rfl (fun K_r8_23 hK_r8_23 w hF => ?_) wt_stop
          have hs := hs.f hF
          refine ssx (cs' := #[.slice A0_0 x0.code.length p0_0, .int .i64 (w64 (x0.at_ + 1)), .int .i64 (Int.tmod (w64 ((w64 ((w64 (x0.seed * 31)) + (IntKind.wrap .i64 (x0.code.getD (w64 ((w64 (x0.at_ + 1)) - 1)).toNat 0)))) + 7)) 2147483648)]) 1 hs rfl rfl hk rfl rfl rfl rfl sz3 rfl rfl rfl rfl fun w a hk hs => ?_
          refine se (hs.pick [] rfl) hk (hK_r8_23 _ _ ?_)
          refine wtl_nil fun w hF _ => ?_
          have hs := hs.f hF
          show R9 _ _
          rw [hR9]
          exact ⟨(hk.c 0 rfl hk.k), (hs.pick [(1, 1)] rfl)⟩
        refine tsst hk rfl rfl (fun K_r8_13 hK_r8_13 w hF => ?_) wt_stop
        have hs := hs.f hF
        refine sl rfl hk rfl rfl rfl ag3 (box_cell hs (k := 1) rfl rfl) fun a hk => ?_
        refine se (hs.pick [] rfl) hk (hK_r8_13 _ _ ?_)
        refine tqst (.int .i64 (w64 ((w64 (x0.at_ + 1)) - 1))) hk rfl rfl rfl rfl (fun w hs => sv (.int .i64 (w64 ((w64 (x0.at_ + 1)) - 1))) hk rfl rfl rfl fun a hk => qe hk) fun a hk => ?_
        refine tsst hk rfl rfl (fun K_r8_9 hK_r8_9 w hF => ?_) wt_stop
        have hs := hs.f hF
        refine sl rfl hk rfl rfl rfl ag74 (box_cell hs (k := 1) rfl rfl) fun a hk => ?_
        refine se (hs.pick [] rfl) hk (hK_r8_9 _ _ ?_)
        refine tsst hk rfl rfl (fun K_r8_15 hK_r8_15 w hF => ?_) wt_stop
        have hs := hs.f hF
        obtain ⟨b_r8_15_2, q_r8_15_3, hAc_r8_15_1⟩ := (v0_0).some_ (w64 ((w64 (x0.at_ + 1)) - 1)) c_r8_15_1.1 c_r8_15_1.2
        refine si rfl hk rfl rfl rfl rfl un74 sz5 c_r8_15_1.1 c_r8_15_1.2 hAc_r8_15_1 fun a hk => ?_
        refine se (hs.pick [] rfl) hk (hK_r8_15 _ _ ?_)
        refine tsst hk rfl rfl (fun K_r8_16 hK_r8_16 w hF => ?_) wt_stop
        have hs := hs.f hF
        obtain ⟨_, rfl, e_r8_16_1⟩ := (v0_0).at_ 0 (w64 ((w64 (x0.at_ + 1)) - 1)) c_r8_15_1.1 c_r8_15_1.2
        refine sl (v := (.int .u8 (x0.code.getD (w64 ((w64 (x0.at_ + 1)) - 1)).toNat 0))) rfl hk rfl rfl rfl ag5 ((e_r8_16_1 0 _ rfl).cell (hs.hasD (k := 2) rfl)) fun a hk => ?_
        refine se (hs.pick [] rfl) hk (hK_r8_16 _ _ ?_)
        refine tsst hk rfl rfl (fun K_r8_17 hK_r8_17 w hF => ?_) wt_stop
        have hs := hs.f hF
        refine scn rfl hk rfl rfl rfl un3 un5 fun a hk => ?_
        refine se (hs.pick [] rfl) hk (hK_r8_17 _ _ ?_)
        refine tsst hk rfl rfl (fun K_r8_18 hK_r8_18 w hF => ?_) wt_stop
        have hs := hs.f hF
        refine sv (.int .i64 (w64 ((w64 (x0.seed * 31)) + (IntKind.wrap .i64 (x0.code.getD (w64 ((w64 (x0.at_ + 1)) - 1)).toNat 0))))) hk rfl rfl rfl fun a hk => ?_
        refine se (hs.pick [] rfl) hk (hK_r8_18 _ _ ?_)
        refine tsst hk rfl rfl (fun K_r8_19 hK_r8_19 w hF => ?_) wt_stop
        have hs := hs.f hF
        refine sv (.int .i64 (w64 ((w64 ((w64 (x0.seed * 31)) + (IntKind.wrap .i64 (x0.code.getD (w64 ((w64 (x0.at_ + 1)) - 1)).toNat 0)))) + 7))) hk rfl rfl rfl fun a hk => ?_
        refine se (hs.pick [] rfl) hk (hK_r8_19 _ _ ?_)
        refine tsst hk rfl rfl (fun K_r8_20 hK_r8_20 w hF => ?_) wt_stop
        have hs := hs.f hF
        refine sv (.int .i64 (Int.tmod (w64 ((w64 ((w64 (x0.seed * 31)) + (IntKind.wrap .i64 (x0.code.getD (w64 ((w64 (x0.at_ + 1)) - 1)).toNat 0)))) + 7)) 2147483648)) hk rfl rfl rfl fun a hk => ?_
        refine se (hs.pick [] rfl) hk (hK_r8_20 _ _ ?_)
        refine tsst hk rfl rfl (fun K_r8_21 hK_r8_21 w hF => ?_) wt_stop
        have hs := hs.f hF
        refine snk rfl hk rfl rfl rfl fun a hk => ?_
        refine se (hs.pick [] rfl) hk (hK_r8_21 _ _ ?_)
        refine tsst hk rfl rfl (fun K_r8_22 hK_r8_22 w hF => ?_) wt_stop
        have hs := hs.f hF
        refine sf ⟨b0_, 2, none⟩ rfl hk rfl rfl rfl fd165_2 rfl fun a hk => ?_
        refine se (hs.pick [] rfl) hk (hK_r8_22 _ _ ?_)
        refine tsst hk rfl rfl (fun K_r8_23 hK_r8_23 w hF => ?_) wt_stop
        have hs := hs.f hF
        refine ssx (cs' := #[.slice A0_0 x0.code.length p0_0, .int .i64 (w64 (x0.at_ + 1)), .int .i64 (Int.tmod (w64 ((w64 ((w64 (x0.seed * 31)) + (IntKind.wrap .i64 (x0.code.getD (w64 ((w64 (x0.at_ + 1)) - 1)).toNat 0)))) + 7)) 2147483648)]) 1 hs rfl rfl hk rfl rfl rfl rfl sz3 rfl rfl rfl rfl fun w a hk hs => ?_
        refine se (hs.pick [] rfl) hk (hK_r8_23 _ _ ?_)
        refine wtl_nil fun w hF _ => ?_
        have hs := hs.f hF
        show R9 _ _
        rw [hR9]
        exact ⟨(hk.c 0 rfl hk.k), (hs.pick [(1, 1)] rfl)⟩
      refine tsst hk rfl rfl (fun K_r8_9 hK_r8_9 w hF => ?_) ?_
      · skip
        have hs := hs.f hF
        refine sl rfl hk rfl rfl rfl ag74 (box_cell hs (k := 1) rfl rfl) fun a hk => ?_
        refine se (hs.pick [] rfl) hk (hK_r8_9 _ _ ?_)
        refine tsst hk rfl rfl (fun K_r8_4 hK_r8_4 w hF => ?_) ?_
        · skip
          have hs := hs.f hF
          refine sl rfl hk rfl rfl rfl ag3 (box_cell hs (k := 1) rfl rfl) fun a hk => ?_
          refine se (hs.pick [] rfl) hk (hK_r8_4 _ _ ?_)
          refine tqst (.int .i64 (w64 (x0.seed * 31))) hk rfl rfl rfl rfl (fun w hs => sv (.int .i64 (w64 (x0.seed * 31))) hk rfl rfl rfl fun a hk => qe hk) fun a hk => ?_
          refine tsst hk rfl rfl (fun K_r8_13 hK_r8_13 w hF => ?_) wt_stop
          have hs := hs.f hF
          refine sl rfl hk rfl rfl rfl ag3 (box_cell hs (k := 1) rfl rfl) fun a hk => ?_
          refine se (hs.pick [] rfl) hk (hK_r8_13 _ _ ?_)
          refine tsst hk rfl rfl (fun K_r8_14 hK_r8_14 w hF => ?_) wt_stop
          have hs := hs.f hF
          refine sv (.int .i64 (w64 ((w64 (x0.at_ + 1)) - 1))) hk rfl rfl rfl fun a hk => ?_
          refine se (hs.pick [] rfl) hk (hK_r8_14 _ _ ?_)
          refine tsst hk rfl rfl (fun K_r8_15 hK_r8_15 w hF => ?_) wt_stop
          have hs := hs.f hF
          obtain ⟨b_r8_15_2, q_r8_15_3, hAc_r8_15_1⟩ := (v0_0).some_ (w64 ((w64 (x0.at_ + 1)) - 1)) c_r8_15_1.1 c_r8_15_1.2
          refine si rfl hk rfl rfl rfl rfl un74 sz5 c_r8_15_1.1 c_r8_15_1.2 hAc_r8_15_1 fun a hk => ?_
          refine se (hs.pick [] rfl) hk (hK_r8_15 _ _ ?_)
          refine tsst hk rfl rfl (fun K_r8_16 hK_r8_16 w hF => ?_) wt_stop
          have hs := hs.f hF
          obtain ⟨_, rfl, e_r8_16_1⟩ := (v0_0).at_ 0 (w64 ((w64 (x0.at_ + 1)) - 1)) c_r8_15_1.1 c_r8_15_1.2
          refine sl (v := (.int .u8 (x0.code.getD (w64 ((w64 (x0.at_ + 1)) - 1)).toNat 0))) rfl hk rfl rfl rfl ag5 ((e_r8_16_1 0 _ rfl).cell (hs.hasD (k := 2) rfl)) fun a hk => ?_
          refine se (hs.pick [] rfl) hk (hK_r8_16 _ _ ?_)
          refine tsst hk rfl rfl (fun K_r8_17 hK_r8_17 w hF => ?_) wt_stop
          have hs := hs.f hF
          refine scn rfl hk rfl rfl rfl un3 un5 fun a hk => ?_
          refine se (hs.pick [] rfl) hk (hK_r8_17 _ _ ?_)
          refine tsst hk rfl rfl (fun K_r8_18 hK_r8_18 w hF => ?_) wt_stop
          have hs := hs.f hF
          refine sv (.int .i64 (w64 ((w64 (x0.seed * 31)) + (IntKind.wrap .i64 (x0.code.getD (w64 ((w64 (x0.at_ + 1)) - 1)).toNat 0))))) hk rfl rfl rfl fun a hk => ?_
          refine se (hs.pick [] rfl) hk (hK_r8_18 _ _ ?_)
          refine tsst hk rfl rfl (fun K_r8_19 hK_r8_19 w hF => ?_) wt_stop
          have hs := hs.f hF
          refine sv (.int .i64 (w64 ((w64 ((w64 (x0.seed * 31)) + (IntKind.wrap .i64 (x0.code.getD (w64 ((w64 (x0.at_ + 1)) - 1)).toNat 0)))) + 7))) hk rfl rfl rfl fun a hk => ?_
          refine se (hs.pick [] rfl) hk (hK_r8_19 _ _ ?_)
          refine tsst hk rfl rfl (fun K_r8_20 hK_r8_20 w hF => ?_) wt_stop
          have hs := hs.f hF
          refine sv (.int .i64 (Int.tmod (w64 ((w64 ((w64 (x0.seed * 31)) + (IntKind.wrap .i64 (x0.code.getD (w64 ((w64 (x0.at_ + 1)) - 1)).toNat 0)))) + 7)) 2147483648)) hk rfl rfl rfl fun a hk => ?_
          refine se (hs.pick [] rfl) hk (hK_r8_20 _ _ ?_)
          refine tsst hk rfl rfl (fun K_r8_21 hK_r8_21 w hF => ?_) wt_stop
          have hs := hs.f hF
          refine snk rfl hk rfl rfl rfl fun a hk => ?_
          refine se (hs.pick [] rfl) hk (hK_r8_21 _ _ ?_)
          refine tsst hk rfl rfl (fun K_r8_22 hK_r8_22 w hF => ?_) wt_stop
          have hs := hs.f hF
          refine sf ⟨b0_, 2, none⟩ rfl hk rfl rfl rfl fd165_2 rfl fun a hk => ?_
          refine se (hs.pick [] rfl) hk (hK_r8_22 _ _ ?_)
          refine tsst hk rfl rfl (fun K_r8_23 hK_r8_23 w hF => ?_) wt_stop
          have hs := hs.f hF
          refine ssx (cs' := #[.slice A0_0 x0.code.length p0_0, .int .i64 (w64 (x0.at_ + 1)), .int .i64 (Int.tmod (w64 ((w64 ((w64 (x0.seed * 31)) + (IntKind.wrap .i64 (x0.code.getD (w64 ((w64 (x0.at_ + 1)) - 1)).toNat 0)))) + 7)) 2147483648)]) 1 hs rfl rfl hk rfl rfl rfl rfl sz3 rfl rfl rfl rfl fun w a hk hs => ?_
          refine se (hs.pick [] rfl) hk (hK_r8_23 _ _ ?_)
          refine wtl_nil fun w hF _ => ?_
          have hs := hs.f hF
          show R9 _ _
          rw [hR9]
          exact ⟨(hk.c 0 rfl hk.k), (hs.pick [(1, 1)] rfl)⟩
        refine tsst hk rfl rfl (fun K_r8_13 hK_r8_13 w hF => ?_) wt_stop
        have hs := hs.f hF
        refine sl rfl hk rfl rfl rfl ag3 (box_cell hs (k := 1) rfl rfl) fun a hk => ?_
        refine se (hs.pick [] rfl) hk (hK_r8_13 _ _ ?_)
        refine tqst (.int .i64 (w64 ((w64 (x0.at_ + 1)) - 1))) hk rfl rfl rfl rfl (fun w hs => sv (.int .i64 (w64 ((w64 (x0.at_ + 1)) - 1))) hk rfl rfl rfl fun a hk => qe hk) fun a hk => ?_
        obtain ⟨b_r8_15_2, q_r8_15_3, hAc_r8_15_1⟩ := (v0_0).some_ (w64 ((w64 (x0.at_ + 1)) - 1)) c_r8_15_1.1 c_r8_15_1.2
        refine tqst (.pointer (some (padd A0_0 ((w64 ((w64 (x0.at_ + 1)) - 1)).toNat * 1)))) hk rfl rfl rfl rfl (fun w hs => si rfl hk rfl rfl rfl rfl un74 sz5 c_r8_15_1.1 c_r8_15_1.2 hAc_r8_15_1 fun a hk => qe hk) fun a hk => ?_
        obtain ⟨_, rfl, e_r8_16_1⟩ := (v0_0).at_ 0 (w64 ((w64 (x0.at_ + 1)) - 1)) c_r8_15_1.1 c_r8_15_1.2
        refine tqst (.int .u8 (x0.code.getD (w64 ((w64 (x0.at_ + 1)) - 1)).toNat 0)) hk rfl rfl rfl rfl (fun w hs => sl (v := (.int .u8 (x0.code.getD (w64 ((w64 (x0.at_ + 1)) - 1)).toNat 0))) rfl hk rfl rfl rfl ag5 ((e_r8_16_1 0 _ rfl).cell (hs.hasD (k := 2) rfl)) fun a hk => qe hk) fun a hk => ?_
        refine tqst (.int .i64 (IntKind.wrap .i64 (x0.code.getD (w64 ((w64 (x0.at_ + 1)) - 1)).toNat 0))) hk rfl rfl rfl rfl (fun w hs => scn rfl hk rfl rfl rfl un3 un5 fun a hk => qe hk) fun a hk => ?_
        refine tsst hk rfl rfl (fun K_r8_4 hK_r8_4 w hF => ?_) wt_stop
        have hs := hs.f hF
        refine sl rfl hk rfl rfl rfl ag3 (box_cell hs (k := 1) rfl rfl) fun a hk => ?_
        refine se (hs.pick [] rfl) hk (hK_r8_4 _ _ ?_)
        refine tsst hk rfl rfl (fun K_r8_5 hK_r8_5 w hF => ?_) wt_stop
        have hs := hs.f hF
        refine sv (.int .i64 (w64 (x0.seed * 31))) hk rfl rfl rfl fun a hk => ?_
        refine se (hs.pick [] rfl) hk (hK_r8_5 _ _ ?_)
        refine tsst hk rfl rfl (fun K_r8_18 hK_r8_18 w hF => ?_) wt_stop
        have hs := hs.f hF
        refine sv (.int .i64 (w64 ((w64 (x0.seed * 31)) + (IntKind.wrap .i64 (x0.code.getD (w64 ((w64 (x0.at_ + 1)) - 1)).toNat 0))))) hk rfl rfl rfl fun a hk => ?_
        refine se (hs.pick [] rfl) hk (hK_r8_18 _ _ ?_)
        refine tsst hk rfl rfl (fun K_r8_19 hK_r8_19 w hF => ?_) wt_stop
        have hs := hs.f hF
        refine sv (.int .i64 (w64 ((w64 ((w64 (x0.seed * 31)) + (IntKind.wrap .i64 (x0.code.getD (w64 ((w64 (x0.at_ + 1)) - 1)).toNat 0)))) + 7))) hk rfl rfl rfl fun a hk => ?_
        refine se (hs.pick [] rfl) hk (hK_r8_19 _ _ ?_)
        refine tsst hk rfl rfl (fun K_r8_20 hK_r8_20 w hF => ?_) wt_stop
        have hs := hs.f hF
        refine sv (.int .i64 (Int.tmod (w64 ((w64 ((w64 (x0.seed * 31)) + (IntKind.wrap .i64 (x0.code.getD (w64 ((w64 (x0.at_ + 1)) - 1)).toNat 0)))) + 7)) 2147483648)) hk rfl rfl rfl fun a hk => ?_
        refine se (hs.pick [] rfl) hk (hK_r8_20 _ _ ?_)
        refine tsst hk rfl rfl (fun K_r8_21 hK_r8_21 w hF => ?_) wt_stop
        have hs := hs.f hF
        refine snk rfl hk rfl rfl rfl fun a hk => ?_
        refine se (hs.pick [] rfl) hk (hK_r8_21 _ _ ?_)
        refine tsst hk rfl rfl (fun K_r8_22 hK_r8_22 w hF => ?_) wt_stop
        have hs := hs.f hF
        refine sf ⟨b0_, 2, none⟩ rfl hk rfl rfl rfl fd165_2 rfl fun a hk => ?_
        refine se (hs.pick [] rfl) hk (hK_r8_22 _ _ ?_)
        refine tsst hk rfl rfl (fun K_r8_23 hK_r8_23 w hF => ?_) wt_stop
        have hs := hs.f hF
        refine ssx (cs' := #[.slice A0_0 x0.code.length p0_0, .int .i64 (w64 (x0.at_ + 1)), .int .i64 (Int.tmod (w64 ((w64 ((w64 (x0.seed * 31)) + (IntKind.wrap .i64 (x0.code.getD (w64 ((w64 (x0.at_ + 1)) - 1)).toNat 0)))) + 7)) 2147483648)]) 1 hs rfl rfl hk rfl rfl rfl rfl sz3 rfl rfl rfl rfl fun w a hk hs => ?_
        refine se (hs.pick [] rfl) hk (hK_r8_23 _ _ ?_)
        refine wtl_nil fun w hF _ => ?_
        have hs := hs.f hF
        show R9 _ _
        rw [hR9]
        exact ⟨(hk.c 0 rfl hk.k), (hs.pick [(1, 1)] rfl)⟩
      refine tsst hk rfl rfl (fun K_r8_13 hK_r8_13 w hF => ?_) wt_stop
      have hs := hs.f hF
      refine sl rfl hk rfl rfl rfl ag3 (box_cell hs (k := 1) rfl rfl) fun a hk => ?_
      refine se (hs.pick [] rfl) hk (hK_r8_13 _ _ ?_)
      refine tqst (.int .i64 (w64 ((w64 (x0.at_ + 1)) - 1))) hk rfl rfl rfl rfl (fun w hs => sv (.int .i64 (w64 ((w64 (x0.at_ + 1)) - 1))) hk rfl rfl rfl fun a hk => qe hk) fun a hk => ?_
      refine tsst hk rfl rfl (fun K_r8_4 hK_r8_4 w hF => ?_) ?_
      · skip
        have hs := hs.f hF
        refine sl rfl hk rfl rfl rfl ag3 (box_cell hs (k := 1) rfl rfl) fun a hk => ?_
        refine se (hs.pick [] rfl) hk (hK_r8_4 _ _ ?_)
        refine tqst (.int .i64 (w64 (x0.seed * 31))) hk rfl rfl rfl rfl (fun w hs => sv (.int .i64 (w64 (x0.seed * 31))) hk rfl rfl rfl fun a hk => qe hk) fun a hk => ?_
        refine tsst hk rfl rfl (fun K_r8_9 hK_r8_9 w hF => ?_) wt_stop
        have hs := hs.f hF
        refine sl rfl hk rfl rfl rfl ag74 (box_cell hs (k := 1) rfl rfl) fun a hk => ?_
        refine se (hs.pick [] rfl) hk (hK_r8_9 _ _ ?_)
        refine tsst hk rfl rfl (fun K_r8_15 hK_r8_15 w hF => ?_) wt_stop
        have hs := hs.f hF
        obtain ⟨b_r8_15_2, q_r8_15_3, hAc_r8_15_1⟩ := (v0_0).some_ (w64 ((w64 (x0.at_ + 1)) - 1)) c_r8_15_1.1 c_r8_15_1.2
        refine si rfl hk rfl rfl rfl rfl un74 sz5 c_r8_15_1.1 c_r8_15_1.2 hAc_r8_15_1 fun a hk => ?_
        refine se (hs.pick [] rfl) hk (hK_r8_15 _ _ ?_)
        refine tsst hk rfl rfl (fun K_r8_16 hK_r8_16 w hF => ?_) wt_stop
        have hs := hs.f hF
        obtain ⟨_, rfl, e_r8_16_1⟩ := (v0_0).at_ 0 (w64 ((w64 (x0.at_ + 1)) - 1)) c_r8_15_1.1 c_r8_15_1.2
        refine sl (v := (.int .u8 (x0.code.getD (w64 ((w64 (x0.at_ + 1)) - 1)).toNat 0))) rfl hk rfl rfl rfl ag5 ((e_r8_16_1 0 _ rfl).cell (hs.hasD (k := 2) rfl)) fun a hk => ?_
        refine se (hs.pick [] rfl) hk (hK_r8_16 _ _ ?_)
        refine tsst hk rfl rfl (fun K_r8_17 hK_r8_17 w hF => ?_) wt_stop
        have hs := hs.f hF
        refine scn rfl hk rfl rfl rfl un3 un5 fun a hk => ?_
        refine se (hs.pick [] rfl) hk (hK_r8_17 _ _ ?_)
        refine tsst hk rfl rfl (fun K_r8_18 hK_r8_18 w hF => ?_) wt_stop
        have hs := hs.f hF
        refine sv (.int .i64 (w64 ((w64 (x0.seed * 31)) + (IntKind.wrap .i64 (x0.code.getD (w64 ((w64 (x0.at_ + 1)) - 1)).toNat 0))))) hk rfl rfl rfl fun a hk => ?_
        refine se (hs.pick [] rfl) hk (hK_r8_18 _ _ ?_)
        refine tsst hk rfl rfl (fun K_r8_19 hK_r8_19 w hF => ?_) wt_stop
        have hs := hs.f hF
        refine sv (.int .i64 (w64 ((w64 ((w64 (x0.seed * 31)) + (IntKind.wrap .i64 (x0.code.getD (w64 ((w64 (x0.at_ + 1)) - 1)).toNat 0)))) + 7))) hk rfl rfl rfl fun a hk => ?_
        refine se (hs.pick [] rfl) hk (hK_r8_19 _ _ ?_)
        refine tsst hk rfl rfl (fun K_r8_20 hK_r8_20 w hF => ?_) wt_stop
        have hs := hs.f hF
        refine sv (.int .i64 (Int.tmod (w64 ((w64 ((w64 (x0.seed * 31)) + (IntKind.wrap .i64 (x0.code.getD (w64 ((w64 (x0.at_ + 1)) - 1)).toNat 0)))) + 7)) 2147483648)) hk rfl rfl rfl fun a hk => ?_
        refine se (hs.pick [] rfl) hk (hK_r8_20 _ _ ?_)
        refine tsst hk rfl rfl (fun K_r8_21 hK_r8_21 w hF => ?_) wt_stop
        have hs := hs.f hF
        refine snk rfl hk rfl rfl rfl fun a hk => ?_
        refine se (hs.pick [] rfl) hk (hK_r8_21 _ _ ?_)
        refine tsst hk rfl rfl (fun K_r8_22 hK_r8_22 w hF => ?_) wt_stop
        have hs := hs.f hF
        refine sf ⟨b0_, 2, none⟩ rfl hk rfl rfl rfl fd165_2 rfl fun a hk => ?_
        refine se (hs.pick [] rfl) hk (hK_r8_22 _ _ ?_)
        refine tsst hk rfl rfl (fun K_r8_23 hK_r8_23 w hF => ?_) wt_stop
        have hs := hs.f hF
        refine ssx (cs' := #[.slice A0_0 x0.code.length p0_0, .int .i64 (w64 (x0.at_ + 1)), .int .i64 (Int.tmod (w64 ((w64 ((w64 (x0.seed * 31)) + (IntKind.wrap .i64 (x0.code.getD (w64 ((w64 (x0.at_ + 1)) - 1)).toNat 0)))) + 7)) 2147483648)]) 1 hs rfl rfl hk rfl rfl rfl rfl sz3 rfl rfl rfl rfl fun w a hk hs => ?_
        refine se (hs.pick [] rfl) hk (hK_r8_23 _ _ ?_)
        refine wtl_nil fun w hF _ => ?_
        have hs := hs.f hF
        show R9 _ _
        rw [hR9]
        exact ⟨(hk.c 0 rfl hk.k), (hs.pick [(1, 1)] rfl)⟩
      refine tsst hk rfl rfl (fun K_r8_9 hK_r8_9 w hF => ?_) wt_stop
      have hs := hs.f hF
      refine sl rfl hk rfl rfl rfl ag74 (box_cell hs (k := 1) rfl rfl) fun a hk => ?_
      refine se (hs.pick [] rfl) hk (hK_r8_9 _ _ ?_)
      obtain ⟨b_r8_15_2, q_r8_15_3, hAc_r8_15_1⟩ := (v0_0).some_ (w64 ((w64 (x0.at_ + 1)) - 1)) c_r8_15_1.1 c_r8_15_1.2
      refine tqst (.pointer (some (padd A0_0 ((w64 ((w64 (x0.at_ + 1)) - 1)).toNat * 1)))) hk rfl rfl rfl rfl (fun w hs => si rfl hk rfl rfl rfl rfl un74 sz5 c_r8_15_1.1 c_r8_15_1.2 hAc_r8_15_1 fun a hk => qe hk) fun a hk => ?_
      obtain ⟨_, rfl, e_r8_16_1⟩ := (v0_0).at_ 0 (w64 ((w64 (x0.at_ + 1)) - 1)) c_r8_15_1.1 c_r8_15_1.2
      refine tqst (.int .u8 (x0.code.getD (w64 ((w64 (x0.at_ + 1)) - 1)).toNat 0)) hk rfl rfl rfl rfl (fun w hs => sl (v := (.int .u8 (x0.code.getD (w64 ((w64 (x0.at_ + 1)) - 1)).toNat 0))) rfl hk rfl rfl rfl ag5 ((e_r8_16_1 0 _ rfl).cell (hs.hasD (k := 2) rfl)) fun a hk => qe hk) fun a hk => ?_
      refine tqst (.int .i64 (IntKind.wrap .i64 (x0.code.getD (w64 ((w64 (x0.at_ + 1)) - 1)).toNat 0))) hk rfl rfl rfl rfl (fun w hs => scn rfl hk rfl rfl rfl un3 un5 fun a hk => qe hk) fun a hk => ?_
      refine tsst hk rfl rfl (fun K_r8_4 hK_r8_4 w hF => ?_) wt_stop
      have hs := hs.f hF
      refine sl rfl hk rfl rfl rfl ag3 (box_cell hs (k := 1) rfl rfl) fun a hk => ?_
      refine se (hs.pick [] rfl) hk (hK_r8_4 _ _ ?_)
      refine tsst hk rfl rfl (fun K_r8_5 hK_r8_5 w hF => ?_) wt_stop
      have hs := hs.f hF
      refine sv (.int .i64 (w64 (x0.seed * 31))) hk rfl rfl rfl fun a hk => ?_
      refine se (hs.pick [] rfl) hk (hK_r8_5 _ _ ?_)
      refine tsst hk rfl rfl (fun K_r8_18 hK_r8_18 w hF => ?_) wt_stop
      have hs := hs.f hF
      refine sv (.int .i64 (w64 ((w64 (x0.seed * 31)) + (IntKind.wrap .i64 (x0.code.getD (w64 ((w64 (x0.at_ + 1)) - 1)).toNat 0))))) hk rfl rfl rfl fun a hk => ?_
      refine se (hs.pick [] rfl) hk (hK_r8_18 _ _ ?_)
      refine tsst hk rfl rfl (fun K_r8_19 hK_r8_19 w hF => ?_) wt_stop
      have hs := hs.f hF
      refine sv (.int .i64 (w64 ((w64 ((w64 (x0.seed * 31)) + (IntKind.wrap .i64 (x0.code.getD (w64 ((w64 (x0.at_ + 1)) - 1)).toNat 0)))) + 7))) hk rfl rfl rfl fun a hk => ?_
      refine se (hs.pick [] rfl) hk (hK_r8_19 _ _ ?_)
      refine tsst hk rfl rfl (fun K_r8_20 hK_r8_20 w hF => ?_) wt_stop
      have hs := hs.f hF
      refine sv (.int .i64 (Int.tmod (w64 ((w64 ((w64 (x0.seed * 31)) + (IntKind.wrap .i64 (x0.code.getD (w64 ((w64 (x0.at_ + 1)) - 1)).toNat 0)))) + 7)) 2147483648)) hk rfl rfl rfl fun a hk => ?_
      refine se (hs.pick [] rfl) hk (hK_r8_20 _ _ ?_)
      refine tsst hk rfl rfl (fun K_r8_21 hK_r8_21 w hF => ?_) wt_stop
      have hs := hs.f hF
      refine snk rfl hk rfl rfl rfl fun a hk => ?_
      refine se (hs.pick [] rfl) hk (hK_r8_21 _ _ ?_)
      refine tsst hk rfl rfl (fun K_r8_22 hK_r8_22 w hF => ?_) wt_stop
      have hs := hs.f hF
      refine sf ⟨b0_, 2, none⟩ rfl hk rfl rfl rfl fd165_2 rfl fun a hk => ?_
      refine se (hs.pick [] rfl) hk (hK_r8_22 _ _ ?_)
      refine tsst hk rfl rfl (fun K_r8_23 hK_r8_23 w hF => ?_) wt_stop
      have hs := hs.f hF
      refine ssx (cs' := #[.slice A0_0 x0.code.length p0_0, .int .i64 (w64 (x0.at_ + 1)), .int .i64 (Int.tmod (w64 ((w64 ((w64 (x0.seed * 31)) + (IntKind.wrap .i64 (x0.code.getD (w64 ((w64 (x0.at_ + 1)) - 1)).toNat 0)))) + 7)) 2147483648)]) 1 hs rfl rfl hk rfl rfl rfl rfl sz3 rfl rfl rfl rfl fun w a hk hs => ?_
      refine se (hs.pick [] rfl) hk (hK_r8_23 _ _ ?_)
      refine wtl_nil fun w hF _ => ?_
      have hs := hs.f hF
      show R9 _ _
      rw [hR9]
      exact ⟨(hk.c 0 rfl hk.k), (hs.pick [(1, 1)] rfl)⟩
    · intro a w hR0
      rw [hR9] at hR0
      obtain ⟨hk, hs⟩ := hR0
      refine hK7 _ _ ?_
      apply wp_seq_k; intro K10 hK10
      refine wp_region_tree (.q 0 (.q 1 (.q 2 (.q 3 (.alt 4 (.alt 5 (.alt 6 (.alt 7 (.alt 8 (.alt 9 (.alt 10 (.alt 11 (.last 12) .stop) .stop) .stop) .stop) .stop) .stop) .stop) .stop))))) mo (by kernel_rfl) (hs.pick [(1, 1)] rfl) fun _ => ?_
      have hs := hs.drew
      refine tqst (.pointer (some ⟨b0_, 0, none⟩)) hk rfl rfl rfl rfl (fun w hs => sm _ rfl hk rfl rfl rfl fun a hk => qe hk) fun a hk => ?_
      refine tqst (.pointer (some ⟨b0_, 0, none⟩)) hk rfl rfl rfl rfl (fun w hs => snk rfl hk rfl rfl rfl fun a hk => qe hk) fun a hk => ?_
      refine tqst (.pointer (some ⟨b0_, 0, none⟩)) hk rfl rfl rfl rfl (fun w hs => sf ⟨b0_, 0, none⟩ rfl hk rfl rfl rfl fd165_0 rfl fun a hk => qe hk) fun a hk => ?_
      refine tqst (.slice A0_0 x0.code.length p0_0) hk rfl rfl rfl rfl (fun w hs => sl rfl hk rfl rfl rfl ag74 (box_cell hs (k := 1) rfl rfl) fun a hk => qe hk) fun a hk => ?_
      refine tsst hk rfl rfl (fun K_r11_4 hK_r11_4 w hF => ?_) wt_stop
      have hs := hs.f hF
      refine sm _ rfl hk rfl rfl rfl fun a hk => ?_
      refine se (hs.pick [(1, 1)] rfl) hk (hK_r11_4 _ _ ?_)
      refine tsst hk rfl rfl (fun K_r11_5 hK_r11_5 w hF => ?_) wt_stop
      have hs := hs.f hF
      refine snk rfl hk rfl rfl rfl fun a hk => ?_
      refine se (hs.pick [(1, 1)] rfl) hk (hK_r11_5 _ _ ?_)
      refine tsst hk rfl rfl (fun K_r11_6 hK_r11_6 w hF => ?_) wt_stop
      have hs := hs.f hF
      refine sf ⟨b0_, 1, none⟩ rfl hk rfl rfl rfl fd165_1 rfl fun a hk => ?_
      refine se (hs.pick [(1, 1)] rfl) hk (hK_r11_6 _ _ ?_)
      refine tsst hk rfl rfl (fun K_r11_7 hK_r11_7 w hF => ?_) wt_stop
      have hs := hs.f hF
      refine sl rfl hk rfl rfl rfl ag3 (box_cell hs (k := 1) rfl rfl) fun a hk => ?_
      refine se (hs.pick [(1, 1)] rfl) hk (hK_r11_7 _ _ ?_)
      refine tsst hk rfl rfl (fun K_r11_8 hK_r11_8 w hF => ?_) wt_stop
      have hs := hs.f hF
      refine sv (.int .i64 (w64 ((w64 (x0.at_ + 1)) - 1))) hk rfl rfl rfl fun a hk => ?_
      refine se (hs.pick [(1, 1)] rfl) hk (hK_r11_8 _ _ ?_)
      refine tsst hk rfl rfl (fun K_r11_9 hK_r11_9 w hF => ?_) wt_stop
      have hs := hs.f hF
      rcases ite_some H with ⟨c12, H⟩ | ⟨_, H⟩
      rotate_left
      · cases H
      obtain ⟨b13, q14, hAc12⟩ := (v0_0).some_ (w64 ((w64 (x0.at_ + 1)) - 1)) c12.1 c12.2
      refine si rfl hk rfl rfl rfl rfl un74 sz5 c12.1 c12.2 hAc12 fun a hk => ?_
      refine se (hs.pick [(1, 1)] rfl) hk (hK_r11_9 _ _ ?_)
      refine tsst hk rfl rfl (fun K_r11_10 hK_r11_10 w hF => ?_) wt_stop
      have hs := hs.f hF
      obtain ⟨_, rfl, e15⟩ := (v0_0).at_ 0 (w64 ((w64 (x0.at_ + 1)) - 1)) c12.1 c12.2
      refine sl (v := (.int .u8 (x0.code.getD (w64 ((w64 (x0.at_ + 1)) - 1)).toNat 0))) rfl hk rfl rfl rfl ag5 ((e15 0 _ rfl).cell (hs.hasD (k := 2) rfl)) fun a hk => ?_
      refine se (hs.pick [(1, 1)] rfl) hk (hK_r11_10 _ _ ?_)
      refine tsst hk rfl rfl (fun K_r11_11 hK_r11_11 w hF => ?_) wt_stop
      have hs := hs.f hF
      refine scn rfl hk rfl rfl rfl un3 un5 fun a hk => ?_
      refine se (hs.pick [(1, 1)] rfl) hk (hK_r11_11 _ _ ?_)
      refine tlst hk rfl rfl fun K_r11_12 hK_r11_12 w hF => ?_
      have hs := hs.f hF
      refine sa _ rfl hk rfl rfl rfl fun a hk => ?_
      refine se trivial hk (hK_r11_12 _ _ fun w hF => ?_)
      have hs := hs.f hF
      refine hK10 _ _ ?_
      refine wp_ret ?_
      obtain rfl := Option.some.inj H
      exact fin hk _ [(.int .i64 (IntKind.wrap .i64 (x0.code.getD (w64 ((w64 (x0.at_ + 1)) - 1)).toNat 0)))] rfl ⟨rfl, trivial⟩ ⟨rfl, (hs.pick [(0, 1)] rfl).dnil⟩
  · have hk := hk.lit 19 c6 rfl
    refine cnd_false hk rfl rfl ?_
    refine wp_skip ?_
    refine hK3 _ _ ?_
    apply wp_seq_k; intro K16 hK16
    apply wp_seq_k; intro K17 hK17
    apply wp_region_lit
    refine sm _ rfl hk rfl rfl rfl fun a hk => ?_
    refine snk rfl hk rfl rfl rfl fun a hk => ?_
    refine sf ⟨b0_, 1, none⟩ rfl hk rfl rfl rfl fd165_1 rfl fun a hk => ?_
    refine sl rfl hk rfl rfl rfl ag3 (box_cell hs (k := 1) rfl rfl) fun a hk => ?_
    refine sv (.bool (decide ((w64 (x0.at_ + 1)) > 3000))) hk rfl rfl rfl fun a hk => ?_
    show wpList _ _ _ [] _ _
    refine wpList_nil ?_
    refine hK17 _ _ ?_
    rcases cond_some H with ⟨c18, H⟩ | ⟨c18, H⟩
    · have hk := hk.lit 59 c18 rfl
      refine cnd_true hk rfl rfl ?_
      apply wp_seq_k; intro K19 hK19
      apply wp_region_lit
      refine sa _ rfl hk rfl rfl rfl fun a hk => ?_
      show wpList _ _ _ [] _ _
      refine wpList_nil ?_
      refine hK19 _ _ ?_
      refine wp_ret ?_
      obtain rfl := Option.some.inj H
      exact fin hk _ [(.int .i64 0)] rfl ⟨rfl, trivial⟩ ⟨rfl, (hs.pick [(0, 1)] rfl).dnil⟩
    · have hk := hk.lit 59 c18 rfl
      refine cnd_false hk rfl rfl ?_
      refine wp_skip ?_
      refine hK16 _ _ ?_
      apply wp_seq_k; intro K20 hK20
      apply wp_region_lit
      refine sm _ rfl hk rfl rfl rfl fun a hk => ?_
      refine sm _ rfl hk rfl rfl rfl fun a hk => ?_
      refine snk rfl hk rfl rfl rfl fun a hk => ?_
      refine sf ⟨b0_, 2, none⟩ rfl hk rfl rfl rfl fd165_2 rfl fun a hk => ?_
      refine sl rfl hk rfl rfl rfl ag3 (box_cell hs (k := 1) rfl rfl) fun a hk => ?_
      refine sv (.int .i64 (w64 (x0.seed * 1103515245))) hk rfl rfl rfl fun a hk => ?_
      refine sv (.int .i64 (w64 ((w64 (x0.seed * 1103515245)) + 12345))) hk rfl rfl rfl fun a hk => ?_
      refine sv (.int .i64 (Int.tmod (w64 ((w64 (x0.seed * 1103515245)) + 12345)) 2147483648)) hk rfl rfl rfl fun a hk => ?_
      refine snk rfl hk rfl rfl rfl fun a hk => ?_
      refine sf ⟨b0_, 2, none⟩ rfl hk rfl rfl rfl fd165_2 rfl fun a hk => ?_
      refine ssx (cs' := #[.slice A0_0 x0.code.length p0_0, .int .i64 (w64 (x0.at_ + 1)), .int .i64 (Int.tmod (w64 ((w64 (x0.seed * 1103515245)) + 12345)) 2147483648)]) 1 hs rfl rfl hk rfl rfl rfl rfl sz3 rfl rfl rfl rfl fun w a hk hs => ?_
      show wpList _ _ _ [] _ _
      refine wpList_nil ?_
      refine hK20 _ _ ?_
      apply wp_seq_k; intro K21 hK21
      apply wp_region_lit
      refine sm _ rfl hk rfl rfl rfl fun a hk => ?_
      refine snk rfl hk rfl rfl rfl fun a hk => ?_
      refine sf ⟨b0_, 2, none⟩ rfl hk rfl rfl rfl fd165_2 rfl fun a hk => ?_
      refine sl rfl hk rfl rfl rfl ag3 (box_cell hs (k := 1) rfl rfl) fun a hk => ?_
      refine sv (.int .i64 (IntKind.wrap .i64 (Int.tdiv (Int.tmod (w64 ((w64 (x0.seed * 1103515245)) + 12345)) 2147483648) 65536))) hk rfl rfl rfl fun a hk => ?_
      refine sv (.int .i64 (Int.tmod (IntKind.wrap .i64 (Int.tdiv (Int.tmod (w64 ((w64 (x0.seed * 1103515245)) + 12345)) 2147483648) 65536)) 256)) hk rfl rfl rfl fun a hk => ?_
      refine sa _ rfl hk rfl rfl rfl fun a hk => ?_
      show wpList _ _ _ [] _ _
      refine wpList_nil ?_
      refine hK21 _ _ ?_
      refine wp_ret ?_
      obtain rfl := Option.some.inj H
      exact fin hk _ [(.int .i64 (Int.tmod (IntKind.wrap .i64 (Int.tdiv (Int.tmod (w64 ((w64 (x0.seed * 1103515245)) + 12345)) 2147483648) 65536)) 256))] rfl ⟨rfl, trivial⟩ ⟨rfl, (hs.pick [(0, 1)] rfl).dnil⟩

noncomputable def spec_l00Src_next.f (x0 : S_l00Src) (x1 : Int) : Option (Int × Int × Int) :=
  (bif (decide (x1 ≤ 1)) then (some (0, x0.at_, x0.seed)) else (bif (decide (x1 ≤ 256)) then ((spec_l00Src_byte.f x0).bind fun y10 => (if x1 = 0 then none else (some ((Int.tmod y10.1 x1), y10.2.1, y10.2.2)))) else ((spec_l00Src_byte.f x0).bind fun y14 => ((spec_l00Src_byte.f (⟨x0.code, y14.2.1, y14.2.2⟩ : S_l00Src)).bind fun y17 => ((spec_l00Src_byte.f (⟨x0.code, y17.2.1, y17.2.2⟩ : S_l00Src)).bind fun y20 => (if x1 = 0 then none else (some ((Int.tmod (w64 ((w64 ((w64 (y14.1 * 65536)) + (w64 (y17.1 * 256)))) + y20.1)) x1), y20.2.1, y20.2.2))))))))
set_option maxRecDepth 100000 in
set_option maxHeartbeats 0 in
theorem spec_l00Src_next_t (w0 : World) (b0_ : Nat) (x0 : S_l00Src) (A0_0 : Option Addr) (p0_0 : Nat) (k0_0 : Chunk) (v0_0 : View (Lay.int .u8) A0_0 p0_0 x0.code k0_0) (w0_0 : Has w0 k0_0) (x1 : Int) (hs0 : Sat (blks [(1, [(b0_, .cells #[.slice A0_0 x0.code.length p0_0, .int .i64 x0.at_, .int .i64 x0.seed] 165 (0, 0))])]) w0 w0 [(2, k0_0)] [(1, [(b0_, .cells #[.slice A0_0 x0.code.length p0_0, .int .i64 x0.at_, .int .i64 x0.seed] 165 (0, 0))])]) (r : Int × Int × Int) (H : spec_l00Src_next.f x0 x1 = some r) :
    Calls Try.prog 147 #[.pointer (some ⟨b0_, 0, none⟩), .int .i64 x1] w0 (Ret (fun v w => v = .int .i64 r.1 ∧ Sat (blks [(1, [(b0_, .cells #[.slice A0_0 x0.code.length p0_0, .int .i64 x0.at_, .int .i64 x0.seed] 165 (0, 0))])]) w0 w [] [(0, [(b0_, .cells #[.slice A0_0 x0.code.length p0_0, .int .i64 r.2.1, .int .i64 r.2.2] 165 (0, 0))])])) := by
  have hs := hs0
  unfold spec_l00Src_next.f at H
  refine enter Try.func147 rfl Try.ntmps147 rfl fun a hk => ?_
  apply wp_seq_k; intro K1 hK1
  apply wp_region_lit
  refine sa _ rfl hk rfl rfl rfl fun a hk => ?_
  show wpList _ _ _ [] _ _
  refine wpList_nil ?_
  refine hK1 _ _ ?_
  apply wp_seq_k; intro K2 hK2
  apply wp_seq_k; intro K3 hK3
  apply wp_region_lit
  refine sm _ rfl hk rfl rfl rfl fun a hk => ?_
  refine sv (.bool (decide (x1 ≤ 1))) hk rfl rfl rfl fun a hk => ?_
  show wpList _ _ _ [] _ _
  refine wpList_nil ?_
  refine hK3 _ _ ?_
  rcases cond_some H with ⟨c4, H⟩ | ⟨c4, H⟩
  · have hk := hk.lit 9 c4 rfl
    refine cnd_true hk rfl rfl ?_
    apply wp_seq_k; intro K5 hK5
    apply wp_region_lit
    refine sa _ rfl hk rfl rfl rfl fun a hk => ?_
    show wpList _ _ _ [] _ _
    refine wpList_nil ?_
    refine hK5 _ _ ?_
    refine wp_ret ?_
    obtain rfl := Option.some.inj H
    exact fin hk _ [(.int .i64 0)] rfl ⟨rfl, trivial⟩ ⟨rfl, (hs.pick [(0, 1)] rfl).dnil⟩
  · have hk := hk.lit 9 c4 rfl
    refine cnd_false hk rfl rfl ?_
    refine wp_skip ?_
    refine hK2 _ _ ?_
    apply wp_seq_k; intro K6 hK6
    apply wp_seq_k; intro K7 hK7
    apply wp_region_lit
    refine sm _ rfl hk rfl rfl rfl fun a hk => ?_
    refine sv (.bool (decide (x1 ≤ 256))) hk rfl rfl rfl fun a hk => ?_
    show wpList _ _ _ [] _ _
    refine wpList_nil ?_
    refine hK7 _ _ ?_
    rcases cond_some H with ⟨c8, H⟩ | ⟨c8, H⟩
    · have hk := hk.lit 11 c8 rfl
      refine cnd_true hk rfl rfl ?_
      apply wp_seq_k; intro K9 hK9
      apply wp_region_lit
      refine sm _ rfl hk rfl rfl rfl fun a hk => ?_
      obtain ⟨y10, h11, H⟩ := bind_some H
      refine sc rfl en174 hk rfl rfl rfl (spec_l00Src_byte_t _ b0_ x0 A0_0 p0_0 _ v0_0 (hs.hasD (k := 2) rfl) ((hs.hand [(1, 1)] rfl).dpick [(2, 2)] rfl) _ h11) ?_
      rintro _ w ⟨rfl, hG⟩ a hk
      have hs := hs.back [(1, 1)] rfl hG [1] rfl
      refine sm _ rfl hk rfl rfl rfl fun a hk => ?_
      rcases ite_some H with ⟨_, H⟩ | ⟨c12, H⟩
      · cases H
      refine srm rfl hk rfl rfl rfl rfl c12 fun a hk => ?_
      refine sa _ rfl hk rfl rfl rfl fun a hk => ?_
      show wpList _ _ _ [] _ _
      refine wpList_nil ?_
      refine hK9 _ _ ?_
      refine wp_ret ?_
      obtain rfl := Option.some.inj H
      exact fin hk _ [(.int .i64 (Int.tmod y10.1 x1))] rfl ⟨rfl, trivial⟩ ⟨rfl, (hs.pick [(0, 1)] rfl).dnil⟩
    · have hk := hk.lit 11 c8 rfl
      refine cnd_false hk rfl rfl ?_
      refine wp_skip ?_
      refine hK6 _ _ ?_
      apply wp_seq_k; intro K13 hK13
      apply wp_region_lit
      refine sm _ rfl hk rfl rfl rfl fun a hk => ?_
      obtain ⟨y14, h15, H⟩ := bind_some H
      refine sc rfl en174 hk rfl rfl rfl (spec_l00Src_byte_t _ b0_ x0 A0_0 p0_0 _ v0_0 (hs.hasD (k := 2) rfl) ((hs.hand [(1, 1)] rfl).dpick [(2, 2)] rfl) _ h15) ?_
      rintro _ w ⟨rfl, hG⟩ a hk
      have hs := hs.back [(1, 1)] rfl hG [1] rfl
      refine sa _ rfl hk rfl rfl rfl fun a hk => ?_
      show wpList _ _ _ [] _ _
      refine wpList_nil ?_
      refine hK13 _ _ ?_
      apply wp_seq_k; intro K16 hK16
      apply wp_region_lit
      refine sm _ rfl hk rfl rfl rfl fun a hk => ?_
      obtain ⟨y17, h18, H⟩ := bind_some H
      refine sc rfl en174 hk rfl rfl rfl (spec_l00Src_byte_t _ b0_ (⟨x0.code, y14.2.1, y14.2.2⟩ : S_l00Src) A0_0 p0_0 _ v0_0 (hs.hasD (k := 2) rfl) ((hs.hand [(1, 1)] rfl).dpick [(2, 2)] rfl) _ h18) ?_
      rintro _ w ⟨rfl, hG⟩ a hk
      have hs := hs.back [(1, 1)] rfl hG [1] rfl
      refine sa _ rfl hk rfl rfl rfl fun a hk => ?_
      show wpList _ _ _ [] _ _
      refine wpList_nil ?_
      refine hK16 _ _ ?_
      apply wp_seq_k; intro K19 hK19
      apply wp_region_lit
      refine sm _ rfl hk rfl rfl rfl fun a hk => ?_
      obtain ⟨y20, h21, H⟩ := bind_some H
      refine sc rfl en174 hk rfl rfl rfl (spec_l00Src_byte_t _ b0_ (⟨x0.code, y17.2.1, y17.2.2⟩ : S_l00Src) A0_0 p0_0 _ v0_0 (hs.hasD (k := 2) rfl) ((hs.hand [(1, 1)] rfl).dpick [(2, 2)] rfl) _ h21) ?_
      rintro _ w ⟨rfl, hG⟩ a hk
      have hs := hs.back [(1, 1)] rfl hG [1] rfl
      refine sa _ rfl hk rfl rfl rfl fun a hk => ?_
      show wpList _ _ _ [] _ _
      refine wpList_nil ?_
      refine hK19 _ _ ?_
      apply wp_seq_k; intro K22 hK22
      apply wp_region_lit
      refine sm _ rfl hk rfl rfl rfl fun a hk => ?_
      refine sv (.int .i64 (w64 (y14.1 * 65536))) hk rfl rfl rfl fun a hk => ?_
      refine sm _ rfl hk rfl rfl rfl fun a hk => ?_
      refine sv (.int .i64 (w64 (y17.1 * 256))) hk rfl rfl rfl fun a hk => ?_
      refine sv (.int .i64 (w64 ((w64 (y14.1 * 65536)) + (w64 (y17.1 * 256))))) hk rfl rfl rfl fun a hk => ?_
      refine sm _ rfl hk rfl rfl rfl fun a hk => ?_
      refine sv (.int .i64 (w64 ((w64 ((w64 (y14.1 * 65536)) + (w64 (y17.1 * 256)))) + y20.1))) hk rfl rfl rfl fun a hk => ?_
      refine sm _ rfl hk rfl rfl rfl fun a hk => ?_
      rcases ite_some H with ⟨_, H⟩ | ⟨c23, H⟩
      · cases H
      refine srm rfl hk rfl rfl rfl rfl c23 fun a hk => ?_
      refine sa _ rfl hk rfl rfl rfl fun a hk => ?_
      show wpList _ _ _ [] _ _
      refine wpList_nil ?_
      refine hK22 _ _ ?_
      refine wp_ret ?_
      obtain rfl := Option.some.inj H
      exact fin hk _ [(.int .i64 (Int.tmod (w64 ((w64 ((w64 (y14.1 * 65536)) + (w64 (y17.1 * 256)))) + y20.1)) x1))] rfl ⟨rfl, trivial⟩ ⟨rfl, (hs.pick [(0, 1)] rfl).dnil⟩

noncomputable def spec_l00Src_bytes.s0 (x0 : S_l00Src) (x1 : Int) (u17 : List Int) (u14 : Int) (u15 : Int) (u16 : Int) : Option (((List Int) × Int × Int × Int) ⊕ Ex ((List Int) × Int × Int) (ByteArray × Int × Int)) :=
  (bif (decide (u14 < x1)) then ((spec_l00Src_next.f (⟨x0.code, u15, u16⟩ : S_l00Src) 256).bind fun y41 => (if u17.length + ([(IntKind.wrap .u8 y41.1)]).length ≤ 1073741824 then (some (.inl ((u17 ++ ([(IntKind.wrap .u8 y41.1)])), (w64 (u14 + 1)), y41.2.1, y41.2.2))) else none)) else (some (.inr (.out (u17, u15, u16)))))
noncomputable def spec_l00Src_bytes.f (x0 : S_l00Src) (x1 : Int) : Option (ByteArray × Int × Int) :=
  ((loopO (fun s => spec_l00Src_bytes.s0 x0 x1 s.1 s.2.1 s.2.2.1 s.2.2.2) (([] : List Int), 0, x0.at_, x0.seed)).bind fun o => match o with | .out (u22, u27, u28) => (some ((strOfNums u22), u27, u28)) | .ret r => (some r))
set_option maxRecDepth 100000 in
set_option maxHeartbeats 0 in
theorem spec_l00Src_bytes_t (w0 : World) (b0_ : Nat) (x0 : S_l00Src) (A0_0 : Option Addr) (p0_0 : Nat) (k0_0 : Chunk) (v0_0 : View (Lay.int .u8) A0_0 p0_0 x0.code k0_0) (w0_0 : Has w0 k0_0) (x1 : Int) (hs0 : Sat (blks [(1, [(b0_, .cells #[.slice A0_0 x0.code.length p0_0, .int .i64 x0.at_, .int .i64 x0.seed] 165 (0, 0))])]) w0 w0 [(2, k0_0)] [(1, [(b0_, .cells #[.slice A0_0 x0.code.length p0_0, .int .i64 x0.at_, .int .i64 x0.seed] 165 (0, 0))])]) (r : ByteArray × Int × Int) (H : spec_l00Src_bytes.f x0 x1 = some r) :
    Calls Try.prog 146 #[.pointer (some ⟨b0_, 0, none⟩), .int .i64 x1] w0 (Ret (fun v w => v = .string r.1 ∧ Sat (blks [(1, [(b0_, .cells #[.slice A0_0 x0.code.length p0_0, .int .i64 x0.at_, .int .i64 x0.seed] 165 (0, 0))])]) w0 w [] [(0, [(b0_, .cells #[.slice A0_0 x0.code.length p0_0, .int .i64 r.2.1, .int .i64 r.2.2] 165 (0, 0))])])) := by
  have hs := hs0
  unfold spec_l00Src_bytes.f at H
  refine enter Try.func146 rfl Try.ntmps146 rfl fun a hk => ?_
  apply wp_seq_k; intro K1 hK1
  apply wp_region_lit
  refine sa _ rfl hk rfl rfl rfl fun a hk => ?_
  show wpList _ _ _ [] _ _
  refine wpList_nil ?_
  refine hK1 _ _ ?_
  apply wp_seq_k; intro K2 hK2
  apply wp_region_lit
  refine sbs0 3 (Lay.int .u8) hs rfl hk rfl rfl un74 sz5 fun b3 k4 w a hk o5 hs => ?_
  refine sa _ rfl hk rfl rfl rfl fun a hk => ?_
  show wpList _ _ _ [] _ _
  refine wpList_nil ?_
  refine hK2 _ _ ?_
  apply wp_seq_k; intro K6 hK6
  apply wp_seq_k; intro K7 hK7
  apply wp_region_lit
  refine sa _ rfl hk rfl rfl rfl fun a hk => ?_
  show wpList _ _ _ [] _ _
  refine wpList_nil ?_
  refine hK7 _ _ ?_
  obtain ⟨o29, h30, HL31⟩ := bind_some H
  clear H
  obtain ⟨R32, hR32⟩ : ∃ R : Act → World → Prop, R = fun a w => ∃ (u22 : List Int) (u27 : Int) (u28 : Int) (A25 : Option Addr) (p26 : Nat) (k23 : Chunk), o29 = .out (u22, u27, u28) ∧ Kn [(0, (.pointer (some ⟨b0_, 0, none⟩))), (5, (.slice A25 u22.length p26))] 21 a ∧ Sat (blks [(1, [(b0_, .cells #[.slice A0_0 x0.code.length p0_0, .int .i64 x0.at_, .int .i64 x0.seed] 165 (0, 0))])]) w0 w [(2, k0_0)] [(3, k23), (1, [(b0_, .cells #[.slice A0_0 x0.code.length p0_0, .int .i64 u27, .int .i64 u28] 165 (0, 0))])] ∧ Own (Lay.int .u8) 5 A25 p26 u22 k23 := ⟨_, rfl⟩
  refine wp_cutq R32 ?_ ?_
  · refine wp_block ?_
    obtain ⟨fu34, h30⟩ := loopO_some h30
    obtain ⟨I33, hI33⟩ : ∃ I : Nat → Act → World → Prop, I = fun fu a w => ∃ (u17 : List Int) (u14 : Int) (u15 : Int) (u16 : Int) (A20 : Option Addr) (p21 : Nat) (k18 : Chunk), loopN (fun s => spec_l00Src_bytes.s0 x0 x1 s.1 s.2.1 s.2.2.1 s.2.2.2) fu (u17, u14, u15, u16) = some o29 ∧ Kn [(0, (.pointer (some ⟨b0_, 0, none⟩))), (1, (.int .i64 x1)), (5, (.slice A20 u17.length p21)), (6, (.int .i64 u14))] 21 a ∧ Sat (blks [(1, [(b0_, .cells #[.slice A0_0 x0.code.length p0_0, .int .i64 x0.at_, .int .i64 x0.seed] 165 (0, 0))])]) w0 w [(2, k0_0)] [(3, k18), (1, [(b0_, .cells #[.slice A0_0 x0.code.length p0_0, .int .i64 u15, .int .i64 u16] 165 (0, 0))])] ∧ Own (Lay.int .u8) 5 A20 p21 u17 k18 := ⟨_, rfl⟩
    refine wp_loop_ghost I33 fu34 ?_ ?_
    · rw [hI33]
      exact ⟨([] : List Int), 0, x0.at_, x0.seed, (some ⟨b3, 0, none⟩), 0, _, h30, (hk.c 0 rfl (hk.c 1 rfl (hk.c 5 rfl (hk.c 6 rfl hk.k)))), (hs.pick [(3, 3), (1, 1)] rfl), o5⟩
    · clear h30 hk hs
      intro fu34 a w hI0
      rw [hI33] at hI0
      obtain ⟨u17, u14, u15, u16, A20, p21, k18, hi, hk, hs, o19⟩ := hI0
      obtain ⟨x35, H, h36⟩ := loop_round hi
      try dsimp only at H
      unfold spec_l00Src_bytes.s0 at H
      apply wp_seq_k; intro K37 hK37
      apply wp_seq_k; intro K38 hK38
      apply wp_region_lit
      refine sm _ rfl hk rfl rfl rfl fun a hk => ?_
      refine sm _ rfl hk rfl rfl rfl fun a hk => ?_
      refine sv (.bool (decide (u14 < x1))) hk rfl rfl rfl fun a hk => ?_
      show wpList _ _ _ [] _ _
      refine wpList_nil ?_
      refine hK38 _ _ ?_
      rcases cond_some H with ⟨c39, H⟩ | ⟨c39, H⟩
      · have hk := hk.lit 10 c39 rfl
        refine cnd_true hk rfl rfl ?_
        refine wp_skip ?_
        refine hK37 _ _ ?_
        apply wp_seq_k; intro K40 hK40
        refine wp_block ?_
        apply wp_region_lit
        refine sm _ rfl hk rfl rfl rfl fun a hk => ?_
        refine sm _ rfl hk rfl rfl rfl fun a hk => ?_
        obtain ⟨y41, h42, H⟩ := bind_some H
        refine sc rfl en147 hk rfl rfl rfl (spec_l00Src_next_t _ b0_ (⟨x0.code, u15, u16⟩ : S_l00Src) A0_0 p0_0 _ v0_0 (hs.hasD (k := 2) rfl) 256 ((hs.hand [(1, 1)] rfl).dpick [(2, 2)] rfl) _ h42) ?_
        rintro _ w ⟨rfl, hG⟩ a hk
        have hs := hs.back [(1, 1)] rfl hG [1] rfl
        refine scn rfl hk rfl rfl rfl un5 un3 fun a hk => ?_
        refine sbs (L := (Lay.int .u8)) (pv := [(0, (.int .u8 (IntKind.wrap .u8 y41.1)))]) (xs := [(IntKind.wrap .u8 y41.1)]) (ess := [[.int .u8 (IntKind.wrap .u8 y41.1)]]) 5 hs rfl hk rfl rfl rfl un74 (bs5_1 (IntKind.wrap .u8 y41.1)) (AllOwn.cons0 ⟨rfl, rfl⟩ AllOwn.nil) rfl rfl rfl fun b43 k44 w a hk o45 hs => ?_
        rcases ite_some H with ⟨c46, H⟩ | ⟨_, H⟩
        rotate_left
        · cases H
        refine sap 3 (xs := u17) (ys := [(IntKind.wrap .u8 y41.1)]) (flat_flat : ((Lay.int .u8)).Flat) hs rfl o19 o45.view (hs.hasG (k := 5) rfl) rfl hk rfl rfl rfl rfl rfl rfl un74 mk5 rfl rfl rfl c46 fun A47 p48 k49 w a hk o50 hs => ?_
        refine sa _ rfl hk rfl rfl rfl fun a hk => ?_
        show wpList _ _ _ [] _ _
        refine wpList_nil ?_
        refine hK40 _ _ ?_
        apply wp_region_lit
        refine sm _ rfl hk rfl rfl rfl fun a hk => ?_
        refine sv (.int .i64 (w64 (u14 + 1))) hk rfl rfl rfl fun a hk => ?_
        refine sa _ rfl hk rfl rfl rfl fun a hk => ?_
        show wpList _ _ _ [] _ _
        refine wpList_nil ?_
        obtain rfl := Option.some.inj H
        obtain ⟨m51, hmm51, h36⟩ := h36
        show ∃ n', n' < _ ∧ I33 n' _ _
        refine ⟨m51, hmm51, ?_⟩
        rw [hI33]
        exact ⟨(u17 ++ ([(IntKind.wrap .u8 y41.1)])), (w64 (u14 + 1)), y41.2.1, y41.2.2, A47, p48, _, h36, (hk.c 0 rfl (hk.c 1 rfl (hk.c 5 rfl (hk.c 6 rfl hk.k)))), (hs.pick [(3, 3), (1, 1)] rfl), o50⟩
      · have hk := hk.lit 10 c39 rfl
        refine cnd_false hk rfl rfl ?_
        refine wp_exit ?_
        obtain rfl := Option.some.inj H
        show R32 _ _
        rw [hR32]
        exact ⟨u17, u15, u16, A20, p21, _, h36.symm, (hk.c 0 rfl (hk.c 5 rfl hk.k)), (hs.pick [(3, 3), (1, 1)] rfl), o19⟩
  · intro a w hR0
    rw [hR32] at hR0
    obtain ⟨u22, u27, u28, A25, p26, k23, rfl, hk, hs, o24⟩ := hR0
    have H := HL31
    try dsimp only at H
    refine hK6 _ _ ?_
    apply wp_seq_k; intro K52 hK52
    apply wp_region_lit
    refine sm _ rfl hk rfl rfl rfl fun a hk => ?_
    refine sbt (xs := u22) rfl hk rfl rfl rfl rfl un74 un5 un9 o24.view (hs.hasG (k := 3) rfl) fun a hk => ?_
    refine sa _ rfl hk rfl rfl rfl fun a hk => ?_
    show wpList _ _ _ [] _ _
    refine wpList_nil ?_
    refine hK52 _ _ ?_
    refine wp_ret ?_
    obtain rfl := Option.some.inj H
    exact fin hk _ [(.string (strOfNums u22))] rfl ⟨rfl, trivial⟩ ⟨rfl, (hs.pick [(0, 1)] rfl).dnil⟩

noncomputable def spec_l00Src_text.f (x0 : S_l00Src) : Option (ByteArray × Int × Int) :=
  ((spec_l00Src_next.f x0 9).bind fun y3 => ((spec_l00Src_next.f (⟨x0.code, y3.2.1, y3.2.2⟩ : S_l00Src) 200).bind fun y5 => ((spec_l00Src_next.f (⟨x0.code, y5.2.1, y5.2.2⟩ : S_l00Src) 6).bind fun y10 => (if 0 ≤ y10.1 ∧ y10.1 < (6 : Int) then ((spec_l00Src_bytes.f (⟨x0.code, y10.2.1, y10.2.2⟩ : S_l00Src) (([y3.1, 55, 56, 63, 64, y5.1]).getD (y10.1).toNat 0)).bind fun y16 => (some (y16.1, y16.2.1, y16.2.2))) else none))))
set_option maxRecDepth 100000 in
set_option maxHeartbeats 0 in
theorem spec_l00Src_text_t (w0 : World) (b0_ : Nat) (x0 : S_l00Src) (A0_0 : Option Addr) (p0_0 : Nat) (k0_0 : Chunk) (v0_0 : View (Lay.int .u8) A0_0 p0_0 x0.code k0_0) (w0_0 : Has w0 k0_0) (hs0 : Sat (blks [(1, [(b0_, .cells #[.slice A0_0 x0.code.length p0_0, .int .i64 x0.at_, .int .i64 x0.seed] 165 (0, 0))])]) w0 w0 [(2, k0_0)] [(1, [(b0_, .cells #[.slice A0_0 x0.code.length p0_0, .int .i64 x0.at_, .int .i64 x0.seed] 165 (0, 0))])]) (r : ByteArray × Int × Int) (H : spec_l00Src_text.f x0 = some r) :
    Calls Try.prog 98 #[.pointer (some ⟨b0_, 0, none⟩)] w0 (Ret (fun v w => v = .string r.1 ∧ Sat (blks [(1, [(b0_, .cells #[.slice A0_0 x0.code.length p0_0, .int .i64 x0.at_, .int .i64 x0.seed] 165 (0, 0))])]) w0 w [] [(0, [(b0_, .cells #[.slice A0_0 x0.code.length p0_0, .int .i64 r.2.1, .int .i64 r.2.2] 165 (0, 0))])])) := by
  have hs := hs0
  unfold spec_l00Src_text.f at H
  refine enter Try.func98 rfl Try.ntmps98 rfl fun a hk => ?_
  apply wp_seq_k; intro K1 hK1
  apply wp_region_lit
  refine sa _ rfl hk rfl rfl rfl fun a hk => ?_
  show wpList _ _ _ [] _ _
  refine wpList_nil ?_
  refine hK1 _ _ ?_
  apply wp_seq_k; intro K2 hK2
  apply wp_region_lit
  refine sm _ rfl hk rfl rfl rfl fun a hk => ?_
  refine sm _ rfl hk rfl rfl rfl fun a hk => ?_
  obtain ⟨y3, h4, H⟩ := bind_some H
  refine sc rfl en147 hk rfl rfl rfl (spec_l00Src_next_t _ b0_ x0 A0_0 p0_0 _ v0_0 (hs.hasD (k := 2) rfl) 9 ((hs.hand [(1, 1)] rfl).dpick [(2, 2)] rfl) _ h4) ?_
  rintro _ w ⟨rfl, hG⟩ a hk
  have hs := hs.back [(1, 1)] rfl hG [1] rfl
  refine sm _ rfl hk rfl rfl rfl fun a hk => ?_
  obtain ⟨y5, h6, H⟩ := bind_some H
  refine sc rfl en147 hk rfl rfl rfl (spec_l00Src_next_t _ b0_ (⟨x0.code, y3.2.1, y3.2.2⟩ : S_l00Src) A0_0 p0_0 _ v0_0 (hs.hasD (k := 2) rfl) 200 ((hs.hand [(1, 1)] rfl).dpick [(2, 2)] rfl) _ h6) ?_
  rintro _ w ⟨rfl, hG⟩ a hk
  have hs := hs.back [(1, 1)] rfl hG [1] rfl
  refine sbs (L := (Lay.int .i64)) (pv := [(0, (.int .i64 y3.1)), (1, (.int .i64 55)), (2, (.int .i64 56)), (3, (.int .i64 63)), (4, (.int .i64 64)), (5, (.int .i64 y5.1))]) (xs := [y3.1, 55, 56, 63, 64, y5.1]) (ess := [[.int .i64 y3.1], [.int .i64 55], [.int .i64 56], [.int .i64 63], [.int .i64 64], [.int .i64 y5.1]]) 3 hs rfl hk rfl rfl rfl un31 (bs3_2 y3.1 55 56 63 64 y5.1) (AllOwn.cons0 ⟨rfl, rfl⟩ (AllOwn.cons0 ⟨rfl, rfl⟩ (AllOwn.cons0 ⟨rfl, rfl⟩ (AllOwn.cons0 ⟨rfl, rfl⟩ (AllOwn.cons0 ⟨rfl, rfl⟩ (AllOwn.cons0 ⟨rfl, rfl⟩ AllOwn.nil)))))) rfl rfl rfl fun b7 k8 w a hk o9 hs => ?_
  refine sm _ rfl hk rfl rfl rfl fun a hk => ?_
  obtain ⟨y10, h11, H⟩ := bind_some H
  refine sc rfl en147 hk rfl rfl rfl (spec_l00Src_next_t _ b0_ (⟨x0.code, y5.2.1, y5.2.2⟩ : S_l00Src) A0_0 p0_0 _ v0_0 (hs.hasD (k := 2) rfl) 6 ((hs.hand [(1, 1)] rfl).dpick [(2, 2)] rfl) _ h11) ?_
  rintro _ w ⟨rfl, hG⟩ a hk
  have hs := hs.back [(1, 1)] rfl hG [1] rfl
  rcases ite_some H with ⟨c12, H⟩ | ⟨_, H⟩
  rotate_left
  · cases H
  obtain ⟨b13, q14, hAc12⟩ := (o9.view).some_ y10.1 c12.1 c12.2
  refine si rfl hk rfl rfl rfl rfl un31 sz3 c12.1 c12.2 hAc12 fun a hk => ?_
  obtain ⟨_, rfl, e15⟩ := (o9.view).at_ 0 y10.1 c12.1 c12.2
  refine sl (v := (.int .i64 (([y3.1, 55, 56, 63, 64, y5.1]).getD (y10.1).toNat 0))) rfl hk rfl rfl rfl ag3 ((e15 0 _ rfl).cell (hs.hasG (k := 3) rfl)) fun a hk => ?_
  obtain ⟨y16, h17, H⟩ := bind_some H
  refine sc rfl en146 hk rfl rfl rfl (spec_l00Src_bytes_t _ b0_ (⟨x0.code, y10.2.1, y10.2.2⟩ : S_l00Src) A0_0 p0_0 _ v0_0 (hs.hasD (k := 2) rfl) (([y3.1, 55, 56, 63, 64, y5.1]).getD (y10.1).toNat 0) ((hs.hand [(1, 1)] rfl).dpick [(2, 2)] rfl) _ h17) ?_
  rintro _ w ⟨rfl, hG⟩ a hk
  have hs := hs.back [(1, 1)] rfl hG [1] rfl
  refine sa _ rfl hk rfl rfl rfl fun a hk => ?_
  show wpList _ _ _ [] _ _
  refine wpList_nil ?_
  refine hK2 _ _ ?_
  refine wp_ret ?_
  obtain rfl := Option.some.inj H
  exact fin hk _ [(.string y16.1)] rfl ⟨rfl, trivial⟩ ⟨rfl, (hs.pick [(0, 1)] rfl).dnil⟩

noncomputable def spec_TextOf.f (l0 : List Int) : Option (ByteArray) :=
  ((spec_l00Source.f l0).bind fun y3 => ((spec_l00Src_text.f y3).bind fun y10 => (some y10.1)))
set_option maxRecDepth 100000 in
set_option maxHeartbeats 0 in
theorem spec_TextOf_t (w0 : World) (A0_ : Option Addr) (p0_ : Nat) (l0 : List Int) (k0_ : Chunk) (v0_ : View (Lay.int .u8) A0_ p0_ l0 k0_) (w0_ : Has w0 k0_) (r : ByteArray) (H : spec_TextOf.f l0 = some r) :
    Calls Try.prog 49 #[.slice A0_ l0.length p0_] w0 (Ret (fun v w => v = .string r ∧ Sat [] w0 w [] [])) := by
  have hs : Sat [] w0 w0 [(1, k0_)] [] := Sat.init w0 [(1, k0_)] [] (by simp only [List.mem_cons, List.not_mem_nil, or_false]; rintro x (rfl) <;> assumption) (by simp) List.nodup_nil (by simp [blks])
  unfold spec_TextOf.f at H
  refine enter Try.func49 rfl Try.ntmps49 rfl fun a hk => ?_
  apply wp_seq_k; intro K1 hK1
  apply wp_region_lit
  refine sa _ rfl hk rfl rfl rfl fun a hk => ?_
  show wpList _ _ _ [] _ _
  refine wpList_nil ?_
  refine hK1 _ _ ?_
  apply wp_seq_k; intro K2 hK2
  apply wp_region_lit
  refine sm _ rfl hk rfl rfl rfl fun a hk => ?_
  obtain ⟨y3, h4, H⟩ := bind_some H
  refine sc rfl en97 hk rfl rfl rfl (spec_l00Source_t _ A0_ p0_ l0 _ v0_ (hs.hasD (k := 1) rfl) _ h4) ?_
  rintro _ w ⟨b6, A7, p8, k5, rfl, v9, hG⟩ a hk
  have hs := hs.call0k hG [3, 2] rfl
  obtain ⟨y10, h11, H⟩ := bind_some H
  refine sc rfl en98 hk rfl rfl rfl (spec_l00Src_text_t _ b6 y3 A7 p8 _ v9 (Has.app (hs.hasD (k := 1) rfl) (hs.hasG (k := 2) rfl)) (((hs.hand [(1, 3)] rfl).dcat 2004 (k := 1) (l := 2) rfl rfl).dpick [(2, 2004)] rfl) _ h11) ?_
  rintro _ w ⟨rfl, hG⟩ a hk
  have hs := hs.back [(1, 3)] rfl hG [3] rfl
  refine sa _ rfl hk rfl rfl rfl fun a hk => ?_
  show wpList _ _ _ [] _ _
  refine wpList_nil ?_
  refine hK2 _ _ ?_
  refine wp_ret ?_
  obtain rfl := Option.some.inj H
  exact fin hk _ [(.string y10.1)] rfl ⟨rfl, trivial⟩ ⟨rfl, (hs.pick [] rfl).dnil⟩

noncomputable def slices_IndexFunc_string_string.s0 (l0 : List ByteArray) (q1 : ByteArray → Option (Bool)) (u6 : Int) : Option ((Int) ⊕ Ex (Unit) (Int)) :=
  (bif (decide (u6 < (l0.length : Int))) then (if 0 ≤ u6 ∧ u6 < (l0.length : Int) then ((q1 (l0.getD u6.toNat ByteArray.empty)).bind fun y25 => (bif y25 then (some (.inr (.ret u6))) else (some (.inl (w64 (u6 + 1)))))) else none) else (some (.inr (.out ()))))
noncomputable def slices_IndexFunc_string_string.f (l0 : List ByteArray) (q1 : ByteArray → Option (Bool)) : Option (Int) :=
  ((loopO (fun s => slices_IndexFunc_string_string.s0 l0 q1 s) 0).bind fun o => match o with | .out _ => (some (-1)) | .ret r => (some r))
set_option maxRecDepth 100000 in
set_option maxHeartbeats 0 in
theorem slices_IndexFunc_string_string_t (w0 : World) (A0_ : Option Addr) (p0_ : Nat) (l0 : List ByteArray) (k0_ : Chunk) (v0_ : View Lay.str A0_ p0_ l0 k0_) (w0_ : Has w0 k0_) (f1_ : FuncId) (c1_ : List Value) (e1_ : Enters Try.prog f1_) (q1 : ByteArray → Option (Bool)) (k1_ : Chunk) (t1_ : ∀ w, Has w k1_ → ∀ (z0 : ByteArray) (r : Bool), q1 z0 = some r → Calls Try.prog f1_ (([.string z0] : List Value) ++ c1_).toArray w (Ret (fun v w2 => v = .bool r ∧ Sat [] w w2 [] []))) (w1_ : Has w0 k1_) (r : Int) (H : slices_IndexFunc_string_string.f l0 q1 = some r) :
    Calls Try.prog 190 #[.slice A0_ l0.length p0_, .func (.func f1_) #[] c1_.toArray] w0 (Ret (fun v w => v = .int .i64 r ∧ Sat [] w0 w [] [])) := by
  have hs : Sat [] w0 w0 [(1, k0_), (2, k1_)] [] := Sat.init w0 [(1, k0_), (2, k1_)] [] (by simp only [List.mem_cons, List.not_mem_nil, or_false]; rintro x (rfl | rfl) <;> assumption) (by simp) List.nodup_nil (by simp [blks])
  unfold slices_IndexFunc_string_string.f at H
  refine enter Try.func190 rfl Try.ntmps190 rfl fun a hk => ?_
  apply wp_seq_k; intro K1 hK1
  apply wp_region_lit
  refine sa _ rfl hk rfl rfl rfl fun a hk => ?_
  show wpList _ _ _ [] _ _
  refine wpList_nil ?_
  refine hK1 _ _ ?_
  apply wp_seq_k; intro K2 hK2
  apply wp_seq_k; intro K3 hK3
  apply wp_region_lit
  refine sm _ rfl hk rfl rfl rfl fun a hk => ?_
  refine sle rfl hk rfl rfl rfl un154 fun a hk => ?_
  refine sm _ rfl hk rfl rfl rfl fun a hk => ?_
  show wpList _ _ _ [] _ _
  refine wpList_nil ?_
  refine hK3 _ _ ?_
  obtain ⟨o7, h8, HL9⟩ := bind_some H
  clear H
  obtain ⟨R10, hR10⟩ : ∃ R : Act → World → Prop, R = fun a w => o7 = .out () ∧ Kn [] 19 a ∧ Sat [] w0 w [(1, k0_), (2, k1_)] [] := ⟨_, rfl⟩
  refine wp_cutq R10 ?_ ?_
  · refine wp_block ?_
    obtain ⟨fu12, h8⟩ := loopO_some h8
    obtain ⟨I11, hI11⟩ : ∃ I : Nat → Act → World → Prop, I = fun fu a w => ∃ (u6 : Int), loopN (fun s => slices_IndexFunc_string_string.s0 l0 q1 s) fu u6 = some o7 ∧ Kn [(0, (.slice A0_ l0.length p0_)), (1, (.func (.func f1_) #[] c1_.toArray)), (7, (.int .i64 (l0.length : Int))), (8, (.int .i64 u6))] 19 a ∧ Sat [] w0 w [(1, k0_), (2, k1_)] [] := ⟨_, rfl⟩
    refine wp_loop_ghost I11 fu12 ?_ ?_
    · rw [hI11]
      exact ⟨0, h8, (hk.c 0 rfl (hk.c 1 rfl (hk.c 7 rfl (hk.c 8 rfl hk.k)))), (hs.pick [] rfl)⟩
    · clear h8 hk hs
      intro fu12 a w hI0
      rw [hI11] at hI0
      obtain ⟨u6, hi, hk, hs⟩ := hI0
      obtain ⟨x13, H, h14⟩ := loop_round hi
      try dsimp only at H
      unfold slices_IndexFunc_string_string.s0 at H
      apply wp_seq_k; intro K15 hK15
      apply wp_region_lit
      refine sv (.bool (decide (u6 < (l0.length : Int)))) hk rfl rfl rfl fun a hk => ?_
      show wpList _ _ _ [] _ _
      refine wpList_nil ?_
      refine hK15 _ _ ?_
      apply wp_seq_k; intro K16 hK16
      rcases cond_some H with ⟨c17, H⟩ | ⟨c17, H⟩
      · have hk := hk.lit 9 c17 rfl
        refine cnd_true hk rfl rfl ?_
        refine wp_skip ?_
        refine hK16 _ _ ?_
        apply wp_seq_k; intro K18 hK18
        refine wp_block ?_
        apply wp_seq_k; intro K19 hK19
        apply wp_region_lit
        refine sm _ rfl hk rfl rfl rfl fun a hk => ?_
        refine sa _ rfl hk rfl rfl rfl fun a hk => ?_
        show wpList _ _ _ [] _ _
        refine wpList_nil ?_
        refine hK19 _ _ ?_
        apply wp_seq_k; intro K20 hK20
        apply wp_region_lit
        refine sm _ rfl hk rfl rfl rfl fun a hk => ?_
        refine sm _ rfl hk rfl rfl rfl fun a hk => ?_
        refine sm _ rfl hk rfl rfl rfl fun a hk => ?_
        rcases ite_some H with ⟨c21, H⟩ | ⟨_, H⟩
        rotate_left
        · cases H
        obtain ⟨b22, q23, hAc21⟩ := (v0_).some_ u6 c21.1 c21.2
        refine si rfl hk rfl rfl rfl rfl un154 sz9 c21.1 c21.2 hAc21 fun a hk => ?_
        obtain ⟨_, rfl, e24⟩ := (v0_).at_ ByteArray.empty u6 c21.1 c21.2
        refine sl (v := (.string (l0.getD u6.toNat ByteArray.empty))) rfl hk rfl rfl rfl ag9 ((e24 0 _ rfl).cell (hs.hasD (k := 1) rfl)) fun a hk => ?_
        obtain ⟨y25, h26, H⟩ := bind_some H
        refine scv (vs := ([(.string (l0.getD u6.toNat ByteArray.empty))] : List Value) ++ c1_) rfl rfl e1_ hk rfl rfl rfl (t1_ _ (hs.hasD (k := 2) rfl) (l0.getD u6.toNat ByteArray.empty) _ h26) ?_
        rintro _ w ⟨rfl, hG⟩ a hk
        have hs := hs.call0 hG
        show wpList _ _ _ [] _ _
        refine wpList_nil ?_
        refine hK20 _ _ ?_
        rcases cond_some H with ⟨c27, H⟩ | ⟨c27, H⟩
        · have hk := hk.lit 16 c27 rfl
          refine cnd_true hk rfl rfl ?_
          apply wp_seq_k; intro K28 hK28
          apply wp_region_lit
          refine sm _ rfl hk rfl rfl rfl fun a hk => ?_
          refine sa _ rfl hk rfl rfl rfl fun a hk => ?_
          show wpList _ _ _ [] _ _
          refine wpList_nil ?_
          refine hK28 _ _ ?_
          refine wp_ret ?_
          obtain rfl := Option.some.inj H
          have ho7 := h14
          try dsimp only at ho7
          subst ho7
          have H := HL9
          try dsimp only at H
          obtain rfl := Option.some.inj H
          exact fin hk _ [(.int .i64 u6)] rfl ⟨rfl, trivial⟩ ⟨rfl, (hs.pick [] rfl).dnil⟩
        · have hk := hk.lit 16 c27 rfl
          refine cnd_false hk rfl rfl ?_
          refine wp_skip ?_
          refine hK18 _ _ ?_
          apply wp_region_lit
          refine sv (.int .i64 (w64 (u6 + 1))) hk rfl rfl rfl fun a hk => ?_
          refine sm _ rfl hk rfl rfl rfl fun a hk => ?_
          show wpList _ _ _ [] _ _
          refine wpList_nil ?_
          obtain rfl := Option.some.inj H
          obtain ⟨m29, hmm29, h14⟩ := h14
          show ∃ n', n' < _ ∧ I11 n' _ _
          refine ⟨m29, hmm29, ?_⟩
          rw [hI11]
          exact ⟨(w64 (u6 + 1)), h14, (hk.c 0 rfl (hk.c 1 rfl (hk.c 7 rfl (hk.c 8 rfl hk.k)))), (hs.pick [] rfl)⟩
      · have hk := hk.lit 9 c17 rfl
        refine cnd_false hk rfl rfl ?_
        refine wp_exit ?_
        obtain rfl := Option.some.inj H
        show R10 _ _
        rw [hR10]
        exact ⟨h14.symm, hk.k, (hs.pick [] rfl)⟩
  · intro a w hR0
    rw [hR10] at hR0
    obtain ⟨rfl, hk, hs⟩ := hR0
    have H := HL9
    try dsimp only at H
    refine hK2 _ _ ?_
    apply wp_seq_k; intro K30 hK30
    apply wp_region_lit
    refine sa _ rfl hk rfl rfl rfl fun a hk => ?_
    show wpList _ _ _ [] _ _
    refine wpList_nil ?_
    refine hK30 _ _ ?_
    refine wp_ret ?_
    obtain rfl := Option.some.inj H
    exact fin hk _ [(.int .i64 (-1))] rfl ⟨rfl, trivial⟩ ⟨rfl, (hs.pick [] rfl).dnil⟩

noncomputable def slices_ContainsFunc_string_string.f (l0 : List ByteArray) (q1 : ByteArray → Option (Bool)) : Option (Bool) :=
  ((slices_IndexFunc_string_string.f l0 q1).bind fun y3 => (some (decide (y3 ≥ 0))))
set_option maxRecDepth 100000 in
set_option maxHeartbeats 0 in
theorem slices_ContainsFunc_string_string_t (w0 : World) (A0_ : Option Addr) (p0_ : Nat) (l0 : List ByteArray) (k0_ : Chunk) (v0_ : View Lay.str A0_ p0_ l0 k0_) (w0_ : Has w0 k0_) (f1_ : FuncId) (c1_ : List Value) (e1_ : Enters Try.prog f1_) (q1 : ByteArray → Option (Bool)) (k1_ : Chunk) (t1_ : ∀ w, Has w k1_ → ∀ (z0 : ByteArray) (r : Bool), q1 z0 = some r → Calls Try.prog f1_ (([.string z0] : List Value) ++ c1_).toArray w (Ret (fun v w2 => v = .bool r ∧ Sat [] w w2 [] []))) (w1_ : Has w0 k1_) (r : Bool) (H : slices_ContainsFunc_string_string.f l0 q1 = some r) :
    Calls Try.prog 170 #[.slice A0_ l0.length p0_, .func (.func f1_) #[] c1_.toArray] w0 (Ret (fun v w => v = .bool r ∧ Sat [] w0 w [] [])) := by
  have hs : Sat [] w0 w0 [(1, k0_), (2, k1_)] [] := Sat.init w0 [(1, k0_), (2, k1_)] [] (by simp only [List.mem_cons, List.not_mem_nil, or_false]; rintro x (rfl | rfl) <;> assumption) (by simp) List.nodup_nil (by simp [blks])
  unfold slices_ContainsFunc_string_string.f at H
  refine enter Try.func170 rfl Try.ntmps170 rfl fun a hk => ?_
  apply wp_seq_k; intro K1 hK1
  apply wp_region_lit
  refine sa _ rfl hk rfl rfl rfl fun a hk => ?_
  show wpList _ _ _ [] _ _
  refine wpList_nil ?_
  refine hK1 _ _ ?_
  apply wp_seq_k; intro K2 hK2
  apply wp_region_lit
  refine sm _ rfl hk rfl rfl rfl fun a hk => ?_
  refine sm _ rfl hk rfl rfl rfl fun a hk => ?_
  obtain ⟨y3, h4, H⟩ := bind_some H
  refine sc rfl en190 hk rfl rfl rfl (slices_IndexFunc_string_string_t _ A0_ p0_ l0 _ v0_ (hs.hasD (k := 1) rfl) f1_ c1_ e1_ q1 k1_ t1_ (hs.hasD (k := 2) rfl) _ h4) ?_
  rintro _ w ⟨rfl, hG⟩ a hk
  have hs := hs.call0 hG
  refine sv (.bool (decide (y3 ≥ 0))) hk rfl rfl rfl fun a hk => ?_
  refine sa _ rfl hk rfl rfl rfl fun a hk => ?_
  show wpList _ _ _ [] _ _
  refine wpList_nil ?_
  refine hK2 _ _ ?_
  refine wp_ret ?_
  obtain rfl := Option.some.inj H
  exact fin hk _ [(.bool (decide (y3 ≥ 0)))] rfl ⟨rfl, trivial⟩ ⟨rfl, (hs.pick [] rfl).dnil⟩

noncomputable def impl_areAll_string__c1.f (x0 : ByteArray) (q1 : ByteArray → Option (Bool)) : Option (Bool) :=
  ((q1 x0).bind fun y3 => (some (!y3)))
set_option maxRecDepth 100000 in
set_option maxHeartbeats 0 in
theorem impl_areAll_string__c1_t (w0 : World) (x0 : ByteArray) (b1_ : Nat) (f1_ : FuncId) (c1_ : List Value) (e1_ : Enters Try.prog f1_) (q1 : ByteArray → Option (Bool)) (k1_ : Chunk) (t1_ : ∀ w, Has w k1_ → ∀ (z0 : ByteArray) (r : Bool), q1 z0 = some r → Calls Try.prog f1_ (([.string z0] : List Value) ++ c1_).toArray w (Ret (fun v w2 => v = .bool r ∧ Sat [] w w2 [] []))) (w1_ : Has w0 k1_) (h1_ : Has w0 [(b1_, .cells #[.func (.func f1_) #[] c1_.toArray] 65 (0, 0))]) (r : Bool) (H : impl_areAll_string__c1.f x0 q1 = some r) :
    Calls Try.prog 171 #[.string x0, .pointer (some ⟨b1_, 0, none⟩)] w0 (Ret (fun v w => v = .bool r ∧ Sat [] w0 w [] [])) := by
  have hs : Sat [] w0 w0 [(2, k1_), (1, [(b1_, .cells #[.func (.func f1_) #[] c1_.toArray] 65 (0, 0))])] [] := Sat.init w0 [(2, k1_), (1, [(b1_, .cells #[.func (.func f1_) #[] c1_.toArray] 65 (0, 0))])] [] (by simp only [List.mem_cons, List.not_mem_nil, or_false]; rintro x (rfl | rfl) <;> assumption) (by simp) List.nodup_nil (by simp [blks])
  unfold impl_areAll_string__c1.f at H
  refine enter Try.func171 rfl Try.ntmps171 rfl fun a hk => ?_
  apply wp_seq_k; intro K1 hK1
  apply wp_region_lit
  refine sa _ rfl hk rfl rfl rfl fun a hk => ?_
  show wpList _ _ _ [] _ _
  refine wpList_nil ?_
  refine hK1 _ _ ?_
  apply wp_seq_k; intro K2 hK2
  apply wp_region_lit
  refine sl rfl hk rfl rfl rfl ag65 (box_cellD hs (k := 1) rfl rfl) fun a hk => ?_
  refine sm _ rfl hk rfl rfl rfl fun a hk => ?_
  obtain ⟨y3, h4, H⟩ := bind_some H
  refine scv (vs := ([(.string x0)] : List Value) ++ c1_) rfl rfl e1_ hk rfl rfl rfl (t1_ _ (hs.hasD (k := 2) rfl) x0 _ h4) ?_
  rintro _ w ⟨rfl, hG⟩ a hk
  have hs := hs.call0 hG
  refine sv (.bool (!y3)) hk rfl rfl rfl fun a hk => ?_
  refine sa _ rfl hk rfl rfl rfl fun a hk => ?_
  show wpList _ _ _ [] _ _
  refine wpList_nil ?_
  refine hK2 _ _ ?_
  refine wp_ret ?_
  obtain rfl := Option.some.inj H
  exact fin hk _ [(.bool (!y3))] rfl ⟨rfl, trivial⟩ ⟨rfl, (hs.pick [] rfl).dnil⟩

noncomputable def impl_areAll_string.f (l0 : List ByteArray) (q1 : ByteArray → Option (Bool)) : Option (Bool) :=
  ((slices_ContainsFunc_string_string.f l0 (fun z0 => impl_areAll_string__c1.f z0 q1)).bind fun y4 => (some (!y4)))
set_option maxRecDepth 100000 in
set_option maxHeartbeats 0 in
theorem impl_areAll_string_t (w0 : World) (A0_ : Option Addr) (p0_ : Nat) (l0 : List ByteArray) (k0_ : Chunk) (v0_ : View Lay.str A0_ p0_ l0 k0_) (w0_ : Has w0 k0_) (f1_ : FuncId) (c1_ : List Value) (e1_ : Enters Try.prog f1_) (q1 : ByteArray → Option (Bool)) (k1_ : Chunk) (t1_ : ∀ w, Has w k1_ → ∀ (z0 : ByteArray) (r : Bool), q1 z0 = some r → Calls Try.prog f1_ (([.string z0] : List Value) ++ c1_).toArray w (Ret (fun v w2 => v = .bool r ∧ Sat [] w w2 [] []))) (w1_ : Has w0 k1_) (r : Bool) (H : impl_areAll_string.f l0 q1 = some r) :
    Calls Try.prog 135 #[.slice A0_ l0.length p0_, .func (.func f1_) #[] c1_.toArray] w0 (Ret (fun v w => v = .bool r ∧ Sat [] w0 w [] [])) := by
  have hs : Sat [] w0 w0 [(1, k0_), (2, k1_)] [] := Sat.init w0 [(1, k0_), (2, k1_)] [] (by simp only [List.mem_cons, List.not_mem_nil, or_false]; rintro x (rfl | rfl) <;> assumption) (by simp) List.nodup_nil (by simp [blks])
  unfold impl_areAll_string.f at H
  refine enter Try.func135 rfl Try.ntmps135 rfl fun a hk => ?_
  apply wp_seq_k; intro K1 hK1
  apply wp_region_lit
  refine sbx 3 hs rfl hk rfl rfl rfl rfl fun b2 w a hk hs => ?_
  refine sa _ rfl hk rfl rfl rfl fun a hk => ?_
  show wpList _ _ _ [] _ _
  refine wpList_nil ?_
  refine hK1 _ _ ?_
  apply wp_seq_k; intro K3 hK3
  apply wp_region_lit
  refine sm _ rfl hk rfl rfl rfl fun a hk => ?_
  refine smf (cs := [.pointer (some ⟨b2, 0, none⟩)]) rfl hk rfl rfl rfl fun a hk => ?_
  obtain ⟨y4, h5, H⟩ := bind_some H
  refine sc rfl en170 hk rfl rfl rfl (slices_ContainsFunc_string_string_t _ A0_ p0_ l0 _ v0_ (hs.hasD (k := 1) rfl) 171 [.pointer (some ⟨b2, 0, none⟩)] en171 (fun z0 => impl_areAll_string__c1.f z0 q1) ([(b2, .cells #[.func (.func f1_) #[] c1_.toArray] 65 (0, 0))] ++ k1_) (fun w hz z0 r h => impl_areAll_string__c1_t w z0 _ f1_ c1_ e1_ q1 k1_ t1_ (Has.right hz) (Has.left hz) r h) (Has.app (hs.hasG (k := 3) rfl) (hs.hasD (k := 2) rfl)) _ h5) ?_
  rintro _ w ⟨rfl, hG⟩ a hk
  have hs := hs.call0 hG
  refine sv (.bool (!y4)) hk rfl rfl rfl fun a hk => ?_
  refine sa _ rfl hk rfl rfl rfl fun a hk => ?_
  show wpList _ _ _ [] _ _
  refine wpList_nil ?_
  refine hK3 _ _ ?_
  refine wp_ret ?_
  obtain rfl := Option.some.inj H
  exact fin hk _ [(.bool (!y4))] rfl ⟨rfl, trivial⟩ ⟨rfl, (hs.pick [] rfl).dnil⟩

noncomputable def impl_areShort_c1.f (x0 : ByteArray) : Option (Bool) :=
  (some (decide ((x0.size : Int) ≤ 65536)))
set_option maxRecDepth 100000 in
set_option maxHeartbeats 0 in
theorem impl_areShort_c1_t (w0 : World) (x0 : ByteArray) (r : Bool) (H : impl_areShort_c1.f x0 = some r) :
    Calls Try.prog 136 #[.string x0] w0 (Ret (fun v w => v = .bool r ∧ Sat [] w0 w [] [])) := by
  have hs : Sat [] w0 w0 [] [] := Sat.init w0 [] [] (by simp) (by simp) List.nodup_nil (by simp [blks])
  unfold impl_areShort_c1.f at H
  refine enter Try.func136 rfl Try.ntmps136 rfl fun a hk => ?_
  apply wp_seq_k; intro K1 hK1
  apply wp_region_lit
  refine sa _ rfl hk rfl rfl rfl fun a hk => ?_
  show wpList _ _ _ [] _ _
  refine wpList_nil ?_
  refine hK1 _ _ ?_
  apply wp_seq_k; intro K2 hK2
  apply wp_region_lit
  refine sm _ rfl hk rfl rfl rfl fun a hk => ?_
  refine sles rfl hk rfl rfl rfl un9 fun a hk => ?_
  refine sv (.bool (decide ((x0.size : Int) ≤ 65536))) hk rfl rfl rfl fun a hk => ?_
  refine sa _ rfl hk rfl rfl rfl fun a hk => ?_
  show wpList _ _ _ [] _ _
  refine wpList_nil ?_
  refine hK2 _ _ ?_
  refine wp_ret ?_
  obtain rfl := Option.some.inj H
  exact fin hk _ [(.bool (decide ((x0.size : Int) ≤ 65536)))] rfl ⟨rfl, trivial⟩ ⟨rfl, (hs.pick [] rfl).dnil⟩

noncomputable def impl_areShort.f (l0 : List ByteArray) : Option (Bool) :=
  ((impl_areAll_string.f l0 impl_areShort_c1.f).bind fun y3 => (some y3))
set_option maxRecDepth 100000 in
set_option maxHeartbeats 0 in
theorem impl_areShort_t (w0 : World) (A0_ : Option Addr) (p0_ : Nat) (l0 : List ByteArray) (k0_ : Chunk) (v0_ : View Lay.str A0_ p0_ l0 k0_) (w0_ : Has w0 k0_) (r : Bool) (H : impl_areShort.f l0 = some r) :
    Calls Try.prog 86 #[.slice A0_ l0.length p0_] w0 (Ret (fun v w => v = .bool r ∧ Sat [] w0 w [] [])) := by
  have hs : Sat [] w0 w0 [(1, k0_)] [] := Sat.init w0 [(1, k0_)] [] (by simp only [List.mem_cons, List.not_mem_nil, or_false]; rintro x (rfl) <;> assumption) (by simp) List.nodup_nil (by simp [blks])
  unfold impl_areShort.f at H
  refine enter Try.func86 rfl Try.ntmps86 rfl fun a hk => ?_
  apply wp_seq_k; intro K1 hK1
  apply wp_region_lit
  refine sa _ rfl hk rfl rfl rfl fun a hk => ?_
  show wpList _ _ _ [] _ _
  refine wpList_nil ?_
  refine hK1 _ _ ?_
  apply wp_seq_k; intro K2 hK2
  apply wp_region_lit
  refine sm _ rfl hk rfl rfl rfl fun a hk => ?_
  obtain ⟨y3, h4, H⟩ := bind_some H
  refine sc rfl en135 hk rfl rfl rfl (impl_areAll_string_t _ A0_ p0_ l0 _ v0_ (hs.hasD (k := 1) rfl) 136 [] en136 impl_areShort_c1.f [] (fun w _ z0 r h => impl_areShort_c1_t w z0 r h) (Has.nil _) _ h4) ?_
  rintro _ w ⟨rfl, hG⟩ a hk
  have hs := hs.call0 hG
  refine sa _ rfl hk rfl rfl rfl fun a hk => ?_
  show wpList _ _ _ [] _ _
  refine wpList_nil ?_
  refine hK2 _ _ ?_
  refine wp_ret ?_
  obtain rfl := Option.some.inj H
  exact fin hk _ [(.bool y3)] rfl ⟨rfl, trivial⟩ ⟨rfl, (hs.pick [] rfl).dnil⟩

noncomputable def impl_hexOf.s0 (x0 : ByteArray) (u18 : List Int) (u17 : Int) : Option (((List Int) × Int) ⊕ Ex ((List Int)) (ByteArray)) :=
  (bif (decide (u17 < ((bytesOf x0).length : Int))) then (if 0 ≤ u17 ∧ u17 < ((bytesOf x0).length : Int) then (if 0 ≤ (Int.fdiv ((bytesOf x0).getD u17.toNat 0) (2 ^ 4)) ∧ (Int.fdiv ((bytesOf x0).getD u17.toNat 0) (2 ^ 4)) < ((⟨#[48, 49, 50, 51, 52, 53, 54, 55, 56, 57, 97, 98, 99, 100, 101, 102]⟩ : ByteArray).size : Int) then (if 0 ≤ (IntKind.wrap .u8 ((BitVec.ofInt 8 ((bytesOf x0).getD u17.toNat 0) &&& BitVec.ofInt 8 15).toNat : Int)) ∧ (IntKind.wrap .u8 ((BitVec.ofInt 8 ((bytesOf x0).getD u17.toNat 0) &&& BitVec.ofInt 8 15).toNat : Int)) < ((⟨#[48, 49, 50, 51, 52, 53, 54, 55, 56, 57, 97, 98, 99, 100, 101, 102]⟩ : ByteArray).size : Int) then (if u18.length + ([(byteAt (⟨#[48, 49, 50, 51, 52, 53, 54, 55, 56, 57, 97, 98, 99, 100, 101, 102]⟩ : ByteArray) (Int.fdiv ((bytesOf x0).getD u17.toNat 0) (2 ^ 4))), (byteAt (⟨#[48, 49, 50, 51, 52, 53, 54, 55, 56, 57, 97, 98, 99, 100, 101, 102]⟩ : ByteArray) (IntKind.wrap .u8 ((BitVec.ofInt 8 ((bytesOf x0).getD u17.toNat 0) &&& BitVec.ofInt 8 15).toNat : Int)))]).length ≤ 1073741824 then (some (.inl ((u18 ++ ([(byteAt (⟨#[48, 49, 50, 51, 52, 53, 54, 55, 56, 57, 97, 98, 99, 100, 101, 102]⟩ : ByteArray) (Int.fdiv ((bytesOf x0).getD u17.toNat 0) (2 ^ 4))), (byteAt (⟨#[48, 49, 50, 51, 52, 53, 54, 55, 56, 57, 97, 98, 99, 100, 101, 102]⟩ : ByteArray) (IntKind.wrap .u8 ((BitVec.ofInt 8 ((bytesOf x0).getD u17.toNat 0) &&& BitVec.ofInt 8 15).toNat : Int)))])), (w64 (u17 + 1))))) else none) else none) else none) else none) else (some (.inr (.out u18))))
noncomputable def impl_hexOf.f (x0 : ByteArray) : Option (ByteArray) :=
  (if x0.size ≤ 1073741824 then ((loopO (fun s => impl_hexOf.s0 x0 s.1 s.2) (([] : List Int), 0)).bind fun o => match o with | .out u23 => (some (strOfNums u23)) | .ret r => (some r)) else none)
set_option maxRecDepth 100000 in
set_option maxHeartbeats 0 in
theorem impl_hexOf_t (w0 : World) (x0 : ByteArray) (r : ByteArray) (H : impl_hexOf.f x0 = some r) :
    Calls Try.prog 99 #[.string x0] w0 (Ret (fun v w => v = .string r ∧ Sat [] w0 w [] [])) := by
  have hs : Sat [] w0 w0 [] [] := Sat.init w0 [] [] (by simp) (by simp) List.nodup_nil (by simp [blks])
  unfold impl_hexOf.f at H
  refine enter Try.func99 rfl Try.ntmps99 rfl fun a hk => ?_
  apply wp_seq_k; intro K1 hK1
  apply wp_region_lit
  refine sa _ rfl hk rfl rfl rfl fun a hk => ?_
  show wpList _ _ _ [] _ _
  refine wpList_nil ?_
  refine hK1 _ _ ?_
  apply wp_seq_k; intro K2 hK2
  apply wp_region_lit
  refine sa _ rfl hk rfl rfl rfl fun a hk => ?_
  show wpList _ _ _ [] _ _
  refine wpList_nil ?_
  refine hK2 _ _ ?_
  apply wp_seq_k; intro K3 hK3
  apply wp_seq_k; intro K4 hK4
  apply wp_region_lit
  refine sm _ rfl hk rfl rfl rfl fun a hk => ?_
  rcases ite_some H with ⟨c5, H⟩ | ⟨_, H⟩
  rotate_left
  · cases H
  refine scb 1 hs rfl hk rfl rfl rfl un9 un74 un5 c5 fun b6 p7 k8 w a hk o9 hs => ?_
  refine sle rfl hk rfl rfl rfl un74 fun a hk => ?_
  refine sm _ rfl hk rfl rfl rfl fun a hk => ?_
  show wpList _ _ _ [] _ _
  refine wpList_nil ?_
  refine hK4 _ _ ?_
  obtain ⟨o28, h29, HL30⟩ := bind_some H
  clear H
  obtain ⟨R31, hR31⟩ : ∃ R : Act → World → Prop, R = fun a w => ∃ (u23 : List Int) (A26 : Option Addr) (p27 : Nat) (k24 : Chunk), o28 = .out u23 ∧ Kn [(3, (.slice A26 u23.length p27))] 25 a ∧ Sat [] w0 w [] [(4, k24)] ∧ Own (Lay.int .u8) 5 A26 p27 u23 k24 := ⟨_, rfl⟩
  refine wp_cutq R31 ?_ ?_
  · refine wp_block ?_
    obtain ⟨fu33, h29⟩ := loopO_some h29
    obtain ⟨I32, hI32⟩ : ∃ I : Nat → Act → World → Prop, I = fun fu a w => ∃ (u18 : List Int) (u17 : Int) (A21 : Option Addr) (p22 : Nat) (k19 : Chunk), loopN (fun s => impl_hexOf.s0 x0 s.1 s.2) fu (u18, u17) = some o28 ∧ Kn [(3, (.slice A21 u18.length p22)), (7, (.slice (some ⟨b6, 0, none⟩) (bytesOf x0).length p7)), (8, (.int .i64 ((bytesOf x0).length : Int))), (9, (.int .i64 u17))] 25 a ∧ Sat [] w0 w [] [(4, k19), (1, k8)] ∧ Own (Lay.int .u8) 5 A21 p22 u18 k19 := ⟨_, rfl⟩
    refine wp_loop_ghost I32 fu33 ?_ ?_
    · rw [hI32]
      exact ⟨([] : List Int), 0, none, 0, _, h29, (hk.c 3 rfl (hk.c 7 rfl (hk.c 8 rfl (hk.c 9 rfl hk.k)))), ((hs.addNil 1004).pick [(4, 1004), (1, 1)] rfl), Own.nil _ _⟩
    · clear h29 hk hs
      intro fu33 a w hI0
      rw [hI32] at hI0
      obtain ⟨u18, u17, A21, p22, k19, hi, hk, hs, o20⟩ := hI0
      obtain ⟨x34, H, h35⟩ := loop_round hi
      try dsimp only at H
      unfold impl_hexOf.s0 at H
      apply wp_seq_k; intro K36 hK36
      apply wp_region_lit
      refine sv (.bool (decide (u17 < ((bytesOf x0).length : Int)))) hk rfl rfl rfl fun a hk => ?_
      show wpList _ _ _ [] _ _
      refine wpList_nil ?_
      refine hK36 _ _ ?_
      apply wp_seq_k; intro K37 hK37
      rcases cond_some H with ⟨c38, H⟩ | ⟨c38, H⟩
      · have hk := hk.lit 10 c38 rfl
        refine cnd_true hk rfl rfl ?_
        refine wp_skip ?_
        refine hK37 _ _ ?_
        apply wp_seq_k; intro K39 hK39
        refine wp_block ?_
        apply wp_seq_k; intro K40 hK40
        apply wp_region_lit
        rcases ite_some H with ⟨c41, H⟩ | ⟨_, H⟩
        rotate_left
        · cases H
        obtain ⟨b42, q43, hAc41⟩ := (o9.view).some_ u17 c41.1 c41.2
        refine si rfl hk rfl rfl rfl rfl un74 sz5 c41.1 c41.2 hAc41 fun a hk => ?_
        obtain ⟨_, rfl, e44⟩ := (o9.view).at_ 0 u17 c41.1 c41.2
        refine sl (v := (.int .u8 ((bytesOf x0).getD u17.toNat 0))) rfl hk rfl rfl rfl ag5 ((e44 0 _ rfl).cell (hs.hasG (k := 1) rfl)) fun a hk => ?_
        refine sa _ rfl hk rfl rfl rfl fun a hk => ?_
        show wpList _ _ _ [] _ _
        refine wpList_nil ?_
        refine hK40 _ _ ?_
        refine wp_region_tree (.q 0 (.q 1 (.q 2 (.q 3 (.alt 4 (.alt 5 (.alt 6 (.alt 7 (.alt 8 (.last 9) .stop) .stop) .stop) .stop) .stop))))) mo (by kernel_rfl) (hs.pick [(1, 1)] rfl) fun _ => ?_
        have hs := hs.drew
        refine tqst (.slice A21 u18.length p22) hk rfl rfl rfl rfl (fun w hs => sm _ rfl hk rfl rfl rfl fun a hk => qe hk) fun a hk => ?_
        refine tqst (.int .u8 ((bytesOf x0).getD u17.toNat 0)) hk rfl rfl rfl rfl (fun w hs => sm _ rfl hk rfl rfl rfl fun a hk => qe hk) fun a hk => ?_
        refine tqst (.int .u8 (Int.fdiv ((bytesOf x0).getD u17.toNat 0) (2 ^ 4))) hk rfl rfl rfl rfl (fun w hs => sv (.int .u8 (Int.fdiv ((bytesOf x0).getD u17.toNat 0) (2 ^ 4))) hk rfl rfl rfl fun a hk => qe hk) fun a hk => ?_
        rcases ite_some H with ⟨c46, H⟩ | ⟨_, H⟩
        rotate_left
        · cases H
        refine tqst (.int .u8 (byteAt (⟨#[48, 49, 50, 51, 52, 53, 54, 55, 56, 57, 97, 98, 99, 100, 101, 102]⟩ : ByteArray) (Int.fdiv ((bytesOf x0).getD u17.toNat 0) (2 ^ 4)))) hk rfl rfl rfl rfl (fun w hs => six rfl hk rfl rfl rfl rfl un9 c46.1 c46.2 fun a hk => qe hk) fun a hk => ?_
        refine tsst hk rfl rfl (fun K_r45_4 hK_r45_4 w hF => ?_) wt_stop
        have hs := hs.f hF
        refine sm _ rfl hk rfl rfl rfl fun a hk => ?_
        refine se (hs.pick [(1, 1)] rfl) hk (hK_r45_4 _ _ ?_)
        refine tsst hk rfl rfl (fun K_r45_5 hK_r45_5 w hF => ?_) wt_stop
        have hs := hs.f hF
        refine sv (.int .u8 (IntKind.wrap .u8 ((BitVec.ofInt 8 ((bytesOf x0).getD u17.toNat 0) &&& BitVec.ofInt 8 15).toNat : Int))) hk rfl rfl rfl fun a hk => ?_
        refine se (hs.pick [(1, 1)] rfl) hk (hK_r45_5 _ _ ?_)
        refine tsst hk rfl rfl (fun K_r45_6 hK_r45_6 w hF => ?_) wt_stop
        have hs := hs.f hF
        rcases ite_some H with ⟨c47, H⟩ | ⟨_, H⟩
        rotate_left
        · cases H
        refine six rfl hk rfl rfl rfl rfl un9 c47.1 c47.2 fun a hk => ?_
        refine se (hs.pick [(1, 1)] rfl) hk (hK_r45_6 _ _ ?_)
        refine tsst hk rfl rfl (fun K_r45_7 hK_r45_7 w hF => ?_) wt_stop
        have hs := hs.f hF
        refine sbs (L := (Lay.int .u8)) (pv := [(0, (.int .u8 (byteAt (⟨#[48, 49, 50, 51, 52, 53, 54, 55, 56, 57, 97, 98, 99, 100, 101, 102]⟩ : ByteArray) (Int.fdiv ((bytesOf x0).getD u17.toNat 0) (2 ^ 4))))), (1, (.int .u8 (byteAt (⟨#[48, 49, 50, 51, 52, 53, 54, 55, 56, 57, 97, 98, 99, 100, 101, 102]⟩ : ByteArray) (IntKind.wrap .u8 ((BitVec.ofInt 8 ((bytesOf x0).getD u17.toNat 0) &&& BitVec.ofInt 8 15).toNat : Int)))))]) (xs := [(byteAt (⟨#[48, 49, 50, 51, 52, 53, 54, 55, 56, 57, 97, 98, 99, 100, 101, 102]⟩ : ByteArray) (Int.fdiv ((bytesOf x0).getD u17.toNat 0) (2 ^ 4))), (byteAt (⟨#[48, 49, 50, 51, 52, 53, 54, 55, 56, 57, 97, 98, 99, 100, 101, 102]⟩ : ByteArray) (IntKind.wrap .u8 ((BitVec.ofInt 8 ((bytesOf x0).getD u17.toNat 0) &&& BitVec.ofInt 8 15).toNat : Int)))]) (ess := [[.int .u8 (byteAt (⟨#[48, 49, 50, 51, 52, 53, 54, 55, 56, 57, 97, 98, 99, 100, 101, 102]⟩ : ByteArray) (Int.fdiv ((bytesOf x0).getD u17.toNat 0) (2 ^ 4)))], [.int .u8 (byteAt (⟨#[48, 49, 50, 51, 52, 53, 54, 55, 56, 57, 97, 98, 99, 100, 101, 102]⟩ : ByteArray) (IntKind.wrap .u8 ((BitVec.ofInt 8 ((bytesOf x0).getD u17.toNat 0) &&& BitVec.ofInt 8 15).toNat : Int)))]]) 6 hs rfl hk rfl rfl rfl un74 (bs5_3 (byteAt (⟨#[48, 49, 50, 51, 52, 53, 54, 55, 56, 57, 97, 98, 99, 100, 101, 102]⟩ : ByteArray) (Int.fdiv ((bytesOf x0).getD u17.toNat 0) (2 ^ 4))) (byteAt (⟨#[48, 49, 50, 51, 52, 53, 54, 55, 56, 57, 97, 98, 99, 100, 101, 102]⟩ : ByteArray) (IntKind.wrap .u8 ((BitVec.ofInt 8 ((bytesOf x0).getD u17.toNat 0) &&& BitVec.ofInt 8 15).toNat : Int)))) (AllOwn.cons0 ⟨rfl, rfl⟩ (AllOwn.cons0 ⟨rfl, rfl⟩ AllOwn.nil)) rfl rfl rfl fun b48 k49 w a hk o50 hs => ?_
        refine se (hs.pick [(1, 1)] rfl) hk (hK_r45_7 _ _ ?_)
        refine tsst hk rfl rfl (fun K_r45_8 hK_r45_8 w hF => ?_) wt_stop
        have hs := hs.f hF
        rcases ite_some H with ⟨c51, H⟩ | ⟨_, H⟩
        rotate_left
        · cases H
        refine sap 4 (xs := u18) (ys := [(byteAt (⟨#[48, 49, 50, 51, 52, 53, 54, 55, 56, 57, 97, 98, 99, 100, 101, 102]⟩ : ByteArray) (Int.fdiv ((bytesOf x0).getD u17.toNat 0) (2 ^ 4))), (byteAt (⟨#[48, 49, 50, 51, 52, 53, 54, 55, 56, 57, 97, 98, 99, 100, 101, 102]⟩ : ByteArray) (IntKind.wrap .u8 ((BitVec.ofInt 8 ((bytesOf x0).getD u17.toNat 0) &&& BitVec.ofInt 8 15).toNat : Int)))]) (flat_flat : ((Lay.int .u8)).Flat) hs rfl o20 o50.view (hs.hasG (k := 6) rfl) rfl hk rfl rfl rfl rfl rfl rfl un74 mk5 rfl rfl rfl c51 fun A52 p53 k54 w a hk o55 hs => ?_
        refine se (hs.pick [(1, 1)] rfl) hk (hK_r45_8 _ _ ?_)
        refine tlst hk rfl rfl fun K_r45_9 hK_r45_9 w hF => ?_
        have hs := hs.f hF
        refine sa _ rfl hk rfl rfl rfl fun a hk => ?_
        refine se trivial hk (hK_r45_9 _ _ fun w hF => ?_)
        have hs := hs.f hF
        refine hK39 _ _ ?_
        apply wp_region_lit
        refine sv (.int .i64 (w64 (u17 + 1))) hk rfl rfl rfl fun a hk => ?_
        refine sm _ rfl hk rfl rfl rfl fun a hk => ?_
        show wpList _ _ _ [] _ _
        refine wpList_nil ?_
        obtain rfl := Option.some.inj H
        obtain ⟨m56, hmm56, h35⟩ := h35
        show ∃ n', n' < _ ∧ I32 n' _ _
        refine ⟨m56, hmm56, ?_⟩
        rw [hI32]
        exact ⟨(u18 ++ ([(byteAt (⟨#[48, 49, 50, 51, 52, 53, 54, 55, 56, 57, 97, 98, 99, 100, 101, 102]⟩ : ByteArray) (Int.fdiv ((bytesOf x0).getD u17.toNat 0) (2 ^ 4))), (byteAt (⟨#[48, 49, 50, 51, 52, 53, 54, 55, 56, 57, 97, 98, 99, 100, 101, 102]⟩ : ByteArray) (IntKind.wrap .u8 ((BitVec.ofInt 8 ((bytesOf x0).getD u17.toNat 0) &&& BitVec.ofInt 8 15).toNat : Int)))])), (w64 (u17 + 1)), A52, p53, _, h35, (hk.c 3 rfl (hk.c 7 rfl (hk.c 8 rfl (hk.c 9 rfl hk.k)))), (hs.pick [(4, 4), (1, 1)] rfl), o55⟩
      · have hk := hk.lit 10 c38 rfl
        refine cnd_false hk rfl rfl ?_
        refine wp_exit ?_
        obtain rfl := Option.some.inj H
        show R31 _ _
        rw [hR31]
        exact ⟨u18, A21, p22, _, h35.symm, (hk.c 3 rfl hk.k), (hs.pick [(4, 4)] rfl), o20⟩
  · intro a w hR0
    rw [hR31] at hR0
    obtain ⟨u23, A26, p27, k24, rfl, hk, hs, o25⟩ := hR0
    have H := HL30
    try dsimp only at H
    refine hK3 _ _ ?_
    apply wp_seq_k; intro K57 hK57
    apply wp_region_lit
    refine sm _ rfl hk rfl rfl rfl fun a hk => ?_
    refine sbt (xs := u23) rfl hk rfl rfl rfl rfl un74 un5 un9 o25.view (hs.hasG (k := 4) rfl) fun a hk => ?_
    refine sa _ rfl hk rfl rfl rfl fun a hk => ?_
    show wpList _ _ _ [] _ _
    refine wpList_nil ?_
    refine hK57 _ _ ?_
    refine wp_ret ?_
    obtain rfl := Option.some.inj H
    exact fin hk _ [(.string (strOfNums u23))] rfl ⟨rfl, trivial⟩ ⟨rfl, (hs.pick [] rfl).dnil⟩

noncomputable def impl_HexOf.f (x0 : ByteArray) : Option (ByteArray × Int) :=
  ((impl_areShort.f ([x0])).bind fun y7 => (bif (!y7) then (some ((⟨#[]⟩ : ByteArray), 2)) else ((impl_hexOf.f x0).bind fun y12 => (some (y12, 0)))))
set_option maxRecDepth 100000 in
set_option maxHeartbeats 0 in
theorem impl_HexOf_t (w0 : World) (x0 : ByteArray) (r : ByteArray × Int) (H : impl_HexOf.f x0 = some r) :
    Calls Try.prog 50 #[.string x0] w0 (Ret (fun v w => v = .tuple #[.string r.1, .int .i64 r.2] ∧ Sat [] w0 w [] [])) := by
  have hs : Sat [] w0 w0 [] [] := Sat.init w0 [] [] (by simp) (by simp) List.nodup_nil (by simp [blks])
  unfold impl_HexOf.f at H
  refine enter Try.func50 rfl Try.ntmps50 rfl fun a hk => ?_
  apply wp_seq_k; intro K1 hK1
  apply wp_region_lit
  refine sa _ rfl hk rfl rfl rfl fun a hk => ?_
  refine sa _ rfl hk rfl rfl rfl fun a hk => ?_
  show wpList _ _ _ [] _ _
  refine wpList_nil ?_
  refine hK1 _ _ ?_
  apply wp_seq_k; intro K2 hK2
  apply wp_seq_k; intro K3 hK3
  apply wp_region_lit
  refine sm _ rfl hk rfl rfl rfl fun a hk => ?_
  refine sbs (L := Lay.str) (pv := [(0, (.string x0))]) (xs := [x0]) (ess := [[.string x0]]) 1 hs rfl hk rfl rfl rfl un154 (bs9_4 x0) (AllOwn.cons0 ⟨rfl, rfl⟩ AllOwn.nil) rfl rfl rfl fun b4 k5 w a hk o6 hs => ?_
  obtain ⟨y7, h8, H⟩ := bind_some H
  refine sc rfl en86 hk rfl rfl rfl (impl_areShort_t _ (some ⟨b4, 0, none⟩) 1 ([x0]) _ o6.view (hs.hasG (k := 1) rfl) _ h8) ?_
  rintro _ w ⟨rfl, hG⟩ a hk
  have hs := hs.call0 hG
  refine sv (.bool (!y7)) hk rfl rfl rfl fun a hk => ?_
  show wpList _ _ _ [] _ _
  refine wpList_nil ?_
  refine hK3 _ _ ?_
  rcases cond_some H with ⟨c9, H⟩ | ⟨c9, H⟩
  · have hk := hk.lit 7 c9 rfl
    refine cnd_true hk rfl rfl ?_
    apply wp_seq_k; intro K10 hK10
    apply wp_region_lit
    refine sa _ rfl hk rfl rfl rfl fun a hk => ?_
    refine sa _ rfl hk rfl rfl rfl fun a hk => ?_
    show wpList _ _ _ [] _ _
    refine wpList_nil ?_
    refine hK10 _ _ ?_
    refine wp_ret ?_
    obtain rfl := Option.some.inj H
    exact fin hk _ [(.string (⟨#[]⟩ : ByteArray)), (.int .i64 2)] rfl ⟨rfl, ⟨rfl, trivial⟩⟩ ⟨rfl, (hs.pick [] rfl).dnil⟩
  · have hk := hk.lit 7 c9 rfl
    refine cnd_false hk rfl rfl ?_
    refine wp_skip ?_
    refine hK2 _ _ ?_
    apply wp_seq_k; intro K11 hK11
    apply wp_region_lit
    refine sm _ rfl hk rfl rfl rfl fun a hk => ?_
    obtain ⟨y12, h13, H⟩ := bind_some H
    refine sc rfl en99 hk rfl rfl rfl (impl_hexOf_t _ x0 _ h13) ?_
    rintro _ w ⟨rfl, hG⟩ a hk
    have hs := hs.call0 hG
    refine sa _ rfl hk rfl rfl rfl fun a hk => ?_
    refine sa _ rfl hk rfl rfl rfl fun a hk => ?_
    show wpList _ _ _ [] _ _
    refine wpList_nil ?_
    refine hK11 _ _ ?_
    refine wp_ret ?_
    obtain rfl := Option.some.inj H
    exact fin hk _ [(.string y12), (.int .i64 0)] rfl ⟨rfl, ⟨rfl, trivial⟩⟩ ⟨rfl, (hs.pick [] rfl).dnil⟩

noncomputable def spec_l01Hex.s0 (x0 : ByteArray) (u15 : List Int) (u14 : Int) : Option (((List Int) × Int) ⊕ Ex ((List Int)) (ByteArray)) :=
  (bif (decide (u14 < (x0.size : Int))) then (if 0 ≤ u14 ∧ u14 < (x0.size : Int) then (if 0 ≤ (Int.fdiv (byteAt x0 u14) (2 ^ 4)) ∧ (Int.fdiv (byteAt x0 u14) (2 ^ 4)) < ((⟨#[48, 49, 50, 51, 52, 53, 54, 55, 56, 57, 97, 98, 99, 100, 101, 102]⟩ : ByteArray).size : Int) then (if 0 ≤ u14 ∧ u14 < (x0.size : Int) then (if 0 ≤ (IntKind.wrap .u8 ((BitVec.ofInt 8 (byteAt x0 u14) &&& BitVec.ofInt 8 15).toNat : Int)) ∧ (IntKind.wrap .u8 ((BitVec.ofInt 8 (byteAt x0 u14) &&& BitVec.ofInt 8 15).toNat : Int)) < ((⟨#[48, 49, 50, 51, 52, 53, 54, 55, 56, 57, 97, 98, 99, 100, 101, 102]⟩ : ByteArray).size : Int) then (if u15.length + ([(byteAt (⟨#[48, 49, 50, 51, 52, 53, 54, 55, 56, 57, 97, 98, 99, 100, 101, 102]⟩ : ByteArray) (Int.fdiv (byteAt x0 u14) (2 ^ 4))), (byteAt (⟨#[48, 49, 50, 51, 52, 53, 54, 55, 56, 57, 97, 98, 99, 100, 101, 102]⟩ : ByteArray) (IntKind.wrap .u8 ((BitVec.ofInt 8 (byteAt x0 u14) &&& BitVec.ofInt 8 15).toNat : Int)))]).length ≤ 1073741824 then (some (.inl ((u15 ++ ([(byteAt (⟨#[48, 49, 50, 51, 52, 53, 54, 55, 56, 57, 97, 98, 99, 100, 101, 102]⟩ : ByteArray) (Int.fdiv (byteAt x0 u14) (2 ^ 4))), (byteAt (⟨#[48, 49, 50, 51, 52, 53, 54, 55, 56, 57, 97, 98, 99, 100, 101, 102]⟩ : ByteArray) (IntKind.wrap .u8 ((BitVec.ofInt 8 (byteAt x0 u14) &&& BitVec.ofInt 8 15).toNat : Int)))])), (w64 (u14 + 1))))) else none) else none) else none) else none) else none) else (some (.inr (.out u15))))
noncomputable def spec_l01Hex.f (x0 : ByteArray) : Option (ByteArray) :=
  ((loopO (fun s => spec_l01Hex.s0 x0 s.1 s.2) (([] : List Int), 0)).bind fun o => match o with | .out u20 => (some (strOfNums u20)) | .ret r => (some r))
set_option maxRecDepth 100000 in
set_option maxHeartbeats 0 in
theorem spec_l01Hex_t (w0 : World) (x0 : ByteArray) (r : ByteArray) (H : spec_l01Hex.f x0 = some r) :
    Calls Try.prog 100 #[.string x0] w0 (Ret (fun v w => v = .string r ∧ Sat [] w0 w [] [])) := by
  have hs : Sat [] w0 w0 [] [] := Sat.init w0 [] [] (by simp) (by simp) List.nodup_nil (by simp [blks])
  unfold spec_l01Hex.f at H
  refine enter Try.func100 rfl Try.ntmps100 rfl fun a hk => ?_
  apply wp_seq_k; intro K1 hK1
  apply wp_region_lit
  refine sa _ rfl hk rfl rfl rfl fun a hk => ?_
  show wpList _ _ _ [] _ _
  refine wpList_nil ?_
  refine hK1 _ _ ?_
  apply wp_seq_k; intro K2 hK2
  apply wp_region_lit
  refine sbs0 1 (Lay.int .u8) hs rfl hk rfl rfl un74 sz5 fun b3 k4 w a hk o5 hs => ?_
  refine sa _ rfl hk rfl rfl rfl fun a hk => ?_
  show wpList _ _ _ [] _ _
  refine wpList_nil ?_
  refine hK2 _ _ ?_
  apply wp_seq_k; intro K6 hK6
  apply wp_seq_k; intro K7 hK7
  apply wp_region_lit
  refine sa _ rfl hk rfl rfl rfl fun a hk => ?_
  show wpList _ _ _ [] _ _
  refine wpList_nil ?_
  refine hK7 _ _ ?_
  obtain ⟨o25, h26, HL27⟩ := bind_some H
  clear H
  obtain ⟨R28, hR28⟩ : ∃ R : Act → World → Prop, R = fun a w => ∃ (u20 : List Int) (A23 : Option Addr) (p24 : Nat) (k21 : Chunk), o25 = .out u20 ∧ Kn [(3, (.slice A23 u20.length p24))] 27 a ∧ Sat [] w0 w [] [(1, k21)] ∧ Own (Lay.int .u8) 5 A23 p24 u20 k21 := ⟨_, rfl⟩
  refine wp_cutq R28 ?_ ?_
  · refine wp_block ?_
    obtain ⟨fu30, h26⟩ := loopO_some h26
    obtain ⟨I29, hI29⟩ : ∃ I : Nat → Act → World → Prop, I = fun fu a w => ∃ (u15 : List Int) (u14 : Int) (A18 : Option Addr) (p19 : Nat) (k16 : Chunk), loopN (fun s => spec_l01Hex.s0 x0 s.1 s.2) fu (u15, u14) = some o25 ∧ Kn [(0, (.string x0)), (3, (.slice A18 u15.length p19)), (4, (.int .i64 u14))] 27 a ∧ Sat [] w0 w [] [(1, k16)] ∧ Own (Lay.int .u8) 5 A18 p19 u15 k16 := ⟨_, rfl⟩
    refine wp_loop_ghost I29 fu30 ?_ ?_
    · rw [hI29]
      exact ⟨([] : List Int), 0, (some ⟨b3, 0, none⟩), 0, _, h26, (hk.c 0 rfl (hk.c 3 rfl (hk.c 4 rfl hk.k))), (hs.pick [(1, 1)] rfl), o5⟩
    · clear h26 hk hs
      intro fu30 a w hI0
      rw [hI29] at hI0
      obtain ⟨u15, u14, A18, p19, k16, hi, hk, hs, o17⟩ := hI0
      obtain ⟨x31, H, h32⟩ := loop_round hi
      try dsimp only at H
      unfold spec_l01Hex.s0 at H
      apply wp_seq_k; intro K33 hK33
      apply wp_seq_k; intro K34 hK34
      apply wp_region_lit
      refine sm _ rfl hk rfl rfl rfl fun a hk => ?_
      refine sm _ rfl hk rfl rfl rfl fun a hk => ?_
      refine sles rfl hk rfl rfl rfl un9 fun a hk => ?_
      refine sv (.bool (decide (u14 < (x0.size : Int)))) hk rfl rfl rfl fun a hk => ?_
      show wpList _ _ _ [] _ _
      refine wpList_nil ?_
      refine hK34 _ _ ?_
      rcases cond_some H with ⟨c35, H⟩ | ⟨c35, H⟩
      · have hk := hk.lit 9 c35 rfl
        refine cnd_true hk rfl rfl ?_
        refine wp_skip ?_
        refine hK33 _ _ ?_
        apply wp_seq_k; intro K36 hK36
        refine wp_block ?_
        refine wp_region_tree (.q 0 (.q 1 (.q 2 (.q 3 (.q 4 (.q 5 (.q 6 (.alt 7 (.alt 8 (.alt 9 (.alt 10 (.alt 11 (.alt 12 (.last 13) .stop) .stop) .stop) .stop) .stop) .stop)))))))) mo (by kernel_rfl) (hs.pick [] rfl) fun _ => ?_
        have hs := hs.drew
        refine tqst (.slice A18 u15.length p19) hk rfl rfl rfl rfl (fun w hs => sm _ rfl hk rfl rfl rfl fun a hk => qe hk) fun a hk => ?_
        refine tqst (.string x0) hk rfl rfl rfl rfl (fun w hs => sm _ rfl hk rfl rfl rfl fun a hk => qe hk) fun a hk => ?_
        refine tqst (.int .i64 u14) hk rfl rfl rfl rfl (fun w hs => sm _ rfl hk rfl rfl rfl fun a hk => qe hk) fun a hk => ?_
        rcases ite_some H with ⟨c38, H⟩ | ⟨_, H⟩
        rotate_left
        · cases H
        refine tqst (.int .u8 (byteAt x0 u14)) hk rfl rfl rfl rfl (fun w hs => six rfl hk rfl rfl rfl rfl un9 c38.1 c38.2 fun a hk => qe hk) fun a hk => ?_
        refine tqst (.int .u8 (Int.fdiv (byteAt x0 u14) (2 ^ 4))) hk rfl rfl rfl rfl (fun w hs => sv (.int .u8 (Int.fdiv (byteAt x0 u14) (2 ^ 4))) hk rfl rfl rfl fun a hk => qe hk) fun a hk => ?_
        rcases ite_some H with ⟨c39, H⟩ | ⟨_, H⟩
        rotate_left
        · cases H
        refine tqst (.int .u8 (byteAt (⟨#[48, 49, 50, 51, 52, 53, 54, 55, 56, 57, 97, 98, 99, 100, 101, 102]⟩ : ByteArray) (Int.fdiv (byteAt x0 u14) (2 ^ 4)))) hk rfl rfl rfl rfl (fun w hs => six rfl hk rfl rfl rfl rfl un9 c39.1 c39.2 fun a hk => qe hk) fun a hk => ?_
        refine tqst (.string x0) hk rfl rfl rfl rfl (fun w hs => sm _ rfl hk rfl rfl rfl fun a hk => qe hk) fun a hk => ?_
        refine tsst hk rfl rfl (fun K_r37_7 hK_r37_7 w hF => ?_) wt_stop
        have hs := hs.f hF
        refine sm _ rfl hk rfl rfl rfl fun a hk => ?_
        refine se (hs.pick [] rfl) hk (hK_r37_7 _ _ ?_)
        refine tsst hk rfl rfl (fun K_r37_8 hK_r37_8 w hF => ?_) wt_stop
        have hs := hs.f hF
        rcases ite_some H with ⟨c40, H⟩ | ⟨_, H⟩
        rotate_left
        · cases H
        refine six rfl hk rfl rfl rfl rfl un9 c40.1 c40.2 fun a hk => ?_
        refine se (hs.pick [] rfl) hk (hK_r37_8 _ _ ?_)
        refine tsst hk rfl rfl (fun K_r37_9 hK_r37_9 w hF => ?_) wt_stop
        have hs := hs.f hF
        refine sv (.int .u8 (IntKind.wrap .u8 ((BitVec.ofInt 8 (byteAt x0 u14) &&& BitVec.ofInt 8 15).toNat : Int))) hk rfl rfl rfl fun a hk => ?_
        refine se (hs.pick [] rfl) hk (hK_r37_9 _ _ ?_)
        refine tsst hk rfl rfl (fun K_r37_10 hK_r37_10 w hF => ?_) wt_stop
        have hs := hs.f hF
        rcases ite_some H with ⟨c41, H⟩ | ⟨_, H⟩
        rotate_left
        · cases H
        refine six rfl hk rfl rfl rfl rfl un9 c41.1 c41.2 fun a hk => ?_
        refine se (hs.pick [] rfl) hk (hK_r37_10 _ _ ?_)
        refine tsst hk rfl rfl (fun K_r37_11 hK_r37_11 w hF => ?_) wt_stop
        have hs := hs.f hF
        refine sbs (L := (Lay.int .u8)) (pv := [(0, (.int .u8 (byteAt (⟨#[48, 49, 50, 51, 52, 53, 54, 55, 56, 57, 97, 98, 99, 100, 101, 102]⟩ : ByteArray) (Int.fdiv (byteAt x0 u14) (2 ^ 4))))), (1, (.int .u8 (byteAt (⟨#[48, 49, 50, 51, 52, 53, 54, 55, 56, 57, 97, 98, 99, 100, 101, 102]⟩ : ByteArray) (IntKind.wrap .u8 ((BitVec.ofInt 8 (byteAt x0 u14) &&& BitVec.ofInt 8 15).toNat : Int)))))]) (xs := [(byteAt (⟨#[48, 49, 50, 51, 52, 53, 54, 55, 56, 57, 97, 98, 99, 100, 101, 102]⟩ : ByteArray) (Int.fdiv (byteAt x0 u14) (2 ^ 4))), (byteAt (⟨#[48, 49, 50, 51, 52, 53, 54, 55, 56, 57, 97, 98, 99, 100, 101, 102]⟩ : ByteArray) (IntKind.wrap .u8 ((BitVec.ofInt 8 (byteAt x0 u14) &&& BitVec.ofInt 8 15).toNat : Int)))]) (ess := [[.int .u8 (byteAt (⟨#[48, 49, 50, 51, 52, 53, 54, 55, 56, 57, 97, 98, 99, 100, 101, 102]⟩ : ByteArray) (Int.fdiv (byteAt x0 u14) (2 ^ 4)))], [.int .u8 (byteAt (⟨#[48, 49, 50, 51, 52, 53, 54, 55, 56, 57, 97, 98, 99, 100, 101, 102]⟩ : ByteArray) (IntKind.wrap .u8 ((BitVec.ofInt 8 (byteAt x0 u14) &&& BitVec.ofInt 8 15).toNat : Int)))]]) 4 hs rfl hk rfl rfl rfl un74 (bs5_3 (byteAt (⟨#[48, 49, 50, 51, 52, 53, 54, 55, 56, 57, 97, 98, 99, 100, 101, 102]⟩ : ByteArray) (Int.fdiv (byteAt x0 u14) (2 ^ 4))) (byteAt (⟨#[48, 49, 50, 51, 52, 53, 54, 55, 56, 57, 97, 98, 99, 100, 101, 102]⟩ : ByteArray) (IntKind.wrap .u8 ((BitVec.ofInt 8 (byteAt x0 u14) &&& BitVec.ofInt 8 15).toNat : Int)))) (AllOwn.cons0 ⟨rfl, rfl⟩ (AllOwn.cons0 ⟨rfl, rfl⟩ AllOwn.nil)) rfl rfl rfl fun b42 k43 w a hk o44 hs => ?_
        refine se (hs.pick [] rfl) hk (hK_r37_11 _ _ ?_)
        refine tsst hk rfl rfl (fun K_r37_12 hK_r37_12 w hF => ?_) wt_stop
        have hs := hs.f hF
        rcases ite_some H with ⟨c45, H⟩ | ⟨_, H⟩
        rotate_left
        · cases H
        refine sap 1 (xs := u15) (ys := [(byteAt (⟨#[48, 49, 50, 51, 52, 53, 54, 55, 56, 57, 97, 98, 99, 100, 101, 102]⟩ : ByteArray) (Int.fdiv (byteAt x0 u14) (2 ^ 4))), (byteAt (⟨#[48, 49, 50, 51, 52, 53, 54, 55, 56, 57, 97, 98, 99, 100, 101, 102]⟩ : ByteArray) (IntKind.wrap .u8 ((BitVec.ofInt 8 (byteAt x0 u14) &&& BitVec.ofInt 8 15).toNat : Int)))]) (flat_flat : ((Lay.int .u8)).Flat) hs rfl o17 o44.view (hs.hasG (k := 4) rfl) rfl hk rfl rfl rfl rfl rfl rfl un74 mk5 rfl rfl rfl c45 fun A46 p47 k48 w a hk o49 hs => ?_
        refine se (hs.pick [] rfl) hk (hK_r37_12 _ _ ?_)
        refine tlst hk rfl rfl fun K_r37_13 hK_r37_13 w hF => ?_
        have hs := hs.f hF
        refine sa _ rfl hk rfl rfl rfl fun a hk => ?_
        refine se trivial hk (hK_r37_13 _ _ fun w hF => ?_)
        have hs := hs.f hF
        refine hK36 _ _ ?_
        apply wp_region_lit
        refine sm _ rfl hk rfl rfl rfl fun a hk => ?_
        refine sv (.int .i64 (w64 (u14 + 1))) hk rfl rfl rfl fun a hk => ?_
        refine sa _ rfl hk rfl rfl rfl fun a hk => ?_
        show wpList _ _ _ [] _ _
        refine wpList_nil ?_
        obtain rfl := Option.some.inj H
        obtain ⟨m50, hmm50, h32⟩ := h32
        show ∃ n', n' < _ ∧ I29 n' _ _
        refine ⟨m50, hmm50, ?_⟩
        rw [hI29]
        exact ⟨(u15 ++ ([(byteAt (⟨#[48, 49, 50, 51, 52, 53, 54, 55, 56, 57, 97, 98, 99, 100, 101, 102]⟩ : ByteArray) (Int.fdiv (byteAt x0 u14) (2 ^ 4))), (byteAt (⟨#[48, 49, 50, 51, 52, 53, 54, 55, 56, 57, 97, 98, 99, 100, 101, 102]⟩ : ByteArray) (IntKind.wrap .u8 ((BitVec.ofInt 8 (byteAt x0 u14) &&& BitVec.ofInt 8 15).toNat : Int)))])), (w64 (u14 + 1)), A46, p47, _, h32, (hk.c 0 rfl (hk.c 3 rfl (hk.c 4 rfl hk.k))), (hs.pick [(1, 1)] rfl), o49⟩
      · have hk := hk.lit 9 c35 rfl
        refine cnd_false hk rfl rfl ?_
        refine wp_exit ?_
        obtain rfl := Option.some.inj H
        show R28 _ _
        rw [hR28]
        exact ⟨u15, A18, p19, _, h32.symm, (hk.c 3 rfl hk.k), (hs.pick [(1, 1)] rfl), o17⟩
  · intro a w hR0
    rw [hR28] at hR0
    obtain ⟨u20, A23, p24, k21, rfl, hk, hs, o22⟩ := hR0
    have H := HL27
    try dsimp only at H
    refine hK6 _ _ ?_
    apply wp_seq_k; intro K51 hK51
    apply wp_region_lit
    refine sm _ rfl hk rfl rfl rfl fun a hk => ?_
    refine sbt (xs := u20) rfl hk rfl rfl rfl rfl un74 un5 un9 o22.view (hs.hasG (k := 1) rfl) fun a hk => ?_
    refine sa _ rfl hk rfl rfl rfl fun a hk => ?_
    show wpList _ _ _ [] _ _
    refine wpList_nil ?_
    refine hK51 _ _ ?_
    refine wp_ret ?_
    obtain rfl := Option.some.inj H
    exact fin hk _ [(.string (strOfNums u20))] rfl ⟨rfl, trivial⟩ ⟨rfl, (hs.pick [] rfl).dnil⟩

noncomputable def spec_HexOf.f (x0 : ByteArray) : Option (ByteArray × Int) :=
  (bif (decide ((x0.size : Int) > 65536)) then (some ((⟨#[]⟩ : ByteArray), 2)) else ((spec_l01Hex.f x0).bind fun y7 => (some (y7, 0))))
set_option maxRecDepth 100000 in
set_option maxHeartbeats 0 in
theorem spec_HexOf_t (w0 : World) (x0 : ByteArray) (r : ByteArray × Int) (H : spec_HexOf.f x0 = some r) :
    Calls Try.prog 51 #[.string x0] w0 (Ret (fun v w => v = .tuple #[.string r.1, .int .i64 r.2] ∧ Sat [] w0 w [] [])) := by
  have hs : Sat [] w0 w0 [] [] := Sat.init w0 [] [] (by simp) (by simp) List.nodup_nil (by simp [blks])
  unfold spec_HexOf.f at H
  refine enter Try.func51 rfl Try.ntmps51 rfl fun a hk => ?_
  apply wp_seq_k; intro K1 hK1
  apply wp_region_lit
  refine sa _ rfl hk rfl rfl rfl fun a hk => ?_
  refine sa _ rfl hk rfl rfl rfl fun a hk => ?_
  show wpList _ _ _ [] _ _
  refine wpList_nil ?_
  refine hK1 _ _ ?_
  apply wp_seq_k; intro K2 hK2
  apply wp_seq_k; intro K3 hK3
  apply wp_region_lit
  refine sm _ rfl hk rfl rfl rfl fun a hk => ?_
  refine sles rfl hk rfl rfl rfl un9 fun a hk => ?_
  refine sv (.bool (decide ((x0.size : Int) > 65536))) hk rfl rfl rfl fun a hk => ?_
  show wpList _ _ _ [] _ _
  refine wpList_nil ?_
  refine hK3 _ _ ?_
  rcases cond_some H with ⟨c4, H⟩ | ⟨c4, H⟩
  · have hk := hk.lit 6 c4 rfl
    refine cnd_true hk rfl rfl ?_
    apply wp_seq_k; intro K5 hK5
    apply wp_region_lit
    refine sa _ rfl hk rfl rfl rfl fun a hk => ?_
    refine sa _ rfl hk rfl rfl rfl fun a hk => ?_
    show wpList _ _ _ [] _ _
    refine wpList_nil ?_
    refine hK5 _ _ ?_
    refine wp_ret ?_
    obtain rfl := Option.some.inj H
    exact fin hk _ [(.string (⟨#[]⟩ : ByteArray)), (.int .i64 2)] rfl ⟨rfl, ⟨rfl, trivial⟩⟩ ⟨rfl, (hs.pick [] rfl).dnil⟩
  · have hk := hk.lit 6 c4 rfl
    refine cnd_false hk rfl rfl ?_
    refine wp_skip ?_
    refine hK2 _ _ ?_
    apply wp_seq_k; intro K6 hK6
    apply wp_region_lit
    refine sm _ rfl hk rfl rfl rfl fun a hk => ?_
    obtain ⟨y7, h8, H⟩ := bind_some H
    refine sc rfl en100 hk rfl rfl rfl (spec_l01Hex_t _ x0 _ h8) ?_
    rintro _ w ⟨rfl, hG⟩ a hk
    have hs := hs.call0 hG
    refine sa _ rfl hk rfl rfl rfl fun a hk => ?_
    refine sa _ rfl hk rfl rfl rfl fun a hk => ?_
    show wpList _ _ _ [] _ _
    refine wpList_nil ?_
    refine hK6 _ _ ?_
    refine wp_ret ?_
    obtain rfl := Option.some.inj H
    exact fin hk _ [(.string y7), (.int .i64 0)] rfl ⟨rfl, ⟨rfl, trivial⟩⟩ ⟨rfl, (hs.pick [] rfl).dnil⟩


noncomputable def internal_stringslite_IndexByte.f (x0 : ByteArray) (x1 : Int) : Option (Int) :=
  (some (idxB x0 x1))
set_option maxRecDepth 100000 in
set_option maxHeartbeats 0 in
theorem internal_stringslite_IndexByte_t (w0 : World) (x0 : ByteArray) (x1 : Int) (r : Int) (H : internal_stringslite_IndexByte.f x0 x1 = some r) :
    Calls Try.prog 148 #[.string x0, .int .u8 x1] w0 (Ret (fun v w => v = .int .i64 r ∧ Sat [] w0 w [] [])) := by
  have hs : Sat [] w0 w0 [] [] := Sat.init w0 [] [] (by simp) (by simp) List.nodup_nil (by simp [blks])
  unfold internal_stringslite_IndexByte.f at H
  refine enter Try.func148 rfl Try.ntmps148 rfl fun a hk => ?_
  apply wp_seq_k; intro K1 hK1
  apply wp_region_lit
  refine sa _ rfl hk rfl rfl rfl fun a hk => ?_
  show wpList _ _ _ [] _ _
  refine wpList_nil ?_
  refine hK1 _ _ ?_
  apply wp_seq_k; intro K2 hK2
  apply wp_region_lit
  refine sm _ rfl hk rfl rfl rfl fun a hk => ?_
  refine sm _ rfl hk rfl rfl rfl fun a hk => ?_
  refine sce (v := (.int .i64 (idxB x0 x1))) rfl (xi175 x0 x1) hk rfl rfl rfl fun a hk => ?_
  refine sa _ rfl hk rfl rfl rfl fun a hk => ?_
  show wpList _ _ _ [] _ _
  refine wpList_nil ?_
  refine hK2 _ _ ?_
  refine wp_ret ?_
  obtain rfl := Option.some.inj H
  exact fin hk _ [(.int .i64 (idxB x0 x1))] rfl ⟨rfl, trivial⟩ ⟨rfl, (hs.pick [] rfl).dnil⟩

noncomputable def strings_IndexByte.f (x0 : ByteArray) (x1 : Int) : Option (Int) :=
  ((internal_stringslite_IndexByte.f x0 x1).bind fun y3 => (some y3))
set_option maxRecDepth 100000 in
set_option maxHeartbeats 0 in
theorem strings_IndexByte_t (w0 : World) (x0 : ByteArray) (x1 : Int) (r : Int) (H : strings_IndexByte.f x0 x1 = some r) :
    Calls Try.prog 101 #[.string x0, .int .u8 x1] w0 (Ret (fun v w => v = .int .i64 r ∧ Sat [] w0 w [] [])) := by
  have hs : Sat [] w0 w0 [] [] := Sat.init w0 [] [] (by simp) (by simp) List.nodup_nil (by simp [blks])
  unfold strings_IndexByte.f at H
  refine enter Try.func101 rfl Try.ntmps101 rfl fun a hk => ?_
  apply wp_seq_k; intro K1 hK1
  apply wp_region_lit
  refine sa _ rfl hk rfl rfl rfl fun a hk => ?_
  show wpList _ _ _ [] _ _
  refine wpList_nil ?_
  refine hK1 _ _ ?_
  apply wp_seq_k; intro K2 hK2
  apply wp_region_lit
  refine sm _ rfl hk rfl rfl rfl fun a hk => ?_
  refine sm _ rfl hk rfl rfl rfl fun a hk => ?_
  obtain ⟨y3, h4, H⟩ := bind_some H
  refine sc rfl en148 hk rfl rfl rfl (internal_stringslite_IndexByte_t _ x0 x1 _ h4) ?_
  rintro _ w ⟨rfl, hG⟩ a hk
  have hs := hs.call0 hG
  refine sa _ rfl hk rfl rfl rfl fun a hk => ?_
  show wpList _ _ _ [] _ _
  refine wpList_nil ?_
  refine hK2 _ _ ?_
  refine wp_ret ?_
  obtain rfl := Option.some.inj H
  exact fin hk _ [(.int .i64 y3)] rfl ⟨rfl, trivial⟩ ⟨rfl, (hs.pick [] rfl).dnil⟩

noncomputable def impl_UnHex.s0 (x0 : ByteArray) (u25 : List Int) (u24 : Int) : Option (((List Int) × Int) ⊕ Ex ((List Int)) (ByteArray × Int)) :=
  (bif (decide (u24 < (x0.size : Int))) then (if 0 ≤ u24 ∧ u24 < (x0.size : Int) then ((strings_IndexByte.f (⟨#[48, 49, 50, 51, 52, 53, 54, 55, 56, 57, 97, 98, 99, 100, 101, 102]⟩ : ByteArray) (byteAt x0 u24)).bind fun y50 => (if 0 ≤ (w64 (u24 + 1)) ∧ (w64 (u24 + 1)) < (x0.size : Int) then ((strings_IndexByte.f (⟨#[48, 49, 50, 51, 52, 53, 54, 55, 56, 57, 97, 98, 99, 100, 101, 102]⟩ : ByteArray) (byteAt x0 (w64 (u24 + 1)))).bind fun y53 => (((bif (decide (y50 < 0)) then (some true) else (some (decide (y53 < 0)))) : Option (Bool)).bind fun u58 => (bif u58 then (some (.inr (.ret ((⟨#[]⟩ : ByteArray), 3)))) else (if u25.length + ([(IntKind.wrap .u8 (w64 ((w64 (16 * y50)) + y53)))]).length ≤ 1073741824 then (some (.inl ((u25 ++ ([(IntKind.wrap .u8 (w64 ((w64 (16 * y50)) + y53)))])), (w64 (u24 + 2))))) else none)))) else none)) else none) else (some (.inr (.out u25))))
noncomputable def impl_UnHex.f (x0 : ByteArray) : Option (ByteArray × Int) :=
  ((impl_areShort.f ([x0])).bind fun y7 => (bif (!y7) then (some ((⟨#[]⟩ : ByteArray), 2)) else (bif ((Int.tmod (x0.size : Int) 2) != 0) then (some ((⟨#[]⟩ : ByteArray), 3)) else ((loopO (fun s => impl_UnHex.s0 x0 s.1 s.2) (([] : List Int), 0)).bind fun o => match o with | .out u30 => (some ((strOfNums u30), 0)) | .ret r => (some r)))))
set_option maxRecDepth 100000 in
set_option maxHeartbeats 0 in
theorem impl_UnHex_t (w0 : World) (x0 : ByteArray) (r : ByteArray × Int) (H : impl_UnHex.f x0 = some r) :
    Calls Try.prog 52 #[.string x0] w0 (Ret (fun v w => v = .tuple #[.string r.1, .int .i64 r.2] ∧ Sat [] w0 w [] [])) := by
  have hs : Sat [] w0 w0 [] [] := Sat.init w0 [] [] (by simp) (by simp) List.nodup_nil (by simp [blks])
  unfold impl_UnHex.f at H
  refine enter Try.func52 rfl Try.ntmps52 rfl fun a hk => ?_
  apply wp_seq_k; intro K1 hK1
  apply wp_region_lit
  refine sa _ rfl hk rfl rfl rfl fun a hk => ?_
  refine sa _ rfl hk rfl rfl rfl fun a hk => ?_
  show wpList _ _ _ [] _ _
  refine wpList_nil ?_
  refine hK1 _ _ ?_
  apply wp_seq_k; intro K2 hK2
  refine wp_block ?_
  apply wp_seq_k; intro K3 hK3
  apply wp_region_lit
  refine sm _ rfl hk rfl rfl rfl fun a hk => ?_
  refine sbs (L := Lay.str) (pv := [(0, (.string x0))]) (xs := [x0]) (ess := [[.string x0]]) 1 hs rfl hk rfl rfl rfl un154 (bs9_4 x0) (AllOwn.cons0 ⟨rfl, rfl⟩ AllOwn.nil) rfl rfl rfl fun b4 k5 w a hk o6 hs => ?_
  obtain ⟨y7, h8, H⟩ := bind_some H
  refine sc rfl en86 hk rfl rfl rfl (impl_areShort_t _ (some ⟨b4, 0, none⟩) 1 ([x0]) _ o6.view (hs.hasG (k := 1) rfl) _ h8) ?_
  rintro _ w ⟨rfl, hG⟩ a hk
  have hs := hs.call0 hG
  refine sv (.bool (!y7)) hk rfl rfl rfl fun a hk => ?_
  refine sa _ rfl hk rfl rfl rfl fun a hk => ?_
  show wpList _ _ _ [] _ _
  refine wpList_nil ?_
  refine hK3 _ _ ?_
  rcases cond_some H with ⟨c9, H⟩ | ⟨c9, H⟩
  · have hk := hk.lit 8 c9 rfl
    refine cnd_true hk rfl rfl ?_
    apply wp_seq_k; intro K10 hK10
    apply wp_region_lit
    refine sa _ rfl hk rfl rfl rfl fun a hk => ?_
    refine sa _ rfl hk rfl rfl rfl fun a hk => ?_
    show wpList _ _ _ [] _ _
    refine wpList_nil ?_
    refine hK10 _ _ ?_
    refine wp_ret ?_
    obtain rfl := Option.some.inj H
    exact fin hk _ [(.string (⟨#[]⟩ : ByteArray)), (.int .i64 2)] rfl ⟨rfl, ⟨rfl, trivial⟩⟩ ⟨rfl, (hs.pick [] rfl).dnil⟩
  · have hk := hk.lit 8 c9 rfl
    refine cnd_false hk rfl rfl ?_
    apply wp_seq_k; intro K11 hK11
    apply wp_region_lit
    refine sm _ rfl hk rfl rfl rfl fun a hk => ?_
    refine sles rfl hk rfl rfl rfl un9 fun a hk => ?_
    refine sv (.int .i64 (Int.tmod (x0.size : Int) 2)) hk rfl rfl rfl fun a hk => ?_
    refine sv (.bool ((Int.tmod (x0.size : Int) 2) != 0)) hk rfl rfl rfl fun a hk => ?_
    refine sa _ rfl hk rfl rfl rfl fun a hk => ?_
    show wpList _ _ _ [] _ _
    refine wpList_nil ?_
    refine hK11 _ _ ?_
    rcases cond_some H with ⟨c12, H⟩ | ⟨c12, H⟩
    · have hk := hk.lit 13 c12 rfl
      refine cnd_true hk rfl rfl ?_
      apply wp_seq_k; intro K13 hK13
      apply wp_region_lit
      refine sa _ rfl hk rfl rfl rfl fun a hk => ?_
      refine sa _ rfl hk rfl rfl rfl fun a hk => ?_
      show wpList _ _ _ [] _ _
      refine wpList_nil ?_
      refine hK13 _ _ ?_
      refine wp_ret ?_
      obtain rfl := Option.some.inj H
      exact fin hk _ [(.string (⟨#[]⟩ : ByteArray)), (.int .i64 3)] rfl ⟨rfl, ⟨rfl, trivial⟩⟩ ⟨rfl, (hs.pick [] rfl).dnil⟩
    · have hk := hk.lit 13 c12 rfl
      refine cnd_false hk rfl rfl ?_
      refine wp_skip ?_
      refine hK2 _ _ ?_
      apply wp_seq_k; intro K14 hK14
      apply wp_region_lit
      refine sa _ rfl hk rfl rfl rfl fun a hk => ?_
      show wpList _ _ _ [] _ _
      refine wpList_nil ?_
      refine hK14 _ _ ?_
      apply wp_seq_k; intro K15 hK15
      apply wp_seq_k; intro K16 hK16
      apply wp_region_lit
      refine sa _ rfl hk rfl rfl rfl fun a hk => ?_
      show wpList _ _ _ [] _ _
      refine wpList_nil ?_
      refine hK16 _ _ ?_
      obtain ⟨o35, h36, HL37⟩ := bind_some H
      clear H
      obtain ⟨R38, hR38⟩ : ∃ R : Act → World → Prop, R = fun a w => ∃ (u30 : List Int) (A33 : Option Addr) (p34 : Nat) (k31 : Chunk), o35 = .out u30 ∧ Kn [(4, (.slice A33 u30.length p34))] 49 a ∧ Sat [] w0 w [] [(4, k31)] ∧ Own (Lay.int .u8) 5 A33 p34 u30 k31 := ⟨_, rfl⟩
      refine wp_cutq R38 ?_ ?_
      · refine wp_block ?_
        obtain ⟨fu40, h36⟩ := loopO_some h36
        obtain ⟨I39, hI39⟩ : ∃ I : Nat → Act → World → Prop, I = fun fu a w => ∃ (u25 : List Int) (u24 : Int) (A28 : Option Addr) (p29 : Nat) (k26 : Chunk), loopN (fun s => impl_UnHex.s0 x0 s.1 s.2) fu (u25, u24) = some o35 ∧ Kn [(0, (.string x0)), (4, (.slice A28 u25.length p29)), (5, (.int .i64 u24))] 49 a ∧ Sat [] w0 w [] [(4, k26)] ∧ Own (Lay.int .u8) 5 A28 p29 u25 k26 := ⟨_, rfl⟩
        refine wp_loop_ghost I39 fu40 ?_ ?_
        · rw [hI39]
          exact ⟨([] : List Int), 0, none, 0, _, h36, (hk.c 0 rfl (hk.c 4 rfl (hk.c 5 rfl hk.k))), ((hs.addNil 1004).pick [(4, 1004)] rfl), Own.nil _ _⟩
        · clear h36 hk hs
          intro fu40 a w hI0
          rw [hI39] at hI0
          obtain ⟨u25, u24, A28, p29, k26, hi, hk, hs, o27⟩ := hI0
          obtain ⟨x41, H, h42⟩ := loop_round hi
          try dsimp only at H
          unfold impl_UnHex.s0 at H
          apply wp_seq_k; intro K43 hK43
          apply wp_seq_k; intro K44 hK44
          apply wp_region_lit
          refine sm _ rfl hk rfl rfl rfl fun a hk => ?_
          refine sm _ rfl hk rfl rfl rfl fun a hk => ?_
          refine sles rfl hk rfl rfl rfl un9 fun a hk => ?_
          refine sv (.bool (decide (u24 < (x0.size : Int)))) hk rfl rfl rfl fun a hk => ?_
          show wpList _ _ _ [] _ _
          refine wpList_nil ?_
          refine hK44 _ _ ?_
          rcases cond_some H with ⟨c45, H⟩ | ⟨c45, H⟩
          · have hk := hk.lit 21 c45 rfl
            refine cnd_true hk rfl rfl ?_
            refine wp_skip ?_
            refine hK43 _ _ ?_
            apply wp_seq_k; intro K46 hK46
            refine wp_block ?_
            apply wp_seq_k; intro K47 hK47
            refine wp_region_tree (.q 0 (.q 1 (.q 2 (.q 3 (.q 4 (.alt 5 (.alt 6 (.alt 7 (.alt 8 (.alt 9 (.last 10) .stop) .stop) .stop) .stop) .stop)))))) mo (by kernel_rfl) (hs.pick [(4, 4)] rfl) fun _ => ?_
            have hs := hs.drew
            refine tqst (.string x0) hk rfl rfl rfl rfl (fun w hs => sm _ rfl hk rfl rfl rfl fun a hk => qe hk) fun a hk => ?_
            refine tqst (.int .i64 u24) hk rfl rfl rfl rfl (fun w hs => sm _ rfl hk rfl rfl rfl fun a hk => qe hk) fun a hk => ?_
            rcases ite_some H with ⟨c49, H⟩ | ⟨_, H⟩
            rotate_left
            · cases H
            refine tqst (.int .u8 (byteAt x0 u24)) hk rfl rfl rfl rfl (fun w hs => six rfl hk rfl rfl rfl rfl un9 c49.1 c49.2 fun a hk => qe hk) fun a hk => ?_
            obtain ⟨y50, h51, H⟩ := bind_some H
            refine tqst (.int .i64 y50) hk rfl rfl rfl rfl (fun w hs => sc rfl en101 hk rfl rfl rfl (strings_IndexByte_t _ (⟨#[48, 49, 50, 51, 52, 53, 54, 55, 56, 57, 97, 98, 99, 100, 101, 102]⟩ : ByteArray) (byteAt x0 u24) _ h51) fun _ w hR a hk => qc hR hk) fun a hk => ?_
            refine tqst (.string x0) hk rfl rfl rfl rfl (fun w hs => sm _ rfl hk rfl rfl rfl fun a hk => qe hk) fun a hk => ?_
            refine tsst hk rfl rfl (fun K_r48_5 hK_r48_5 w hF => ?_) wt_stop
            have hs := hs.f hF
            refine sm _ rfl hk rfl rfl rfl fun a hk => ?_
            refine se (hs.pick [(4, 4)] rfl) hk (hK_r48_5 _ _ ?_)
            refine tsst hk rfl rfl (fun K_r48_6 hK_r48_6 w hF => ?_) wt_stop
            have hs := hs.f hF
            refine sv (.int .i64 (w64 (u24 + 1))) hk rfl rfl rfl fun a hk => ?_
            refine se (hs.pick [(4, 4)] rfl) hk (hK_r48_6 _ _ ?_)
            refine tsst hk rfl rfl (fun K_r48_7 hK_r48_7 w hF => ?_) wt_stop
            have hs := hs.f hF
            rcases ite_some H with ⟨c52, H⟩ | ⟨_, H⟩
            rotate_left
            · cases H
            refine six rfl hk rfl rfl rfl rfl un9 c52.1 c52.2 fun a hk => ?_
            refine se (hs.pick [(4, 4)] rfl) hk (hK_r48_7 _ _ ?_)
            refine tsst hk rfl rfl (fun K_r48_8 hK_r48_8 w hF => ?_) wt_stop
            have hs := hs.f hF
            obtain ⟨y53, h54, H⟩ := bind_some H
            refine sc rfl en101 hk rfl rfl rfl (strings_IndexByte_t _ (⟨#[48, 49, 50, 51, 52, 53, 54, 55, 56, 57, 97, 98, 99, 100, 101, 102]⟩ : ByteArray) (byteAt x0 (w64 (u24 + 1))) _ h54) ?_
            rintro _ w ⟨rfl, hG⟩ a hk
            have hs := hs.call0 hG
            refine se (hs.pick [(4, 4)] rfl) hk (hK_r48_8 _ _ ?_)
            refine tsst hk rfl rfl (fun K_r48_9 hK_r48_9 w hF => ?_) wt_stop
            have hs := hs.f hF
            refine sa _ rfl hk rfl rfl rfl fun a hk => ?_
            refine se (hs.pick [(4, 4)] rfl) hk (hK_r48_9 _ _ ?_)
            refine tlst hk rfl rfl fun K_r48_10 hK_r48_10 w hF => ?_
            have hs := hs.f hF
            refine sa _ rfl hk rfl rfl rfl fun a hk => ?_
            refine se trivial hk (hK_r48_10 _ _ fun w hF => ?_)
            have hs := hs.f hF
            refine hK47 _ _ ?_
            apply wp_seq_k; intro K55 hK55
            apply wp_seq_k; intro K56 hK56
            obtain ⟨o59, h60, HL61⟩ := bind_some H
            clear H
            obtain ⟨R62, hR62⟩ : ∃ R : Act → World → Prop, R = fun a w => ∃ (u58 : Bool), u58 = o59 ∧ Kn [(0, (.string x0)), (4, (.slice A28 u25.length p29)), (5, (.int .i64 u24)), (6, (.int .i64 y50)), (7, (.int .i64 y53)), (38, (.bool u58))] 49 a ∧ Sat [] w0 w [] [(4, k26)] := ⟨_, rfl⟩
            refine wp_cutq R62 ?_ ?_
            · have H := h60
              apply wp_region_lit
              refine sm _ rfl hk rfl rfl rfl fun a hk => ?_
              refine sv (.bool (decide (y50 < 0))) hk rfl rfl rfl fun a hk => ?_
              refine sm _ rfl hk rfl rfl rfl fun a hk => ?_
              rcases cond_some H with ⟨c63, H⟩ | ⟨c63, H⟩
              · have hk := hk.lit 35 c63 rfl
                refine sk hk rfl rfl rfl fun a hk => ?_
                refine sk hk rfl rfl rfl fun a hk => ?_
                refine sv (.bool true) hk rfl rfl rfl fun a hk => ?_
                show wpList _ _ _ [] _ _
                refine wpList_nil ?_
                obtain rfl := Option.some.inj H
                show R62 _ _
                rw [hR62]
                exact ⟨true, rfl, (hk.c 0 rfl (hk.c 4 rfl (hk.c 5 rfl (hk.c 6 rfl (hk.c 7 rfl (hk.c 38 rfl hk.k)))))), (hs.pick [(4, 4)] rfl)⟩
              · have hk := hk.lit 35 c63 rfl
                refine sm _ rfl hk rfl rfl rfl fun a hk => ?_
                refine sv (.bool (decide (y53 < 0))) hk rfl rfl rfl fun a hk => ?_
                refine sv (.bool (decide (y53 < 0))) hk rfl rfl rfl fun a hk => ?_
                show wpList _ _ _ [] _ _
                refine wpList_nil ?_
                obtain rfl := Option.some.inj H
                show R62 _ _
                rw [hR62]
                exact ⟨(decide (y53 < 0)), rfl, (hk.c 0 rfl (hk.c 4 rfl (hk.c 5 rfl (hk.c 6 rfl (hk.c 7 rfl (hk.c 38 rfl hk.k)))))), (hs.pick [(4, 4)] rfl)⟩
            · intro a w hR0
              rw [hR62] at hR0
              obtain ⟨u58, rfl, hk, hs⟩ := hR0
              have H := HL61
              try dsimp only at H
              refine hK56 _ _ ?_
              rcases cond_some H with ⟨c64, H⟩ | ⟨c64, H⟩
              · have hk := hk.lit 38 c64 rfl
                refine cnd_true hk rfl rfl ?_
                apply wp_seq_k; intro K65 hK65
                apply wp_region_lit
                refine sa _ rfl hk rfl rfl rfl fun a hk => ?_
                refine sa _ rfl hk rfl rfl rfl fun a hk => ?_
                show wpList _ _ _ [] _ _
                refine wpList_nil ?_
                refine hK65 _ _ ?_
                refine wp_ret ?_
                obtain rfl := Option.some.inj H
                have ho35 := h42
                try dsimp only at ho35
                subst ho35
                have H := HL37
                try dsimp only at H
                obtain rfl := Option.some.inj H
                exact fin hk _ [(.string (⟨#[]⟩ : ByteArray)), (.int .i64 3)] rfl ⟨rfl, ⟨rfl, trivial⟩⟩ ⟨rfl, (hs.pick [] rfl).dnil⟩
              · have hk := hk.lit 38 c64 rfl
                refine cnd_false hk rfl rfl ?_
                refine wp_skip ?_
                refine hK55 _ _ ?_
                apply wp_region_lit
                refine sm _ rfl hk rfl rfl rfl fun a hk => ?_
                refine sm _ rfl hk rfl rfl rfl fun a hk => ?_
                refine sv (.int .i64 (w64 (16 * y50))) hk rfl rfl rfl fun a hk => ?_
                refine sm _ rfl hk rfl rfl rfl fun a hk => ?_
                refine sv (.int .i64 (w64 ((w64 (16 * y50)) + y53))) hk rfl rfl rfl fun a hk => ?_
                refine scn rfl hk rfl rfl rfl un5 un3 fun a hk => ?_
                refine sbs (L := (Lay.int .u8)) (pv := [(0, (.int .u8 (IntKind.wrap .u8 (w64 ((w64 (16 * y50)) + y53)))))]) (xs := [(IntKind.wrap .u8 (w64 ((w64 (16 * y50)) + y53)))]) (ess := [[.int .u8 (IntKind.wrap .u8 (w64 ((w64 (16 * y50)) + y53)))]]) 7 hs rfl hk rfl rfl rfl un74 (bs5_1 (IntKind.wrap .u8 (w64 ((w64 (16 * y50)) + y53)))) (AllOwn.cons0 ⟨rfl, rfl⟩ AllOwn.nil) rfl rfl rfl fun b66 k67 w a hk o68 hs => ?_
                rcases ite_some H with ⟨c69, H⟩ | ⟨_, H⟩
                rotate_left
                · cases H
                refine sap 4 (xs := u25) (ys := [(IntKind.wrap .u8 (w64 ((w64 (16 * y50)) + y53)))]) (flat_flat : ((Lay.int .u8)).Flat) hs rfl o27 o68.view (hs.hasG (k := 7) rfl) rfl hk rfl rfl rfl rfl rfl rfl un74 mk5 rfl rfl rfl c69 fun A70 p71 k72 w a hk o73 hs => ?_
                refine sa _ rfl hk rfl rfl rfl fun a hk => ?_
                show wpList _ _ _ [] _ _
                refine wpList_nil ?_
                refine hK46 _ _ ?_
                apply wp_region_lit
                refine sm _ rfl hk rfl rfl rfl fun a hk => ?_
                refine sv (.int .i64 (w64 (u24 + 2))) hk rfl rfl rfl fun a hk => ?_
                refine sa _ rfl hk rfl rfl rfl fun a hk => ?_
                show wpList _ _ _ [] _ _
                refine wpList_nil ?_
                obtain rfl := Option.some.inj H
                obtain ⟨m74, hmm74, h42⟩ := h42
                show ∃ n', n' < _ ∧ I39 n' _ _
                refine ⟨m74, hmm74, ?_⟩
                rw [hI39]
                exact ⟨(u25 ++ ([(IntKind.wrap .u8 (w64 ((w64 (16 * y50)) + y53)))])), (w64 (u24 + 2)), A70, p71, _, h42, (hk.c 0 rfl (hk.c 4 rfl (hk.c 5 rfl hk.k))), (hs.pick [(4, 4)] rfl), o73⟩
          · have hk := hk.lit 21 c45 rfl
            refine cnd_false hk rfl rfl ?_
            refine wp_exit ?_
            obtain rfl := Option.some.inj H
            show R38 _ _
            rw [hR38]
            exact ⟨u25, A28, p29, _, h42.symm, (hk.c 4 rfl hk.k), (hs.pick [(4, 4)] rfl), o27⟩
      · intro a w hR0
        rw [hR38] at hR0
        obtain ⟨u30, A33, p34, k31, rfl, hk, hs, o32⟩ := hR0
        have H := HL37
        try dsimp only at H
        refine hK15 _ _ ?_
        apply wp_seq_k; intro K75 hK75
        apply wp_region_lit
        refine sm _ rfl hk rfl rfl rfl fun a hk => ?_
        refine sbt (xs := u30) rfl hk rfl rfl rfl rfl un74 un5 un9 o32.view (hs.hasG (k := 4) rfl) fun a hk => ?_
        refine sa _ rfl hk rfl rfl rfl fun a hk => ?_
        refine sa _ rfl hk rfl rfl rfl fun a hk => ?_
        show wpList _ _ _ [] _ _
        refine wpList_nil ?_
        refine hK75 _ _ ?_
        refine wp_ret ?_
        obtain rfl := Option.some.inj H
        exact fin hk _ [(.string (strOfNums u30)), (.int .i64 0)] rfl ⟨rfl, ⟨rfl, trivial⟩⟩ ⟨rfl, (hs.pick [] rfl).dnil⟩

noncomputable def laws_FnHex.f (l0 : List Int) : Option (Bool) :=
  (bif (decide ((l0.length : Int) > 1048576)) then (some true) else ((spec_TextOf.f l0).bind fun y7 => ((impl_HexOf.f y7).bind fun y10 => ((spec_HexOf.f y7).bind fun y13 => ((impl_UnHex.f y10.1).bind fun y16 => (if y10.1.size + (⟨#[48]⟩ : ByteArray).size ≤ 1152921504606846976 then ((impl_UnHex.f (y10.1 ++ (⟨#[48]⟩ : ByteArray))).bind fun y20 => (if y10.1.size + (⟨#[103, 48]⟩ : ByteArray).size ≤ 1152921504606846976 then ((impl_UnHex.f (y10.1 ++ (⟨#[103, 48]⟩ : ByteArray))).bind fun y24 => (((bif (y10.2 == 0) then (bif (y10.1.toList == y13.1.toList) then (bif ((y10.1.size : Int) == (w64 (2 * (y7.size : Int)))) then (bif (y16.2 == 0) then (bif (y16.1.toList == y7.toList) then (bif (y20.2 == 3) then (some (y24.2 == 3)) else (some false)) else (some false)) else (some false)) else (some false)) else (some false)) else (some false)) : Option (Bool)).bind fun u28 => (some u28))) else none)) else none))))))
set_option maxRecDepth 100000 in
set_option maxHeartbeats 0 in
theorem laws_FnHex_t (w0 : World) (A0_ : Option Addr) (p0_ : Nat) (l0 : List Int) (k0_ : Chunk) (v0_ : View (Lay.int .u8) A0_ p0_ l0 k0_) (w0_ : Has w0 k0_) (r : Bool) (H : laws_FnHex.f l0 = some r) :
    Calls Try.prog 10 #[.slice A0_ l0.length p0_] w0 (Ret (fun v w => v = .bool r ∧ Sat [] w0 w [] [])) := by
  have hs : Sat [] w0 w0 [(1, k0_)] [] := Sat.init w0 [(1, k0_)] [] (by simp only [List.mem_cons, List.not_mem_nil, or_false]; rintro x (rfl) <;> assumption) (by simp) List.nodup_nil (by simp [blks])
  unfold laws_FnHex.f at H
  refine enter Try.func10 rfl Try.ntmps10 rfl fun a hk => ?_
  apply wp_seq_k; intro K1 hK1
  apply wp_region_lit
  refine sa _ rfl hk rfl rfl rfl fun a hk => ?_
  show wpList _ _ _ [] _ _
  refine wpList_nil ?_
  refine hK1 _ _ ?_
  apply wp_seq_k; intro K2 hK2
  apply wp_seq_k; intro K3 hK3
  apply wp_region_lit
  refine sm _ rfl hk rfl rfl rfl fun a hk => ?_
  refine sle rfl hk rfl rfl rfl un74 fun a hk => ?_
  refine sv (.bool (decide ((l0.length : Int) > 1048576))) hk rfl rfl rfl fun a hk => ?_
  show wpList _ _ _ [] _ _
  refine wpList_nil ?_
  refine hK3 _ _ ?_
  rcases cond_some H with ⟨c4, H⟩ | ⟨c4, H⟩
  · have hk := hk.lit 16 c4 rfl
    refine cnd_true hk rfl rfl ?_
    apply wp_seq_k; intro K5 hK5
    apply wp_region_lit
    refine sa _ rfl hk rfl rfl rfl fun a hk => ?_
    show wpList _ _ _ [] _ _
    refine wpList_nil ?_
    refine hK5 _ _ ?_
    refine wp_ret ?_
    obtain rfl := Option.some.inj H
    exact fin hk _ [(.bool true)] rfl ⟨rfl, trivial⟩ ⟨rfl, (hs.pick [] rfl).dnil⟩
  · have hk := hk.lit 16 c4 rfl
    refine cnd_false hk rfl rfl ?_
    refine wp_skip ?_
    refine hK2 _ _ ?_
    apply wp_seq_k; intro K6 hK6
    apply wp_region_lit
    refine sm _ rfl hk rfl rfl rfl fun a hk => ?_
    obtain ⟨y7, h8, H⟩ := bind_some H
    refine sc rfl en49 hk rfl rfl rfl (spec_TextOf_t _ A0_ p0_ l0 _ v0_ (hs.hasD (k := 1) rfl) _ h8) ?_
    rintro _ w ⟨rfl, hG⟩ a hk
    have hs := hs.call0 hG
    refine sa _ rfl hk rfl rfl rfl fun a hk => ?_
    show wpList _ _ _ [] _ _
    refine wpList_nil ?_
    refine hK6 _ _ ?_
    apply wp_seq_k; intro K9 hK9
    apply wp_region_lit
    refine sm _ rfl hk rfl rfl rfl fun a hk => ?_
    obtain ⟨y10, h11, H⟩ := bind_some H
    refine sc rfl en50 hk rfl rfl rfl (impl_HexOf_t _ y7 _ h11) ?_
    rintro _ w ⟨rfl, hG⟩ a hk
    have hs := hs.call0 hG
    refine sm _ rfl hk rfl rfl rfl fun a hk => ?_
    refine sv (.string y10.1) hk rfl rfl rfl fun a hk => ?_
    refine sv (.int .i64 y10.2) hk rfl rfl rfl fun a hk => ?_
    refine sa _ rfl hk rfl rfl rfl fun a hk => ?_
    refine sa _ rfl hk rfl rfl rfl fun a hk => ?_
    show wpList _ _ _ [] _ _
    refine wpList_nil ?_
    refine hK9 _ _ ?_
    apply wp_seq_k; intro K12 hK12
    apply wp_region_lit
    refine sm _ rfl hk rfl rfl rfl fun a hk => ?_
    obtain ⟨y13, h14, H⟩ := bind_some H
    refine sc rfl en51 hk rfl rfl rfl (spec_HexOf_t _ y7 _ h14) ?_
    rintro _ w ⟨rfl, hG⟩ a hk
    have hs := hs.call0 hG
    refine sm _ rfl hk rfl rfl rfl fun a hk => ?_
    refine sv (.string y13.1) hk rfl rfl rfl fun a hk => ?_
    refine sv (.int .i64 y13.2) hk rfl rfl rfl fun a hk => ?_
    refine sa _ rfl hk rfl rfl rfl fun a hk => ?_
    refine sa _ rfl hk rfl rfl rfl fun a hk => ?_
    show wpList _ _ _ [] _ _
    refine wpList_nil ?_
    refine hK12 _ _ ?_
    apply wp_seq_k; intro K15 hK15
    apply wp_region_lit
    refine sm _ rfl hk rfl rfl rfl fun a hk => ?_
    obtain ⟨y16, h17, H⟩ := bind_some H
    refine sc rfl en52 hk rfl rfl rfl (impl_UnHex_t _ y10.1 _ h17) ?_
    rintro _ w ⟨rfl, hG⟩ a hk
    have hs := hs.call0 hG
    refine sm _ rfl hk rfl rfl rfl fun a hk => ?_
    refine sv (.string y16.1) hk rfl rfl rfl fun a hk => ?_
    refine sv (.int .i64 y16.2) hk rfl rfl rfl fun a hk => ?_
    refine sa _ rfl hk rfl rfl rfl fun a hk => ?_
    refine sa _ rfl hk rfl rfl rfl fun a hk => ?_
    show wpList _ _ _ [] _ _
    refine wpList_nil ?_
    refine hK15 _ _ ?_
    apply wp_seq_k; intro K18 hK18
    apply wp_region_lit
    refine sm _ rfl hk rfl rfl rfl fun a hk => ?_
    rcases ite_some H with ⟨c19, H⟩ | ⟨_, H⟩
    rotate_left
    · cases H
    refine ssa rfl hk rfl rfl rfl rfl c19 fun a hk => ?_
    obtain ⟨y20, h21, H⟩ := bind_some H
    refine sc rfl en52 hk rfl rfl rfl (impl_UnHex_t _ (y10.1 ++ (⟨#[48]⟩ : ByteArray)) _ h21) ?_
    rintro _ w ⟨rfl, hG⟩ a hk
    have hs := hs.call0 hG
    refine sm _ rfl hk rfl rfl rfl fun a hk => ?_
    refine sv (.string y20.1) hk rfl rfl rfl fun a hk => ?_
    refine sv (.int .i64 y20.2) hk rfl rfl rfl fun a hk => ?_
    refine sa _ rfl hk rfl rfl rfl fun a hk => ?_
    refine sa _ rfl hk rfl rfl rfl fun a hk => ?_
    show wpList _ _ _ [] _ _
    refine wpList_nil ?_
    refine hK18 _ _ ?_
    apply wp_seq_k; intro K22 hK22
    apply wp_region_lit
    refine sm _ rfl hk rfl rfl rfl fun a hk => ?_
    rcases ite_some H with ⟨c23, H⟩ | ⟨_, H⟩
    rotate_left
    · cases H
    refine ssa rfl hk rfl rfl rfl rfl c23 fun a hk => ?_
    obtain ⟨y24, h25, H⟩ := bind_some H
    refine sc rfl en52 hk rfl rfl rfl (impl_UnHex_t _ (y10.1 ++ (⟨#[103, 48]⟩ : ByteArray)) _ h25) ?_
    rintro _ w ⟨rfl, hG⟩ a hk
    have hs := hs.call0 hG
    refine sm _ rfl hk rfl rfl rfl fun a hk => ?_
    refine sv (.string y24.1) hk rfl rfl rfl fun a hk => ?_
    refine sv (.int .i64 y24.2) hk rfl rfl rfl fun a hk => ?_
    refine sa _ rfl hk rfl rfl rfl fun a hk => ?_
    refine sa _ rfl hk rfl rfl rfl fun a hk => ?_
    show wpList _ _ _ [] _ _
    refine wpList_nil ?_
    refine hK22 _ _ ?_
    apply wp_seq_k; intro K26 hK26
    obtain ⟨o29, h30, HL31⟩ := bind_some H
    clear H
    obtain ⟨R32, hR32⟩ : ∃ R : Act → World → Prop, R = fun a w => ∃ (u28 : Bool), u28 = o29 ∧ Kn [(2, (.bool u28))] 78 a ∧ Sat [] w0 w [(1, k0_)] [] := ⟨_, rfl⟩
    refine wp_cutq R32 ?_ ?_
    · have H := h30
      apply wp_region_lit
      refine sm _ rfl hk rfl rfl rfl fun a hk => ?_
      refine sv (.bool (y10.2 == 0)) hk rfl rfl rfl fun a hk => ?_
      refine sm _ rfl hk rfl rfl rfl fun a hk => ?_
      rcases cond_some H with ⟨c33, H⟩ | ⟨c33, H⟩
      · have hk := hk.lit 48 c33 rfl
        refine sm _ rfl hk rfl rfl rfl fun a hk => ?_
        refine sm _ rfl hk rfl rfl rfl fun a hk => ?_
        refine sv (.bool (y10.1.toList == y13.1.toList)) hk rfl rfl rfl fun a hk => ?_
        refine sv (.bool (y10.1.toList == y13.1.toList)) hk rfl rfl rfl fun a hk => ?_
        refine sm _ rfl hk rfl rfl rfl fun a hk => ?_
        rcases cond_some H with ⟨c34, H⟩ | ⟨c34, H⟩
        · have hk := hk.lit 53 c34 rfl
          refine sm _ rfl hk rfl rfl rfl fun a hk => ?_
          refine sles rfl hk rfl rfl rfl un9 fun a hk => ?_
          refine sm _ rfl hk rfl rfl rfl fun a hk => ?_
          refine sles rfl hk rfl rfl rfl un9 fun a hk => ?_
          refine sv (.int .i64 (w64 (2 * (y7.size : Int)))) hk rfl rfl rfl fun a hk => ?_
          refine sv (.bool ((y10.1.size : Int) == (w64 (2 * (y7.size : Int))))) hk rfl rfl rfl fun a hk => ?_
          refine sv (.bool ((y10.1.size : Int) == (w64 (2 * (y7.size : Int))))) hk rfl rfl rfl fun a hk => ?_
          refine sm _ rfl hk rfl rfl rfl fun a hk => ?_
          rcases cond_some H with ⟨c35, H⟩ | ⟨c35, H⟩
          · have hk := hk.lit 61 c35 rfl
            refine sm _ rfl hk rfl rfl rfl fun a hk => ?_
            refine sv (.bool (y16.2 == 0)) hk rfl rfl rfl fun a hk => ?_
            refine sv (.bool (y16.2 == 0)) hk rfl rfl rfl fun a hk => ?_
            refine sm _ rfl hk rfl rfl rfl fun a hk => ?_
            rcases cond_some H with ⟨c36, H⟩ | ⟨c36, H⟩
            · have hk := hk.lit 65 c36 rfl
              refine sm _ rfl hk rfl rfl rfl fun a hk => ?_
              refine sm _ rfl hk rfl rfl rfl fun a hk => ?_
              refine sv (.bool (y16.1.toList == y7.toList)) hk rfl rfl rfl fun a hk => ?_
              refine sv (.bool (y16.1.toList == y7.toList)) hk rfl rfl rfl fun a hk => ?_
              refine sm _ rfl hk rfl rfl rfl fun a hk => ?_
              rcases cond_some H with ⟨c37, H⟩ | ⟨c37, H⟩
              · have hk := hk.lit 70 c37 rfl
                refine sm _ rfl hk rfl rfl rfl fun a hk => ?_
                refine sv (.bool (y20.2 == 3)) hk rfl rfl rfl fun a hk => ?_
                refine sv (.bool (y20.2 == 3)) hk rfl rfl rfl fun a hk => ?_
                refine sm _ rfl hk rfl rfl rfl fun a hk => ?_
                rcases cond_some H with ⟨c38, H⟩ | ⟨c38, H⟩
                · have hk := hk.lit 74 c38 rfl
                  refine sm _ rfl hk rfl rfl rfl fun a hk => ?_
                  refine sv (.bool (y24.2 == 3)) hk rfl rfl rfl fun a hk => ?_
                  refine sv (.bool (y24.2 == 3)) hk rfl rfl rfl fun a hk => ?_
                  refine sa _ rfl hk rfl rfl rfl fun a hk => ?_
                  show wpList _ _ _ [] _ _
                  refine wpList_nil ?_
                  obtain rfl := Option.some.inj H
                  show R32 _ _
                  rw [hR32]
                  exact ⟨(y24.2 == 3), rfl, (hk.c 2 rfl hk.k), (hs.pick [] rfl)⟩
                · have hk := hk.lit 74 c38 rfl
                  refine sk hk rfl rfl rfl fun a hk => ?_
                  refine sk hk rfl rfl rfl fun a hk => ?_
                  refine sv (.bool false) hk rfl rfl rfl fun a hk => ?_
                  refine sa _ rfl hk rfl rfl rfl fun a hk => ?_
                  show wpList _ _ _ [] _ _
                  refine wpList_nil ?_
                  obtain rfl := Option.some.inj H
                  show R32 _ _
                  rw [hR32]
                  exact ⟨false, rfl, (hk.c 2 rfl hk.k), (hs.pick [] rfl)⟩
              · have hk := hk.lit 70 c37 rfl
                refine sk hk rfl rfl rfl fun a hk => ?_
                refine sk hk rfl rfl rfl fun a hk => ?_
                refine sv (.bool false) hk rfl rfl rfl fun a hk => ?_
                refine sm _ rfl hk rfl rfl rfl fun a hk => ?_
                refine sk hk rfl rfl rfl fun a hk => ?_
                refine sk hk rfl rfl rfl fun a hk => ?_
                refine sv (.bool false) hk rfl rfl rfl fun a hk => ?_
                refine sa _ rfl hk rfl rfl rfl fun a hk => ?_
                show wpList _ _ _ [] _ _
                refine wpList_nil ?_
                obtain rfl := Option.some.inj H
                show R32 _ _
                rw [hR32]
                exact ⟨false, rfl, (hk.c 2 rfl hk.k), (hs.pick [] rfl)⟩
            · have hk := hk.lit 65 c36 rfl
              refine sk hk rfl rfl rfl fun a hk => ?_
              refine sk hk rfl rfl rfl fun a hk => ?_
              refine sk hk rfl rfl rfl fun a hk => ?_
              refine sv (.bool false) hk rfl rfl rfl fun a hk => ?_
              refine sm _ rfl hk rfl rfl rfl fun a hk => ?_
              refine sk hk rfl rfl rfl fun a hk => ?_
              refine sk hk rfl rfl rfl fun a hk => ?_
              refine sv (.bool false) hk rfl rfl rfl fun a hk => ?_
              refine sm _ rfl hk rfl rfl rfl fun a hk => ?_
              refine sk hk rfl rfl rfl fun a hk => ?_
              refine sk hk rfl rfl rfl fun a hk => ?_
              refine sv (.bool false) hk rfl rfl rfl fun a hk => ?_
              refine sa _ rfl hk rfl rfl rfl fun a hk => ?_
              show wpList _ _ _ [] _ _
              refine wpList_nil ?_
              obtain rfl := Option.some.inj H
              show R32 _ _
              rw [hR32]
              exact ⟨false, rfl, (hk.c 2 rfl hk.k), (hs.pick [] rfl)⟩
          · have hk := hk.lit 61 c35 rfl
            refine sk hk rfl rfl rfl fun a hk => ?_
            refine sk hk rfl rfl rfl fun a hk => ?_
            refine sv (.bool false) hk rfl rfl rfl fun a hk => ?_
            refine sm _ rfl hk rfl rfl rfl fun a hk => ?_
            refine sk hk rfl rfl rfl fun a hk => ?_
            refine sk hk rfl rfl rfl fun a hk => ?_
            refine sk hk rfl rfl rfl fun a hk => ?_
            refine sv (.bool false) hk rfl rfl rfl fun a hk => ?_
            refine sm _ rfl hk rfl rfl rfl fun a hk => ?_
            refine sk hk rfl rfl rfl fun a hk => ?_
            refine sk hk rfl rfl rfl fun a hk => ?_
            refine sv (.bool false) hk rfl rfl rfl fun a hk => ?_
            refine sm _ rfl hk rfl rfl rfl fun a hk => ?_
            refine sk hk rfl rfl rfl fun a hk => ?_
            refine sk hk rfl rfl rfl fun a hk => ?_
            refine sv (.bool false) hk rfl rfl rfl fun a hk => ?_
            refine sa _ rfl hk rfl rfl rfl fun a hk => ?_
            show wpList _ _ _ [] _ _
            refine wpList_nil ?_
            obtain rfl := Option.some.inj H
            show R32 _ _
            rw [hR32]
            exact ⟨false, rfl, (hk.c 2 rfl hk.k), (hs.pick [] rfl)⟩
        · have hk := hk.lit 53 c34 rfl
          refine sk hk rfl rfl rfl fun a hk => ?_
          refine sk hk rfl rfl rfl fun a hk => ?_
          refine sk hk rfl rfl rfl fun a hk => ?_
          refine sk hk rfl rfl rfl fun a hk => ?_
          refine sk hk rfl rfl rfl fun a hk => ?_
          refine sk hk rfl rfl rfl fun a hk => ?_
          refine sv (.bool false) hk rfl rfl rfl fun a hk => ?_
          refine sm _ rfl hk rfl rfl rfl fun a hk => ?_
          refine sk hk rfl rfl rfl fun a hk => ?_
          refine sk hk rfl rfl rfl fun a hk => ?_
          refine sv (.bool false) hk rfl rfl rfl fun a hk => ?_
          refine sm _ rfl hk rfl rfl rfl fun a hk => ?_
          refine sk hk rfl rfl rfl fun a hk => ?_
          refine sk hk rfl rfl rfl fun a hk => ?_
          refine sk hk rfl rfl rfl fun a hk => ?_
          refine sv (.bool false) hk rfl rfl rfl fun a hk => ?_
          refine sm _ rfl hk rfl rfl rfl fun a hk => ?_
          refine sk hk rfl rfl rfl fun a hk => ?_
          refine sk hk rfl rfl rfl fun a hk => ?_
          refine sv (.bool false) hk rfl rfl rfl fun a hk => ?_
          refine sm _ rfl hk rfl rfl rfl fun a hk => ?_
          refine sk hk rfl rfl rfl fun a hk => ?_
          refine sk hk rfl rfl rfl fun a hk => ?_
          refine sv (.bool false) hk rfl rfl rfl fun a hk => ?_
          refine sa _ rfl hk rfl rfl rfl fun a hk => ?_
          show wpList _ _ _ [] _ _
          refine wpList_nil ?_
          obtain rfl := Option.some.inj H
          show R32 _ _
          rw [hR32]
          exact ⟨false, rfl, (hk.c 2 rfl hk.k), (hs.pick [] rfl)⟩
      · have hk := hk.lit 48 c33 rfl
        refine sk hk rfl rfl rfl fun a hk => ?_
        refine sk hk rfl rfl rfl fun a hk => ?_
        refine sk hk rfl rfl rfl fun a hk => ?_
        refine sv (.bool false) hk rfl rfl rfl fun a hk => ?_
        refine sm _ rfl hk rfl rfl rfl fun a hk => ?_
        refine sk hk rfl rfl rfl fun a hk => ?_
        refine sk hk rfl rfl rfl fun a hk => ?_
        refine sk hk rfl rfl rfl fun a hk => ?_
        refine sk hk rfl rfl rfl fun a hk => ?_
        refine sk hk rfl rfl rfl fun a hk => ?_
        refine sk hk rfl rfl rfl fun a hk => ?_
        refine sv (.bool false) hk rfl rfl rfl fun a hk => ?_
        refine sm _ rfl hk rfl rfl rfl fun a hk => ?_
        refine sk hk rfl rfl rfl fun a hk => ?_
        refine sk hk rfl rfl rfl fun a hk => ?_
        refine sv (.bool false) hk rfl rfl rfl fun a hk => ?_
        refine sm _ rfl hk rfl rfl rfl fun a hk => ?_
        refine sk hk rfl rfl rfl fun a hk => ?_
        refine sk hk rfl rfl rfl fun a hk => ?_
        refine sk hk rfl rfl rfl fun a hk => ?_
        refine sv (.bool false) hk rfl rfl rfl fun a hk => ?_
        refine sm _ rfl hk rfl rfl rfl fun a hk => ?_
        refine sk hk rfl rfl rfl fun a hk => ?_
        refine sk hk rfl rfl rfl fun a hk => ?_
        refine sv (.bool false) hk rfl rfl rfl fun a hk => ?_
        refine sm _ rfl hk rfl rfl rfl fun a hk => ?_
        refine sk hk rfl rfl rfl fun a hk => ?_
        refine sk hk rfl rfl rfl fun a hk => ?_
        refine sv (.bool false) hk rfl rfl rfl fun a hk => ?_
        refine sa _ rfl hk rfl rfl rfl fun a hk => ?_
        show wpList _ _ _ [] _ _
        refine wpList_nil ?_
        obtain rfl := Option.some.inj H
        show R32 _ _
        rw [hR32]
        exact ⟨false, rfl, (hk.c 2 rfl hk.k), (hs.pick [] rfl)⟩
    · intro a w hR0
      rw [hR32] at hR0
      obtain ⟨u28, rfl, hk, hs⟩ := hR0
      have H := HL31
      try dsimp only at H
      refine hK26 _ _ ?_
      refine wp_ret ?_
      obtain rfl := Option.some.inj H
      exact fin hk _ [(.bool u28)] rfl ⟨rfl, trivial⟩ ⟨rfl, (hs.pick [] rfl).dnil⟩

end Go.Proofs.Ytmgfkpfacdlfbaa
