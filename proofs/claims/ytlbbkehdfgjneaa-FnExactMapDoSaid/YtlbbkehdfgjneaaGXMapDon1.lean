/- Further functions. -/
import Derived.Test.YtlbbkehdfgjneaaGXMapDo
namespace Go.Proofs.Ytlbbkehdfgjneaa
open Go Go.Z Go.Proofs Go.MuLone Go.ChangeShapes Go.WideShapes Go.ChangeAt Go.RowKit
set_option linter.unusedVariables false
set_option linter.unusedSimpArgs false
noncomputable def slices_Reverse_impl_Entry_impl_Entry.s0 (l0 : List S_Entry) (u_r8_13_7 : List S_Entry) (u_r8_13_11 : Int) (u_r8_13_12 : Int) : Option (((List S_Entry) × Int × Int) ⊕ Ex (Unit) ((List S_Entry))) :=
  (bif (decide (u_r8_13_11 < u_r8_13_12)) then (if 0 ≤ u_r8_13_12 ∧ u_r8_13_12 < (l0.length : Int) then (if 0 ≤ u_r8_13_11 ∧ u_r8_13_11 < (l0.length : Int) then (if 0 ≤ u_r8_13_11 ∧ u_r8_13_11 < (l0.length : Int) then (if 0 ≤ u_r8_13_12 ∧ u_r8_13_12 < (l0.length : Int) then (some (.inl (((u_r8_13_7.set u_r8_13_11.toNat (u_r8_13_7.getD u_r8_13_12.toNat z_Entry)).set u_r8_13_12.toNat (u_r8_13_7.getD u_r8_13_11.toNat z_Entry)), (w64 (u_r8_13_11 + 1)), (w64 (u_r8_13_12 - 1))))) else none) else none) else none) else none) else (some (.inr (.out ()))))
noncomputable def slices_Reverse_impl_Entry_impl_Entry.f (l0 : List S_Entry) : Option ((List S_Entry)) :=
  ((loopO (fun s => slices_Reverse_impl_Entry_impl_Entry.s0 l0 s.1 s.2.1 s.2.2) (l0, 0, (w64 ((l0.length : Int) - 1)))).bind fun o => match o with | .out _ => none | .ret r => (some r))
set_option maxRecDepth 100000 in
set_option maxHeartbeats 0 in
theorem slices_Reverse_impl_Entry_impl_Entry_t (w0 : World) (A0_ : Option Addr) (p0_ : Nat) (l0 : List S_Entry) (k0_ : Chunk) (v0_ : Own L_Entry 62 A0_ p0_ l0 k0_) (hs0 : Sat (blks [(103261, k0_)]) w0 w0 [] [(103261, k0_)]) (r : (List S_Entry)) (H : slices_Reverse_impl_Entry_impl_Entry.f l0 = some r) :
    Calls Try.prog 191 #[.slice A0_ l0.length p0_] w0 (Ret (fun v w => ∃ (k0 : Chunk), v = .tuple #[] ∧ (Own L_Entry 62 A0_ p0_ r k0 ∧ r.length = l0.length) ∧ Sat (blks [(103261, k0_)]) w0 w [] [(0, k0)])) := by
  have hs := hs0
  unfold slices_Reverse_impl_Entry_impl_Entry.f at H
  refine enter Try.func191 rfl Try.ntmps191 rfl fun a hk => ?_
  apply wp_seq_k; intro K1 hK1
  apply wp_region_lit
  refine sm _ rfl hk rfl rfl rfl fun a hk => ?_
  refine sle rfl hk rfl rfl rfl un26 fun a hk => ?_
  refine sv (.int .i64 (w64 ((l0.length : Int) - 1))) hk rfl rfl rfl fun a hk => ?_
  refine sa _ rfl hk rfl rfl rfl fun a hk => ?_
  refine sa _ rfl hk rfl rfl rfl fun a hk => ?_
  show wpList _ _ _ [] _ _
  refine wpList_nil ?_
  refine hK1 _ _ ?_
  obtain ⟨o_r8_13_17, h_r8_13_18, HL_r8_13_19⟩ := bind_some H
  clear H
  obtain ⟨R_r8_13_20, hR_r8_13_20⟩ : ∃ R : Act → World → Prop, R = fun a w => o_r8_13_17 = .out () ∧ Kn [] 28 a ∧ Sat (blks [(103261, k0_)]) w0 w [] [] := ⟨_, rfl⟩
  refine wp_cutq R_r8_13_20 ?_ ?_
  · refine wp_block ?_
    obtain ⟨fu_r8_13_22, h_r8_13_18⟩ := loopO_some h_r8_13_18
    obtain ⟨I_r8_13_21, hI_r8_13_21⟩ : ∃ I : Nat → Act → World → Prop, I = fun fu a w => ∃ (u_r8_13_7 : List S_Entry) (u_r8_13_11 : Int) (u_r8_13_12 : Int) (k_r8_13_8 : Chunk), loopN (fun s => slices_Reverse_impl_Entry_impl_Entry.s0 l0 s.1 s.2.1 s.2.2) fu (u_r8_13_7, u_r8_13_11, u_r8_13_12) = some o_r8_13_17 ∧ Kn [(0, (.slice A0_ l0.length p0_)), (2, (.int .i64 u_r8_13_11)), (3, (.int .i64 u_r8_13_12))] 28 a ∧ Sat (blks [(103261, k0_)]) w0 w [] [(103261, k_r8_13_8)] ∧ Own L_Entry 62 A0_ p0_ u_r8_13_7 k_r8_13_8 ∧ u_r8_13_7.length = l0.length := ⟨_, rfl⟩
    refine wp_loop_ghost I_r8_13_21 fu_r8_13_22 ?_ ?_
    · rw [hI_r8_13_21]
      exact ⟨l0, 0, (w64 ((l0.length : Int) - 1)), _, h_r8_13_18, (hk.c 0 rfl (hk.c 2 rfl (hk.c 3 rfl hk.k))), (hs.pick [(103261, 103261)] rfl), v0_, rfl⟩
    · clear h_r8_13_18 hk hs
      intro fu_r8_13_22 a w hI0
      rw [hI_r8_13_21] at hI0
      obtain ⟨u_r8_13_7, u_r8_13_11, u_r8_13_12, k_r8_13_8, hi, hk, hs, o_r8_13_9, lh_r8_13_10⟩ := hI0
      obtain ⟨x_r8_13_23, H, h_r8_13_24⟩ := loop_round hi
      try dsimp only at H
      unfold slices_Reverse_impl_Entry_impl_Entry.s0 at H
      apply wp_seq_k; intro K2 hK2
      apply wp_seq_k; intro K3 hK3
      apply wp_region_lit
      refine sm _ rfl hk rfl rfl rfl fun a hk => ?_
      refine sm _ rfl hk rfl rfl rfl fun a hk => ?_
      refine sv (.bool (decide (u_r8_13_11 < u_r8_13_12))) hk rfl rfl rfl fun a hk => ?_
      show wpList _ _ _ [] _ _
      refine wpList_nil ?_
      refine hK3 _ _ ?_
      rcases cond_some H with ⟨c_r8_13_26, H⟩ | ⟨c_r8_13_26, H⟩
      · have hk := hk.lit 9 c_r8_13_26 rfl
        refine cnd_true hk rfl rfl ?_
        refine wp_skip ?_
        refine hK2 _ _ ?_
        apply wp_seq_k; intro K4 hK4
        refine wp_block ?_
        rcases ite_some H with ⟨c_r_r8_13_27_6_1, H⟩ | ⟨_, H⟩
        rotate_left
        · cases H
        rcases ite_some H with ⟨c_r_r8_13_27_10_1, H⟩ | ⟨_, H⟩
        rotate_left
        · cases H
        rcases ite_some H with ⟨c_r_r8_13_27_12_1, H⟩ | ⟨_, H⟩
        rotate_left
        · cases H
        rcases ite_some H with ⟨c_r_r8_13_27_14_1, H⟩ | ⟨_, H⟩
        rotate_left
        · cases H
        obtain ⟨R_r8_13_28, hR_r8_13_28⟩ : ∃ R : Act → World → Prop, R = fun a w => ∃ (k_r_r8_13_27_15_1 : Chunk), Kn [(0, (.slice A0_ l0.length p0_)), (2, (.int .i64 u_r8_13_11)), (3, (.int .i64 u_r8_13_12))] 28 a ∧ Sat (blks [(103261, k0_)]) w0 w [] [(103261, k_r_r8_13_27_15_1)] ∧ Own L_Entry 62 A0_ p0_ ((u_r8_13_7.set u_r8_13_11.toNat (u_r8_13_7.getD u_r8_13_12.toNat z_Entry)).set u_r8_13_12.toNat (u_r8_13_7.getD u_r8_13_11.toNat z_Entry)) k_r_r8_13_27_15_1 ∧ ((u_r8_13_7.set u_r8_13_11.toNat (u_r8_13_7.getD u_r8_13_12.toNat z_Entry)).set u_r8_13_12.toNat (u_r8_13_7.getD u_r8_13_11.toNat z_Entry)).length = l0.length := ⟨_, rfl⟩
        refine wp_cutq R_r8_13_28 ?_ ?_
        · skip
          refine wp_region_tree (.q 0 (.q 1 (.q 2 (.q 3 (.q 4 (.q 5 (.q 6 (.q 8 (.q 9 (.q 10 (.alt 7 (.alt 11 (.alt 12 (.alt 13 (.alt 14 (.last 15) .stop) .stop) .stop) .stop) (.alt 11 (.alt 7 (.alt 12 (.alt 13 (.alt 14 (.last 15) .stop) .stop) .stop) .stop) .stop)))))))))))) mo (by kernel_rfl) (hs.pick [] rfl) fun _ => ?_
          have hs := hs.drew
          refine tqst (.slice A0_ l0.length p0_) hk rfl rfl rfl rfl (fun w hs => sm _ rfl hk rfl rfl rfl fun a hk => qe hk) fun a hk => ?_
          refine tqst (.int .i64 u_r8_13_11) hk rfl rfl rfl rfl (fun w hs => sm _ rfl hk rfl rfl rfl fun a hk => qe hk) fun a hk => ?_
          refine tqst (.slice A0_ l0.length p0_) hk rfl rfl rfl rfl (fun w hs => sm _ rfl hk rfl rfl rfl fun a hk => qe hk) fun a hk => ?_
          refine tqst (.int .i64 u_r8_13_12) hk rfl rfl rfl rfl (fun w hs => sm _ rfl hk rfl rfl rfl fun a hk => qe hk) fun a hk => ?_
          refine tqst (.slice A0_ l0.length p0_) hk rfl rfl rfl rfl (fun w hs => sm _ rfl hk rfl rfl rfl fun a hk => qe hk) fun a hk => ?_
          refine tqst (.int .i64 u_r8_13_12) hk rfl rfl rfl rfl (fun w hs => sm _ rfl hk rfl rfl rfl fun a hk => qe hk) fun a hk => ?_
          obtain ⟨b_r_r8_13_27_6_2, q_r_r8_13_27_6_3, hAc_r_r8_13_27_6_1⟩ := (o_r8_13_9.view).some_ u_r8_13_12 c_r_r8_13_27_6_1.1 (by rw [lh_r8_13_10]; exact c_r_r8_13_27_6_1.2)
          refine tqst (.pointer (some (padd A0_ (u_r8_13_12.toNat * 2)))) hk rfl rfl rfl rfl (fun w hs => si rfl hk rfl rfl rfl rfl un26 sz62 c_r_r8_13_27_6_1.1 c_r_r8_13_27_6_1.2 hAc_r_r8_13_27_6_1 fun a hk => qe hk) fun a hk => ?_
          refine tqst (.slice A0_ l0.length p0_) hk rfl rfl rfl rfl (fun w hs => sm _ rfl hk rfl rfl rfl fun a hk => qe hk) fun a hk => ?_
          refine tqst (.int .i64 u_r8_13_11) hk rfl rfl rfl rfl (fun w hs => sm _ rfl hk rfl rfl rfl fun a hk => qe hk) fun a hk => ?_
          obtain ⟨b_r_r8_13_27_10_2, q_r_r8_13_27_10_3, hAc_r_r8_13_27_10_1⟩ := (o_r8_13_9.view).some_ u_r8_13_11 c_r_r8_13_27_10_1.1 (by rw [lh_r8_13_10]; exact c_r_r8_13_27_10_1.2)
          refine tqst (.pointer (some (padd A0_ (u_r8_13_11.toNat * 2)))) hk rfl rfl rfl rfl (fun w hs => si rfl hk rfl rfl rfl rfl un26 sz62 c_r_r8_13_27_10_1.1 c_r_r8_13_27_10_1.2 hAc_r_r8_13_27_10_1 fun a hk => qe hk) fun a hk => ?_
          refine tsst hk rfl rfl (fun K_r_r8_13_27_7 hK_r_r8_13_27_7 w hF => ?_) ?_
          · skip
            have hs := hs.f hF
            obtain ⟨_, rfl, e_r_r8_13_27_7_1⟩ := (o_r8_13_9.view).at_ z_Entry u_r8_13_12 c_r_r8_13_27_6_1.1 (by rw [lh_r8_13_10]; exact c_r_r8_13_27_6_1.2)
            refine sln [.int .i64 ((u_r8_13_7.getD u_r8_13_12.toNat z_Entry).Key), .int .i64 ((u_r8_13_7.getD u_r8_13_12.toNat z_Entry).Value)] rfl hk rfl rfl rfl ag62 sz62 (cells_at e_r_r8_13_27_7_1 (hs.hasG (k := 103261) rfl)) fun a hk => ?_
            refine se (hs.pick [] rfl) hk (hK_r_r8_13_27_7 _ _ ?_)
            refine tsst hk rfl rfl (fun K_r_r8_13_27_11 hK_r_r8_13_27_11 w hF => ?_) wt_stop
            have hs := hs.f hF
            obtain ⟨_, rfl, e_r_r8_13_27_11_1⟩ := (o_r8_13_9.view).at_ z_Entry u_r8_13_11 c_r_r8_13_27_10_1.1 (by rw [lh_r8_13_10]; exact c_r_r8_13_27_10_1.2)
            refine sln [.int .i64 ((u_r8_13_7.getD u_r8_13_11.toNat z_Entry).Key), .int .i64 ((u_r8_13_7.getD u_r8_13_11.toNat z_Entry).Value)] rfl hk rfl rfl rfl ag62 sz62 (cells_at e_r_r8_13_27_11_1 (hs.hasG (k := 103261) rfl)) fun a hk => ?_
            refine se (hs.pick [] rfl) hk (hK_r_r8_13_27_11 _ _ ?_)
            refine tsst hk rfl rfl (fun K_r_r8_13_27_12 hK_r_r8_13_27_12 w hF => ?_) wt_stop
            have hs := hs.f hF
            obtain ⟨b_r_r8_13_27_12_2, q_r_r8_13_27_12_3, hAc_r_r8_13_27_12_1⟩ := (o_r8_13_9.view).some_ u_r8_13_11 c_r_r8_13_27_12_1.1 (by rw [lh_r8_13_10]; exact c_r_r8_13_27_12_1.2)
            refine si rfl hk rfl rfl rfl rfl un26 sz62 c_r_r8_13_27_12_1.1 c_r_r8_13_27_12_1.2 hAc_r_r8_13_27_12_1 fun a hk => ?_
            refine se (hs.pick [] rfl) hk (hK_r_r8_13_27_12 _ _ ?_)
            refine tsst hk rfl rfl (fun K_r_r8_13_27_13 hK_r_r8_13_27_13 w hF => ?_) wt_stop
            have hs := hs.f hF
            refine so (j := 0) 103261 z_Entry (u_r8_13_7.getD u_r8_13_12.toNat z_Entry) hs rfl o_r8_13_9 c_r_r8_13_27_12_1.1 (by rw [lh_r8_13_10]; exact c_r_r8_13_27_12_1.2) rfl hk rfl rfl rfl rfl rfl sz62 (by simp [Value.cells, Value.oneCell']) (Nat.le_of_ble_eq_true rfl) (fun _ _ h => ⟨by rw [h.1]; rfl, h.2⟩) fun k_r_r8_13_27_13_1 w a hk o_r_r8_13_27_13_2 hs => ?_
            have lh_r_r8_13_27_13_3 : (u_r8_13_7.set u_r8_13_11.toNat (u_r8_13_7.getD u_r8_13_12.toNat z_Entry)).length = l0.length := by rw [List.length_set]; exact lh_r8_13_10
            refine se (hs.pick [] rfl) hk (hK_r_r8_13_27_13 _ _ ?_)
            refine tsst hk rfl rfl (fun K_r_r8_13_27_14 hK_r_r8_13_27_14 w hF => ?_) wt_stop
            have hs := hs.f hF
            obtain ⟨b_r_r8_13_27_14_2, q_r_r8_13_27_14_3, hAc_r_r8_13_27_14_1⟩ := (o_r_r8_13_27_13_2.view).some_ u_r8_13_12 c_r_r8_13_27_14_1.1 (by rw [lh_r_r8_13_27_13_3]; exact c_r_r8_13_27_14_1.2)
            refine si rfl hk rfl rfl rfl rfl un26 sz62 c_r_r8_13_27_14_1.1 c_r_r8_13_27_14_1.2 hAc_r_r8_13_27_14_1 fun a hk => ?_
            refine se (hs.pick [] rfl) hk (hK_r_r8_13_27_14 _ _ ?_)
            refine tlst hk rfl rfl fun K_r_r8_13_27_15 hK_r_r8_13_27_15 w hF => ?_
            have hs := hs.f hF
            refine so (j := 0) 103261 z_Entry (u_r8_13_7.getD u_r8_13_11.toNat z_Entry) hs rfl o_r_r8_13_27_13_2 c_r_r8_13_27_14_1.1 (by rw [lh_r_r8_13_27_13_3]; exact c_r_r8_13_27_14_1.2) rfl hk rfl rfl rfl rfl rfl sz62 (by simp [Value.cells, Value.oneCell']) (Nat.le_of_ble_eq_true rfl) (fun _ _ h => ⟨by rw [h.1]; rfl, h.2⟩) fun k_r_r8_13_27_15_1 w a hk o_r_r8_13_27_15_2 hs => ?_
            have lh_r_r8_13_27_15_3 : ((u_r8_13_7.set u_r8_13_11.toNat (u_r8_13_7.getD u_r8_13_12.toNat z_Entry)).set u_r8_13_12.toNat (u_r8_13_7.getD u_r8_13_11.toNat z_Entry)).length = l0.length := by rw [List.length_set]; exact lh_r_r8_13_27_13_3
            refine se trivial hk (hK_r_r8_13_27_15 _ _ fun w hF => ?_)
            have hs := hs.f hF
            show R_r8_13_28 _ _
            rw [hR_r8_13_28]
            exact ⟨k_r_r8_13_27_15_1, (hk.c 0 rfl (hk.c 2 rfl (hk.c 3 rfl hk.k))), (hs.pick [(103261, 103261)] rfl), o_r_r8_13_27_15_2, lh_r_r8_13_27_15_3⟩
          refine tsst hk rfl rfl (fun K_r_r8_13_27_11 hK_r_r8_13_27_11 w hF => ?_) wt_stop
          have hs := hs.f hF
          obtain ⟨_, rfl, e_r_r8_13_27_11_1⟩ := (o_r8_13_9.view).at_ z_Entry u_r8_13_11 c_r_r8_13_27_10_1.1 (by rw [lh_r8_13_10]; exact c_r_r8_13_27_10_1.2)
          refine sln [.int .i64 ((u_r8_13_7.getD u_r8_13_11.toNat z_Entry).Key), .int .i64 ((u_r8_13_7.getD u_r8_13_11.toNat z_Entry).Value)] rfl hk rfl rfl rfl ag62 sz62 (cells_at e_r_r8_13_27_11_1 (hs.hasG (k := 103261) rfl)) fun a hk => ?_
          refine se (hs.pick [] rfl) hk (hK_r_r8_13_27_11 _ _ ?_)
          refine tsst hk rfl rfl (fun K_r_r8_13_27_7 hK_r_r8_13_27_7 w hF => ?_) wt_stop
          have hs := hs.f hF
          obtain ⟨_, rfl, e_r_r8_13_27_7_1⟩ := (o_r8_13_9.view).at_ z_Entry u_r8_13_12 c_r_r8_13_27_6_1.1 (by rw [lh_r8_13_10]; exact c_r_r8_13_27_6_1.2)
          refine sln [.int .i64 ((u_r8_13_7.getD u_r8_13_12.toNat z_Entry).Key), .int .i64 ((u_r8_13_7.getD u_r8_13_12.toNat z_Entry).Value)] rfl hk rfl rfl rfl ag62 sz62 (cells_at e_r_r8_13_27_7_1 (hs.hasG (k := 103261) rfl)) fun a hk => ?_
          refine se (hs.pick [] rfl) hk (hK_r_r8_13_27_7 _ _ ?_)
          refine tsst hk rfl rfl (fun K_r_r8_13_27_12 hK_r_r8_13_27_12 w hF => ?_) wt_stop
          have hs := hs.f hF
          obtain ⟨b_r_r8_13_27_12_2, q_r_r8_13_27_12_3, hAc_r_r8_13_27_12_1⟩ := (o_r8_13_9.view).some_ u_r8_13_11 c_r_r8_13_27_12_1.1 (by rw [lh_r8_13_10]; exact c_r_r8_13_27_12_1.2)
          refine si rfl hk rfl rfl rfl rfl un26 sz62 c_r_r8_13_27_12_1.1 c_r_r8_13_27_12_1.2 hAc_r_r8_13_27_12_1 fun a hk => ?_
          refine se (hs.pick [] rfl) hk (hK_r_r8_13_27_12 _ _ ?_)
          refine tsst hk rfl rfl (fun K_r_r8_13_27_13 hK_r_r8_13_27_13 w hF => ?_) wt_stop
          have hs := hs.f hF
          refine so (j := 0) 103261 z_Entry (u_r8_13_7.getD u_r8_13_12.toNat z_Entry) hs rfl o_r8_13_9 c_r_r8_13_27_12_1.1 (by rw [lh_r8_13_10]; exact c_r_r8_13_27_12_1.2) rfl hk rfl rfl rfl rfl rfl sz62 (by simp [Value.cells, Value.oneCell']) (Nat.le_of_ble_eq_true rfl) (fun _ _ h => ⟨by rw [h.1]; rfl, h.2⟩) fun k_r_r8_13_27_13_1 w a hk o_r_r8_13_27_13_2 hs => ?_
          have lh_r_r8_13_27_13_3 : (u_r8_13_7.set u_r8_13_11.toNat (u_r8_13_7.getD u_r8_13_12.toNat z_Entry)).length = l0.length := by rw [List.length_set]; exact lh_r8_13_10
          refine se (hs.pick [] rfl) hk (hK_r_r8_13_27_13 _ _ ?_)
          refine tsst hk rfl rfl (fun K_r_r8_13_27_14 hK_r_r8_13_27_14 w hF => ?_) wt_stop
          have hs := hs.f hF
          obtain ⟨b_r_r8_13_27_14_2, q_r_r8_13_27_14_3, hAc_r_r8_13_27_14_1⟩ := (o_r_r8_13_27_13_2.view).some_ u_r8_13_12 c_r_r8_13_27_14_1.1 (by rw [lh_r_r8_13_27_13_3]; exact c_r_r8_13_27_14_1.2)
          refine si rfl hk rfl rfl rfl rfl un26 sz62 c_r_r8_13_27_14_1.1 c_r_r8_13_27_14_1.2 hAc_r_r8_13_27_14_1 fun a hk => ?_
          refine se (hs.pick [] rfl) hk (hK_r_r8_13_27_14 _ _ ?_)
          refine tlst hk rfl rfl fun K_r_r8_13_27_15 hK_r_r8_13_27_15 w hF => ?_
          have hs := hs.f hF
          refine so (j := 0) 103261 z_Entry (u_r8_13_7.getD u_r8_13_11.toNat z_Entry) hs rfl o_r_r8_13_27_13_2 c_r_r8_13_27_14_1.1 (by rw [lh_r_r8_13_27_13_3]; exact c_r_r8_13_27_14_1.2) rfl hk rfl rfl rfl rfl rfl sz62 (by simp [Value.cells, Value.oneCell']) (Nat.le_of_ble_eq_true rfl) (fun _ _ h => ⟨by rw [h.1]; rfl, h.2⟩) fun k_r_r8_13_27_15_1 w a hk o_r_r8_13_27_15_2 hs => ?_
          have lh_r_r8_13_27_15_3 : ((u_r8_13_7.set u_r8_13_11.toNat (u_r8_13_7.getD u_r8_13_12.toNat z_Entry)).set u_r8_13_12.toNat (u_r8_13_7.getD u_r8_13_11.toNat z_Entry)).length = l0.length := by rw [List.length_set]; exact lh_r_r8_13_27_13_3
          refine se trivial hk (hK_r_r8_13_27_15 _ _ fun w hF => ?_)
          have hs := hs.f hF
          show R_r8_13_28 _ _
          rw [hR_r8_13_28]
          exact ⟨k_r_r8_13_27_15_1, (hk.c 0 rfl (hk.c 2 rfl (hk.c 3 rfl hk.k))), (hs.pick [(103261, 103261)] rfl), o_r_r8_13_27_15_2, lh_r_r8_13_27_15_3⟩
        · intro a w hR0
          rw [hR_r8_13_28] at hR0
          obtain ⟨k_r_r8_13_27_15_1, hk, hs, o_r_r8_13_27_15_2, lh_r_r8_13_27_15_3⟩ := hR0
          refine hK4 _ _ ?_
          apply wp_region_lit
          refine sm _ rfl hk rfl rfl rfl fun a hk => ?_
          refine sv (.int .i64 (w64 (u_r8_13_11 + 1))) hk rfl rfl rfl fun a hk => ?_
          refine sm _ rfl hk rfl rfl rfl fun a hk => ?_
          refine sv (.int .i64 (w64 (u_r8_13_12 - 1))) hk rfl rfl rfl fun a hk => ?_
          refine sa _ rfl hk rfl rfl rfl fun a hk => ?_
          refine sa _ rfl hk rfl rfl rfl fun a hk => ?_
          show wpList _ _ _ [] _ _
          refine wpList_nil ?_
          obtain rfl := Option.some.inj H
          obtain ⟨m_r8_13_29, hmm_r8_13_29, h_r8_13_24⟩ := h_r8_13_24
          show ∃ n', n' < _ ∧ I_r8_13_21 n' _ _
          refine ⟨m_r8_13_29, hmm_r8_13_29, ?_⟩
          rw [hI_r8_13_21]
          exact ⟨((u_r8_13_7.set u_r8_13_11.toNat (u_r8_13_7.getD u_r8_13_12.toNat z_Entry)).set u_r8_13_12.toNat (u_r8_13_7.getD u_r8_13_11.toNat z_Entry)), (w64 (u_r8_13_11 + 1)), (w64 (u_r8_13_12 - 1)), _, h_r8_13_24, (hk.c 0 rfl (hk.c 2 rfl (hk.c 3 rfl hk.k))), (hs.pick [(103261, 103261)] rfl), o_r_r8_13_27_15_2, lh_r_r8_13_27_15_3⟩
      · have hk := hk.lit 9 c_r8_13_26 rfl
        refine cnd_false hk rfl rfl ?_
        refine wp_exit ?_
        obtain rfl := Option.some.inj H
        show R_r8_13_20 _ _
        rw [hR_r8_13_20]
        exact ⟨h_r8_13_24.symm, hk.k, (hs.pick [] rfl)⟩
  · intro a w hR0
    rw [hR_r8_13_20] at hR0
    obtain ⟨rfl, hk, hs⟩ := hR0
    have H := HL_r8_13_19
    try dsimp only at H
    cases H

set_option maxRecDepth 100000 in
set_option maxHeartbeats 1000000 in
theorem ov188 {w : World} {A : Value} {b1 o1 n1 c1 b2 o2 n2 c2 : Nat} {cs1 cs2 : Array Value} {T1 T2 : TypeId} (h1 : w.heap[b1]? = some (.cells cs1 T1 (0, 0))) (h2 : w.heap[b2]? = some (.cells cs2 T2 (0, 0))) (hne : b1 ≠ b2) (h0 : cs2.size ≠ 0) :
    (callFunc 188 #[.slice (some ⟨b1, o1, none⟩) n1 c1, .slice (some ⟨b2, o2, none⟩) n2 c2]).run Try.prog w = .ok (.value (.bool false)) w := by
  rw [run_callFunc_extern Try.func188 (by kernel_rfl) (by kernel_rfl) (by kernel_rfl) (e := Extern.SlicesOverlaps.overlaps #[26, 26] #[4]) (by kernel_rfl),
    Lib.run_overlaps_apart w 26 4 62 un26 2 (fun w => Go.Z.run_sizeOf sz62) ⟨b1, o1, none⟩ ⟨b2, o2, none⟩ n1 c1 n2 c2 hne T1 T2 cs1.size cs2.size (by simp [World.shape?, h1]) (by simp [World.shape?, h2]) h0 (by simp [World.frozen?, h1]) (by simp [World.frozen?, h1])]
  rfl
set_option maxRecDepth 100000 in
set_option maxHeartbeats 1000000 in
theorem slices_Insert_impl_Entry_impl_Entry_n {M : List Nat} {w00 w : World} {Δ Γ : List (Nat × Chunk)} (k k2 : Nat) {A A' : Option Addr} {cap cap' : Nat} {xs ys : List S_Entry} {c c2 : Chunk} (i : Nat)
    (hs : Sat M w00 w Δ Γ) (hg : kget Γ k = some c) (hown : Own L_Entry 62 A cap xs c) (hg2 : kget (kdel Γ k) k2 = some c2) (hv : Own L_Entry 62 A' cap' ys c2) (hpos : 0 < ys.length) (hi : i ≤ xs.length) (hn : xs.length + ys.length ≤ 1073741824) :
    Calls Try.prog 183 #[.slice A xs.length cap, .int .i64 i, .slice A' ys.length cap'] w (Ret (fun v w' => ∃ A1 cap1 c1, v = .slice A1 (insL xs i ys).length cap1 ∧ Own L_Entry 62 A1 cap1 (insL xs i ys) c1 ∧ Sat M w00 w' Δ ((k, c1) :: kdel Γ k))) := by
  have hfl : (L_Entry).Flat := flat_flat
  have hLs : (L_Entry).size = 2 := rfl
  have hw2 : Has w c2 := (hs.drop k).hasG hg2
  obtain ⟨fss, dn, hdr, e2, hy, hsrc⟩ := own_src hv hw2
  have hy := hy.flat hfl
  obtain ⟨b2, rfl, cs2, ess2, cd2, rfl, -, -, hcs2, hle2, htop2⟩ := hv.opened (by intro e; rw [e] at hpos; exact absurd hpos (by simp))
  have hmx : maxLen = 9223372036854775807 := rfl
  have hfll := hy.flatten_len
  have h1y := Lay.ones hy
  refine enter Try.func183 rfl Try.ntmps183 rfl fun a hk => ?_
  apply wp_seq_k; intro K1 hK1
  apply wp_region_lit
  refine sa _ rfl hk rfl rfl rfl fun a hk => ?_
  show wpList _ _ _ [] _ _
  refine wpList_nil ?_
  refine hK1 _ _ ?_
  apply wp_seq_k; intro K2 hK2
  apply wp_region_lit
  refine sm _ rfl hk rfl rfl rfl fun a hk => ?_
  refine sm _ rfl hk rfl rfl rfl fun a hk => ?_
  refine sll_l rfl hk rfl rfl rfl rfl un26 sz62 (by omega) (by omega) fun a hk => ?_
  show wpList _ _ _ [] _ _
  refine wpList_nil ?_
  refine hK2 _ _ ?_
  apply wp_seq_k; intro K3 hK3
  apply wp_region_lit
  refine sm _ rfl hk rfl rfl rfl fun a hk => ?_
  refine sle rfl hk rfl rfl rfl un26 fun a hk => ?_
  refine sa _ rfl hk rfl rfl rfl fun a hk => ?_
  show wpList _ _ _ [] _ _
  refine wpList_nil ?_
  refine hK3 _ _ ?_
  apply wp_seq_k; intro K5 hK5
  apply wp_seq_k; intro K4 hK4
  apply wp_region_lit
  refine sm _ rfl hk rfl rfl rfl fun a hk => ?_
  refine sv (.bool (decide ((ys.length : Int) = 0))) hk rfl rfl rfl fun a hk => ?_
  show wpList _ _ _ [] _ _
  refine wpList_nil ?_
  refine hK4 _ _ ?_
  have hk := hk.lit 16 (decide_eq_false (by omega)) rfl
  refine cnd_false hk rfl rfl ?_
  refine wp_skip ?_
  refine hK5 _ _ ?_
  apply wp_seq_k; intro K6 hK6
  apply wp_region_lit
  refine sm _ rfl hk rfl rfl rfl fun a hk => ?_
  refine sle rfl hk rfl rfl rfl un26 fun a hk => ?_
  refine sa _ rfl hk rfl rfl rfl fun a hk => ?_
  show wpList _ _ _ [] _ _
  refine wpList_nil ?_
  refine hK6 _ _ ?_
  apply wp_seq_k; intro K8 hK8
  apply wp_seq_k; intro K7 hK7
  apply wp_region_lit
  refine sm _ rfl hk rfl rfl rfl fun a hk => ?_
  refine sm _ rfl hk rfl rfl rfl fun a hk => ?_
  refine sv (.bool (decide ((i : Int) = (xs.length : Int)))) hk rfl rfl rfl fun a hk => ?_
  show wpList _ _ _ [] _ _
  refine wpList_nil ?_
  refine hK7 _ _ ?_
  by_cases hin : i = xs.length
  · have hk := hk.lit 22 (decide_eq_true (by omega)) rfl
    refine cnd_true hk rfl rfl ?_
    apply wp_seq_k; intro K9 hK9
    apply wp_region_lit
    refine sm _ rfl hk rfl rfl rfl fun a hk => ?_
    refine sm _ rfl hk rfl rfl rfl fun a hk => ?_
    refine sap k hfl hs hg hown hv.view hw2 rfl hk rfl rfl rfl rfl rfl rfl un26 mk62 rfl rfl rfl hn fun A1 p1 c1 w a hk o hs => ?_
    refine sa _ rfl hk rfl rfl rfl fun a hk => ?_
    show wpList _ _ _ [] _ _
    refine wpList_nil ?_
    refine hK9 _ _ ?_
    refine wp_ret ?_
    have e : insL xs i ys = xs ++ ys := by simp [insL, hin]
    exact fin hk _ [(.slice A1 (xs ++ ys).length p1)] rfl ⟨rfl, trivial⟩ ⟨A1, p1, c1, by rw [e]; rfl, by rw [e]; exact o, hs⟩
  · have hk := hk.lit 22 (decide_eq_false (by omega)) rfl
    refine cnd_false hk rfl rfl ?_
    refine wp_skip ?_
    refine hK8 _ _ ?_
    have hxne : xs ≠ [] := by rintro rfl; exact hin (Nat.le_zero.1 hi)
    obtain ⟨b, rfl, cs, ess, cd, rfl, hall, htake, hcs, hle, htop⟩ := hown.opened hxne
    have hall := hall.flat hfl
    have hxl := hall.flatten_len
    have h1x := Lay.ones hall
    rw [hLs] at hxl hfll htake hcs hcs2
    have hcl : cs.toList.length = cap * 2 := by rw [Array.length_toList (xs := cs), hcs]
    have hbw : w.heap[b]? = some (.cells cs 62 (0, 0)) := hs.hasG hg _ (List.mem_cons_self ..)
    have hbw2 : w.heap[b2]? = some (.cells cs2 62 (0, 0)) := hw2 _ (List.mem_cons_self ..)
    have hbne : b2 ≠ b := by
      rintro rfl
      have h3 := kget_perm hg
      have h4 := h3.nodup_iff.1 hs.nodup
      have h5 : b2 ∈ blks (kdel Γ k) := by
        obtain ⟨s, h6⟩ := kget_mem hg2
        exact blks_mem.2 ⟨_, h6, _, List.mem_cons_self ..⟩
      exact (List.nodup_append.1 h4).2.2 b2 (by simp [cblk]) b2 h5 rfl
    have holds : ∀ w : World, w.heap[b]? = some (.cells cs 62 (0, 0)) → ∀ j u, ess.flatten[j]? = some u → w.cell? ((⟨b, 0, none⟩ : Addr).add j) = some u := by
      intro w hbw j u hu
      rw [addr_add0, cell_of_row w b j cs 62 (0, 0) hbw]
      rw [← htake, List.getElem?_take] at hu
      split at hu
      · simpa using hu
      · cases hu
    have hdropc : ∀ w : World, w.heap[b]? = some (.cells cs 62 (0, 0)) → ∀ j u, (ess.flatten.drop (i * 2))[j]? = some u → w.cell? ((⟨b, i * 2, none⟩ : Addr).add j) = some u := by
      intro w hbw j u hu
      rw [List.getElem?_drop] at hu
      have := holds w hbw _ u hu
      rw [addr_add0] at this
      rw [addr_add1]; exact this
    have hysrc : ∀ w : World, Has w ((b2, .cells cs2 62 (0, 0)) :: cd2) → ∀ j u, fss.flatten[j]? = some u → w.cell? ((⟨b2, 0, none⟩ : Addr).add j) = some u := by
      intro w1 hw1
      rcases hsrc with ⟨h0, m, h3⟩ | ⟨a3, m, h3, h4⟩
      · omega
      · obtain ⟨rfl, rfl⟩ : a3 = ⟨b2, 0, none⟩ ∧ m = cap' := by cases h3; exact ⟨rfl, rfl⟩
        intro j u hu
        have h5 := h4 j u hu
        rw [addr_add0] at h5 ⊢
        rw [cell_of_row w b2 j cs2 62 (0, 0) hbw2] at h5
        rw [cell_of_row w1 b2 j cs2 62 (0, 0) (hw1 _ (List.mem_cons_self ..))]; exact h5
    have hs1 := hs.less (k := k) [(b, .cells cs 62 (0, 0))] cd hg (by simp)
    have hcap : (cap : Int) ≤ 9223372036854775807 := by omega
    apply wp_seq_k; intro K11 hK11
    apply wp_seq_k; intro K10 hK10
    apply wp_region_lit
    refine sm _ rfl hk rfl rfl rfl fun a hk => ?_
    refine sm _ rfl hk rfl rfl rfl fun a hk => ?_
    refine sv (.int .i64 (w64 ((xs.length : Int) + (ys.length : Int)))) hk rfl rfl rfl fun a hk => ?_
    refine sm _ rfl hk rfl rfl rfl fun a hk => ?_
    refine scap rfl hk rfl rfl rfl un26 fun a hk => ?_
    refine sv (.bool (decide ((cap : Int) < w64 ((xs.length : Int) + (ys.length : Int))))) hk rfl rfl rfl fun a hk => ?_
    show wpList _ _ _ [] _ _
    refine wpList_nil ?_
    refine hK10 _ _ ?_
    have en : w64 ((xs.length : Int) + (ys.length : Int)) = ((xs.length + ys.length : Nat) : Int) := by rw [w64id (by omega) (by omega)]; omega
    have ei : w64 ((i : Int) + (ys.length : Int)) = ((i + ys.length : Nat) : Int) := by rw [w64id (by omega) (by omega)]; omega
    have elen := len_insL xs i ys hi
    have hdl : (ess.flatten.drop (i * 2)).length = (xs.length - i) * 2 := by rw [List.length_drop, hxl]; omega
    by_cases hroom : cap < xs.length + ys.length
    · have hk := hk.lit 31 (decide_eq_true (by rw [en]; omega)) rfl
      refine cnd_true hk rfl rfl ?_
      apply wp_seq_k; intro K12 hK12
      apply wp_region_lit
      refine sm _ rfl hk rfl rfl rfl fun a hk => ?_
      refine sm _ rfl hk rfl rfl rfl fun a hk => ?_
      refine sll_h rfl hk rfl rfl rfl rfl un26 sz62 (by omega) (by omega) fun a hk => ?_
      have hk := hk.re (v' := .slice (some ⟨b, 0, none⟩) i cap) 34 rfl sl_head
      refine sm _ rfl hk rfl rfl rfl fun a hk => ?_
      refine sm _ rfl hk rfl rfl rfl fun a hk => ?_
      refine sv (.int .i64 (w64 ((xs.length : Int) + (ys.length : Int)))) hk rfl rfl rfl fun a hk => ?_
      rw [en] at hk
      refine sm _ rfl hk rfl rfl rfl fun a hk => ?_
      refine sv (.int .i64 (w64 (((xs.length + ys.length : Nat) : Int) - (i : Int)))) hk rfl rfl rfl fun a hk => ?_
      have em : w64 (((xs.length + ys.length : Nat) : Int) - (i : Int)) = ((xs.length + ys.length - i : Nat) : Int) := by rw [w64id (by omega) (by omega)]; omega
      rw [em] at hk
      obtain ⟨inf, hinf, hbinf, hzinf, hszinf⟩ := mkB_spec mk62
      have hby : inf.bytes ≤ 131072 := hbinf
      have hprod : (xs.length + ys.length) * inf.bytes ≤ 140737488355328 := by
        have := Nat.mul_le_mul hn hby
        omega
      have hgc := grownCap_ge w (i + (xs.length + ys.length - i)) cap 62
      have hgm := grownCap_le_maxLen w (i + (xs.length + ys.length - i)) cap 62 (by omega)
      have htk : (ess.flatten.take (i * 2)).length = i * 2 := by rw [List.length_take, hxl]; omega
      have hfc : (Builtin.firstCells inf.size i (.slice (some ⟨b, 0, none⟩) i cap)).run Try.prog w.drew = .ok (ess.flatten.take (i * 2)).toArray w.drew :=
        run_firstCells_some (P := Try.prog) w.drew inf.size i ⟨b, 0, none⟩ i cap (ess.flatten.take (i * 2)) (by rw [htk, hszinf]) (fun j u hu => by
          have : ess.flatten[j]? = some u := by
            rw [List.getElem?_take] at hu
            split at hu
            · exact hu
            · cases hu
          have := holds w hbw j u this
          simpa using this)
      have hpb : (xs.length + ys.length - i) * inf.bytes ≤ 281474976710656 := by
        have := Nat.mul_le_mul_right inf.bytes (show xs.length + ys.length - i ≤ xs.length + ys.length by omega)
        omega
      have hrun := fun ty => Lib.run_append_grow_zeros (P := Try.prog) w 26 3 ty 62 inf _ .i64 .i64 un26 (by kernel_rfl : Try.prog.underlying 3 = some (.int .i64)) hinf hzinf (some ⟨b, 0, none⟩) i cap _ hfc (xs.length + ys.length - i) (by omega) (by omega) (by omega) (by omega) hpb (growslice_fits (by omega) (by rw [show i + (xs.length + ys.length - i) = xs.length + ys.length by omega]; exact hprod))
      generalize hgv : grownCap w (i + (xs.length + ys.length - i)) cap 62 = gc at hrun hgc hgm
      generalize hcn : ((ess.flatten.take (i * 2)).toArray ++ Builtin.zeroCells (Value.cells (.agg #[.int .i64 0, .int .i64 0])) (xs.length + ys.length - i) ++ Builtin.zeroCells (Value.cells (.agg #[.int .i64 0, .int .i64 0])) (gc - (i + (xs.length + ys.length - i)))) = cn at hrun
      have hcnl : cn.size = gc * 2 := by
        rw [← hcn]
        simp only [Array.size_append, size_zeroCells, List.size_toArray, htk]
        have : (Value.cells (.agg #[.int .i64 0, .int .i64 0])).size = 2 := rfl
        rw [this]; omega
      have hcnt : cn.toList.take (i * 2) = ess.flatten.take (i * 2) := by
        rw [← hcn]
        simp only [Array.toList_append, List.toList_toArray, List.append_assoc]
        exact List.take_left' htk
      refine sapz rfl hk rfl rfl rfl rfl hrun fun a hk => ?_
      have hs2 : Sat M w00 (w.drew.alloc (.cells cn 62 (0, 0))) Δ ((k, [(w.heap.size, .cells cn 62 (0, 0))]) :: (k, [(b, .cells cs 62 (0, 0))]) :: kdel Γ k) := hs1.drew.alloc k (.cells cn 62 (0, 0))
      have hcln : cn.toList.length = gc * 2 := by rw [Array.length_toList (xs := cn), hcnl]
      generalize hbn : w.heap.size = nb at hk hs2
      have hbw1 : (w.drew.alloc (.cells cn 62 (0, 0))).heap[b]? = some (.cells cs 62 (0, 0)) := (hs2.drop k).hasG (by simp only [kdel, Nat.beq_refl, if_true]; exact kget_cons _ _ _) _ (List.mem_singleton.2 rfl)
      generalize w.drew.alloc (.cells cn 62 (0, 0)) = w at hs2 hbw1
      refine sa _ rfl hk rfl rfl rfl fun a hk => ?_
      show wpList _ _ _ [] _ _
      refine wpList_nil ?_
      refine hK12 _ _ ?_
      have eg : i + (xs.length + ys.length - i) = xs.length + ys.length := by omega
      rw [eg] at hk hgc
      apply wp_seq_k; intro K16 hK16
      apply wp_region_lit
      refine sm _ rfl hk rfl rfl rfl fun a hk => ?_
      refine sm _ rfl hk rfl rfl rfl fun a hk => ?_
      refine sll_l rfl hk rfl rfl rfl rfl un26 sz62 (by omega) (by omega) fun a hk => ?_
      have hk := hk.re (v' := .slice (some ⟨nb, i * 2, none⟩) (xs.length + ys.length - i) (gc - i)) 43 rfl (sl_off (by omega))
      refine sm _ rfl hk rfl rfl rfl fun a hk => ?_
      have hk2 : ∀ {w}, Sat M w00 w Δ ((k, [(nb, .cells cn 62 (0, 0))]) :: (k, [(b, .cells cs 62 (0, 0))]) :: kdel Γ k) → Has w ((b2, .cells cs2 62 (0, 0)) :: cd2) := fun h => by
        have h := (h.drop k)
        simp only [kdel, Nat.beq_refl, if_true] at h
        have h := (h.drop k)
        simp only [kdel, Nat.beq_refl, if_true] at h
        exact h.hasG hg2
      refine scp k _ fss.flatten hs2 (kget_cons _ _ _) (hysrc _ (hk2 hs2)) h1y (by rw [hfll]; simp only [Nat.min_def]; split <;> omega) (by rw [hfll, hcnl]; omega) rfl hk rfl rfl rfl rfl un26 sz62 rfl fun w a hk hs3 => ?_
      simp only [kset, Nat.beq_refl, if_true] at hs3
      show wpList _ _ _ [] _ _
      refine wpList_nil ?_
      refine hK16 _ _ ?_
      apply wp_seq_k; intro K15 hK15
      refine wp_region_tree (.q 0 (.q 1 (.q 2 (.q 3 (.q 4 (.q 5 (.q 6 (.q 7 (.alt 8 .done .stop))))))))) mo (by kernel_rfl) (hs3.dnil.pick [] rfl) fun _ => ?_
      have hs3 := hs3.drew
      refine tqst (.slice (some ⟨nb, 0, none⟩) (xs.length + ys.length) gc) hk rfl rfl rfl rfl (fun w hs => sm _ rfl hk rfl rfl rfl fun a hk => qe hk) fun a hk => ?_
      refine tqst (.int .i64 (i : Int)) hk rfl rfl rfl rfl (fun w hs => sm _ rfl hk rfl rfl rfl fun a hk => qe hk) fun a hk => ?_
      refine tqst (.int .i64 (ys.length : Int)) hk rfl rfl rfl rfl (fun w hs => sm _ rfl hk rfl rfl rfl fun a hk => qe hk) fun a hk => ?_
      refine tqst (.int .i64 (w64 ((i : Int) + (ys.length : Int)))) hk rfl rfl rfl rfl (fun w hs => sv (.int .i64 (w64 ((i : Int) + (ys.length : Int)))) hk rfl rfl rfl fun a hk => qe hk) fun a hk => ?_
      rw [ei] at hk
      refine tqst _ hk rfl rfl rfl rfl (fun w hs => sll_l rfl hk rfl rfl rfl rfl un26 sz62 (by omega) (by omega) fun a hk => qe hk) fun a hk => ?_
      have hk := hk.re (v' := .slice (some ⟨nb, (i + ys.length) * 2, none⟩) (xs.length + ys.length - (i + ys.length)) (gc - (i + ys.length))) 50 rfl (sl_off (by omega))
      refine tqst (.slice (some ⟨b, 0, none⟩) xs.length cap) hk rfl rfl rfl rfl (fun w hs => sm _ rfl hk rfl rfl rfl fun a hk => qe hk) fun a hk => ?_
      refine tqst (.int .i64 (i : Int)) hk rfl rfl rfl rfl (fun w hs => sm _ rfl hk rfl rfl rfl fun a hk => qe hk) fun a hk => ?_
      refine tqst _ hk rfl rfl rfl rfl (fun w hs => sll_l rfl hk rfl rfl rfl rfl un26 sz62 (by omega) (by omega) fun a hk => qe hk) fun a hk => ?_
      have hk := hk.re (v' := .slice (some ⟨b, i * 2, none⟩) (xs.length - i) (cap - i)) 53 rfl (sl_off (by omega))
      refine tsst hk rfl rfl (fun Kl hKl w hF => ?_) wt_stop
      have hs3 := hs3.f hF
      have hbw3 : w.heap[b]? = some (.cells cs 62 (0, 0)) := (hs3.drop k).hasG (by simp only [kdel, Nat.beq_refl, if_true]; exact kget_cons _ _ _) _ (List.mem_singleton.2 rfl)
      refine scp k _ (ess.flatten.drop (i * 2)) hs3 (kget_cons _ _ _) (hdropc _ hbw3) (fun u hu => h1x u (List.mem_of_mem_drop hu)) (by rw [hdl]; simp only [Nat.min_def]; split <;> omega) (by rw [List.size_toArray, put_len (by rw [hfll, hcln]; omega), hdl, hcln]; omega) rfl hk rfl rfl rfl rfl un26 sz62 rfl fun w a hk hs4 => ?_
      refine se (hs4.dnil.pick [] rfl) hk (hKl _ _ ?_)
      refine wtl_nil fun w hF _ => ?_
      have hs4 := hs4.f hF
      simp only [kset, Nat.beq_refl, if_true] at hs4
      refine hK15 _ _ ?_
      apply wp_seq_k; intro K17 hK17
      apply wp_region_lit
      refine sm _ rfl hk rfl rfl rfl fun a hk => ?_
      refine sa _ rfl hk rfl rfl rfl fun a hk => ?_
      show wpList _ _ _ [] _ _
      refine wpList_nil ?_
      refine hK17 _ _ ?_
      refine wp_ret ?_
      have hs5 := hs4.drop2 k
      refine fin hk _ [(.slice (some ⟨nb, 0, none⟩) (xs.length + ys.length) gc)] rfl ⟨rfl, trivial⟩ ⟨_, gc, _, by rw [elen]; rfl, own_ins hall hy hi ?_ ?_ (by omega) hgm, hs5⟩
      · have := ins_new (cs0 := cn.toList) (E0 := ess.flatten) (V := fss.flatten) (p := i * 2) (q := ys.length * 2) (N := xs.length * 2) hcnt hxl hfll (by omega) (by rw [hcln]; omega)
        rw [hLs, List.toList_toArray, List.toList_toArray, Nat.add_mul, Nat.add_mul]
        exact this
      · rw [hLs, List.size_toArray, List.toList_toArray, put_len (by rw [put_len (by rw [hfll, hcln]; omega), hdl, hcln]; omega), put_len (by rw [hfll, hcln]; omega), hcln]
    · have hk := hk.lit 31 (decide_eq_false (by rw [en]; omega)) rfl
      refine cnd_false hk rfl rfl ?_
      refine wp_skip ?_
      refine hK11 _ _ ?_
      apply wp_seq_k; intro K12 hK12
      apply wp_region_lit
      refine sm _ rfl hk rfl rfl rfl fun a hk => ?_
      refine sm _ rfl hk rfl rfl rfl fun a hk => ?_
      refine sm _ rfl hk rfl rfl rfl fun a hk => ?_
      refine sv (.int .i64 (w64 ((xs.length : Int) + (ys.length : Int)))) hk rfl rfl rfl fun a hk => ?_
      rw [en] at hk
      refine sll_h rfl hk rfl rfl rfl rfl un26 sz62 (by omega) (by omega) fun a hk => ?_
      have hk := hk.re (v' := .slice (some ⟨b, 0, none⟩) (xs.length + ys.length) cap) 60 rfl sl_head
      refine sa _ rfl hk rfl rfl rfl fun a hk => ?_
      show wpList _ _ _ [] _ _
      refine wpList_nil ?_
      refine hK12 _ _ ?_
      apply wp_seq_k; intro K14 hK14
      apply wp_seq_k; intro K13 hK13
      apply wp_region_lit
      refine sm _ rfl hk rfl rfl rfl fun a hk => ?_
      refine sm _ rfl hk rfl rfl rfl fun a hk => ?_
      refine sm _ rfl hk rfl rfl rfl fun a hk => ?_
      refine sm _ rfl hk rfl rfl rfl fun a hk => ?_
      refine sv (.int .i64 (w64 ((i : Int) + (ys.length : Int)))) hk rfl rfl rfl fun a hk => ?_
      rw [ei] at hk
      refine sll_l rfl hk rfl rfl rfl rfl un26 sz62 (by omega) (by omega) fun a hk => ?_
      have hk := hk.re (v' := .slice (some ⟨b, (i + ys.length) * 2, none⟩) (xs.length + ys.length - (i + ys.length)) (cap - (i + ys.length))) 66 rfl (sl_off (by omega))
      refine sce1 rfl (ov188 (A := .bool false) hbw2 hbw hbne (by omega)) hk rfl rfl rfl fun a hk => ?_
      refine sv (.bool true) hk rfl rfl rfl fun a hk => ?_
      show wpList _ _ _ [] _ _
      refine wpList_nil ?_
      refine hK13 _ _ ?_
      refine cnd_true hk rfl rfl ?_
      apply wp_seq_k; intro K15 hK15
      refine wp_region_tree (.q 0 (.q 1 (.q 2 (.q 3 (.q 4 (.q 5 (.q 6 (.q 7 (.alt 8 .done .stop))))))))) mo (by kernel_rfl) (hs1.dnil.pick [] rfl) fun _ => ?_
      have hs1 := hs1.drew
      refine tqst (.slice (some ⟨b, 0, none⟩) (xs.length + ys.length) cap) hk rfl rfl rfl rfl (fun w hs => sm _ rfl hk rfl rfl rfl fun a hk => qe hk) fun a hk => ?_
      refine tqst (.int .i64 (i : Int)) hk rfl rfl rfl rfl (fun w hs => sm _ rfl hk rfl rfl rfl fun a hk => qe hk) fun a hk => ?_
      refine tqst (.int .i64 (ys.length : Int)) hk rfl rfl rfl rfl (fun w hs => sm _ rfl hk rfl rfl rfl fun a hk => qe hk) fun a hk => ?_
      refine tqst (.int .i64 (w64 ((i : Int) + (ys.length : Int)))) hk rfl rfl rfl rfl (fun w hs => sv (.int .i64 (w64 ((i : Int) + (ys.length : Int)))) hk rfl rfl rfl fun a hk => qe hk) fun a hk => ?_
      rw [ei] at hk
      refine tqst _ hk rfl rfl rfl rfl (fun w hs => sll_l rfl hk rfl rfl rfl rfl un26 sz62 (by omega) (by omega) fun a hk => qe hk) fun a hk => ?_
      have hk := hk.re (v' := .slice (some ⟨b, (i + ys.length) * 2, none⟩) (xs.length + ys.length - (i + ys.length)) (cap - (i + ys.length))) 73 rfl (sl_off (by omega))
      refine tqst (.slice (some ⟨b, 0, none⟩) (xs.length + ys.length) cap) hk rfl rfl rfl rfl (fun w hs => sm _ rfl hk rfl rfl rfl fun a hk => qe hk) fun a hk => ?_
      refine tqst (.int .i64 (i : Int)) hk rfl rfl rfl rfl (fun w hs => sm _ rfl hk rfl rfl rfl fun a hk => qe hk) fun a hk => ?_
      refine tqst _ hk rfl rfl rfl rfl (fun w hs => sll_l rfl hk rfl rfl rfl rfl un26 sz62 (by omega) (by omega) fun a hk => qe hk) fun a hk => ?_
      have hk := hk.re (v' := .slice (some ⟨b, i * 2, none⟩) (xs.length + ys.length - i) (cap - i)) 76 rfl (sl_off (by omega))
      refine tsst hk rfl rfl (fun Kl hKl w hF => ?_) wt_stop
      have hs2 := hs1.f hF
      refine scp k _ (ess.flatten.drop (i * 2)) hs2 (kget_cons _ _ _) (hdropc _ (box_row hs2 (kget_cons _ _ _))) (fun u hu => h1x u (List.mem_of_mem_drop hu)) (by rw [hdl]; simp only [Nat.min_def]; split <;> omega) (by rw [hdl, hcs]; omega) rfl hk rfl rfl rfl rfl un26 sz62 rfl fun w a hk hs3 => ?_
      refine se (hs3.dnil.pick [] rfl) hk (hKl _ _ ?_)
      refine wtl_nil fun w hF _ => ?_
      have hs3 := hs3.f hF
      simp only [kset, Nat.beq_refl, if_true] at hs3
      refine hK15 _ _ ?_
      apply wp_seq_k; intro K16 hK16
      apply wp_region_lit
      refine sm _ rfl hk rfl rfl rfl fun a hk => ?_
      refine sm _ rfl hk rfl rfl rfl fun a hk => ?_
      refine sll_l rfl hk rfl rfl rfl rfl un26 sz62 (by omega) (by omega) fun a hk => ?_
      have hk := hk.re (v' := .slice (some ⟨b, i * 2, none⟩) (xs.length + ys.length - i) (cap - i)) 80 rfl (sl_off (by omega))
      refine sm _ rfl hk rfl rfl rfl fun a hk => ?_
      have hw3 : Has w ((b2, .cells cs2 62 (0, 0)) :: cd2) := (by have := hs3.drop k; simpa only [kdel, Nat.beq_refl, if_true] using this : Sat M w00 w Δ (kdel Γ k)).hasG hg2
      refine scp k _ fss.flatten hs3 (kget_cons _ _ _) (hysrc _ hw3) h1y (by rw [hfll]; simp only [Nat.min_def]; split <;> omega) (by rw [List.size_toArray, put_len (by rw [hdl, hcl]; omega), hfll, hcl]; omega) rfl hk rfl rfl rfl rfl un26 sz62 rfl fun w a hk hs4 => ?_
      show wpList _ _ _ [] _ _
      refine wpList_nil ?_
      refine hK16 _ _ ?_
      simp only [kset, Nat.beq_refl, if_true] at hs4
      apply wp_seq_k; intro K17 hK17
      apply wp_region_lit
      refine sm _ rfl hk rfl rfl rfl fun a hk => ?_
      refine sa _ rfl hk rfl rfl rfl fun a hk => ?_
      show wpList _ _ _ [] _ _
      refine wpList_nil ?_
      refine hK17 _ _ ?_
      refine wp_ret ?_
      refine fin hk _ [(.slice (some ⟨b, 0, none⟩) (xs.length + ys.length) cap)] rfl ⟨rfl, trivial⟩ ⟨_, cap, _, by rw [elen]; rfl, own_ins hall hy hi ?_ ?_ (by omega) htop, hs4⟩
      · have := ins_old (cs := cs.toList) (E0 := ess.flatten) (V := fss.flatten) (p := i * 2) (q := ys.length * 2) (N := xs.length * 2) htake hxl hfll (by omega) (by rw [hcl]; omega)
        rw [hLs, List.toList_toArray, List.toList_toArray, Nat.add_mul, Nat.add_mul]
        exact this
      · rw [hLs, List.size_toArray, List.toList_toArray, put_len (by rw [put_len (by rw [hdl, hcl]; omega), hfll, hcl]; omega), put_len (by rw [hdl, hcl]; omega), hcl]
theorem slices_Insert_impl_Entry_impl_Entry_t {M : List Nat} {w00 w : World} {Δ Γ : List (Nat × Chunk)} (k k2 : Nat) {A A' : Option Addr} {cap cap' : Nat} {xs ys : List S_Entry} {c c2 : Chunk} {i : Int}
    (hs : Sat M w00 w Δ Γ) (hg : kget Γ k = some c) (hown : Own L_Entry 62 A cap xs c) (hg2 : kget (kdel Γ k) k2 = some c2) (hv : Own L_Entry 62 A' cap' ys c2) (hpos : 0 < ys.length) (hi : (0 ≤ i ∧ i ≤ (xs.length : Int)) ∧ xs.length + ys.length ≤ 1073741824) :
    Calls Try.prog 183 #[.slice A xs.length cap, .int .i64 i, .slice A' ys.length cap'] w (Ret (fun v w' => ∃ A1 cap1 c1, v = .slice A1 (insL xs i.toNat ys).length cap1 ∧ Own L_Entry 62 A1 cap1 (insL xs i.toNat ys) c1 ∧ Sat M w00 w' Δ ((k, c1) :: kdel Γ k))) := by
  obtain ⟨n, rfl⟩ := Int.eq_ofNat_of_zero_le hi.1.1
  exact slices_Insert_impl_Entry_impl_Entry_n k k2 n hs hg hown hg2 hv hpos (by omega) hi.2

noncomputable def impl_put.f (l0 : List S_Entry) (x1 : Int) (x2 : Int) : Option ((List S_Entry) × Bool) :=
  ((impl_find.f l0 x1).bind fun y3 => ((slices_Clone_impl_Entry_impl_Entry.f l0).bind fun y6 => (((bif y3.2 then (if 0 ≤ y3.1 ∧ y3.1 < (y6.length : Int) then (some (.out (y6.set (y3.1).toNat (⟨(y6.getD (y3.1).toNat z_Entry).Key, x2⟩ : S_Entry)))) else none) else (bif ((l0.length : Int) == 11) then (some (.ret (l0, false))) else (if (0 ≤ y3.1 ∧ y3.1 ≤ (y6.length : Int)) ∧ y6.length + ([(⟨x1, x2⟩ : S_Entry)]).length ≤ 1073741824 then (some (.out (insL y6 y3.1.toNat ([(⟨x1, x2⟩ : S_Entry)])))) else none))) : Option (Ex ((List S_Entry)) ((List S_Entry) × Bool))).bind fun o => match o with | .out u15 => (some (u15, true)) | .ret r => (some r))))
set_option maxRecDepth 100000 in
set_option maxHeartbeats 0 in
theorem impl_put_t (w0 : World) (A0_ : Option Addr) (p0_ : Nat) (l0 : List S_Entry) (k0_ : Chunk) (v0_ : View L_Entry A0_ p0_ l0 k0_) (w0_ : Has w0 k0_) (x1 : Int) (x2 : Int) (r : (List S_Entry) × Bool) (H : impl_put.f l0 x1 x2 = some r) :
    Calls Try.prog 167 #[.slice A0_ l0.length p0_, .int .i64 x1, .int .i64 x2] w0 (Ret (fun v w => ∃ (A0 : Option Addr) (p0 : Nat), ∃ (kS : Chunk), v = .tuple #[.slice A0 r.1.length p0, .bool r.2] ∧ View L_Entry A0 p0 r.1 (k0_ ++ kS) ∧ Sat [] w0 w [] [(0, kS)])) := by
  have hs : Sat [] w0 w0 [(1, k0_)] [] := Sat.init w0 [(1, k0_)] [] (by simp only [List.mem_cons, List.not_mem_nil, or_false]; rintro x (rfl) <;> assumption) (by simp) List.nodup_nil (by simp [blks])
  unfold impl_put.f at H
  refine enter Try.func167 rfl Try.ntmps167 rfl fun a hk => ?_
  apply wp_seq_k; intro K1 hK1
  apply wp_region_lit
  refine sa _ rfl hk rfl rfl rfl fun a hk => ?_
  refine sa _ rfl hk rfl rfl rfl fun a hk => ?_
  show wpList _ _ _ [] _ _
  refine wpList_nil ?_
  refine hK1 _ _ ?_
  apply wp_seq_k; intro K2 hK2
  apply wp_region_lit
  refine sm _ rfl hk rfl rfl rfl fun a hk => ?_
  refine sm _ rfl hk rfl rfl rfl fun a hk => ?_
  obtain ⟨y3, h4, H⟩ := bind_some H
  refine sc rfl en82 hk rfl rfl rfl (impl_find_t _ A0_ p0_ l0 _ v0_ (hs.hasD (k := 1) rfl) x1 _ h4) ?_
  rintro _ w ⟨rfl, hG⟩ a hk
  have hs := hs.call0 hG
  refine sm _ rfl hk rfl rfl rfl fun a hk => ?_
  refine sv (.int .i64 y3.1) hk rfl rfl rfl fun a hk => ?_
  refine sv (.bool y3.2) hk rfl rfl rfl fun a hk => ?_
  refine sa _ rfl hk rfl rfl rfl fun a hk => ?_
  refine sa _ rfl hk rfl rfl rfl fun a hk => ?_
  show wpList _ _ _ [] _ _
  refine wpList_nil ?_
  refine hK2 _ _ ?_
  apply wp_seq_k; intro K5 hK5
  apply wp_region_lit
  refine sm _ rfl hk rfl rfl rfl fun a hk => ?_
  obtain ⟨y6, h7, H⟩ := bind_some H
  refine sc rfl en69 hk rfl rfl rfl (slices_Clone_impl_Entry_impl_Entry_t _ A0_ p0_ l0 _ v0_ (hs.hasD (k := 1) rfl) _ h7) ?_
  rintro _ w ⟨A8, p9, k10, rfl, o11, hG⟩ a hk
  have hs := hs.call0k hG [2] rfl
  refine sa _ rfl hk rfl rfl rfl fun a hk => ?_
  show wpList _ _ _ [] _ _
  refine wpList_nil ?_
  refine hK5 _ _ ?_
  apply wp_seq_k; intro K12 hK12
  refine wp_block ?_
  apply wp_seq_k; intro K13 hK13
  apply wp_region_lit
  refine sm _ rfl hk rfl rfl rfl fun a hk => ?_
  refine sa _ rfl hk rfl rfl rfl fun a hk => ?_
  show wpList _ _ _ [] _ _
  refine wpList_nil ?_
  refine hK13 _ _ ?_
  obtain ⟨o20, h21, HL22⟩ := bind_some H
  clear H
  obtain ⟨R23, hR23⟩ : ∃ R : Act → World → Prop, R = fun a w => ∃ (u15 : List S_Entry) (A18 : Option Addr) (p19 : Nat) (k16 : Chunk), .out u15 = o20 ∧ Kn [(10, (.slice A18 u15.length p19))] 39 a ∧ Sat [] w0 w [(1, k0_)] [(2, k16)] ∧ Own L_Entry 62 A18 p19 u15 k16 := ⟨_, rfl⟩
  refine wp_cutq R23 ?_ ?_
  · have H := h21
    rcases cond_some H with ⟨c24, H⟩ | ⟨c24, H⟩
    · have hk := hk.lit 26 c24 rfl
      refine cnd_true hk rfl rfl ?_
      apply wp_region_lit
      refine sm _ rfl hk rfl rfl rfl fun a hk => ?_
      refine sm _ rfl hk rfl rfl rfl fun a hk => ?_
      refine sm _ rfl hk rfl rfl rfl fun a hk => ?_
      rcases ite_some H with ⟨c25, H⟩ | ⟨_, H⟩
      rotate_left
      · cases H
      obtain ⟨b26, q27, hAc25⟩ := (o11.view).some_ y3.1 c25.1 c25.2
      refine si rfl hk rfl rfl rfl rfl un26 sz62 c25.1 c25.2 hAc25 fun a hk => ?_
      refine sf (padd A8 ((y3.1).toNat * 2 + 1)) rfl hk rfl rfl rfl fd62_1 (padd_add _ _ _) fun a hk => ?_
      refine so (j := 1) 2 z_Entry (⟨(y6.getD (y3.1).toNat z_Entry).Key, x2⟩ : S_Entry) hs rfl o11 c25.1 c25.2 rfl hk rfl rfl rfl rfl rfl sz3 (by simp [Value.cells, Value.oneCell']) (Nat.le_of_ble_eq_true rfl) (fun _ _ h => ⟨by rw [h.1]; rfl, h.2⟩) fun k28 w a hk o29 hs => ?_
      have lh30 : (y6.set (y3.1).toNat (⟨(y6.getD (y3.1).toNat z_Entry).Key, x2⟩ : S_Entry)).length = y6.length := by rw [List.length_set]
      show wpList _ _ _ [] _ _
      refine wpList_nil ?_
      obtain rfl := Option.some.inj H
      show R23 _ _
      rw [hR23]
      exact ⟨(y6.set (y3.1).toNat (⟨(y6.getD (y3.1).toNat z_Entry).Key, x2⟩ : S_Entry)), A8, p9, _, rfl, (hk.cl 10 rfl (by rw [lh30]) hk.k), (hs.pick [(2, 2)] rfl), o29⟩
    · have hk := hk.lit 26 c24 rfl
      refine cnd_false hk rfl rfl ?_
      apply wp_seq_k; intro K31 hK31
      apply wp_region_lit
      refine sm _ rfl hk rfl rfl rfl fun a hk => ?_
      refine sle rfl hk rfl rfl rfl un26 fun a hk => ?_
      refine sv (.bool ((l0.length : Int) == 11)) hk rfl rfl rfl fun a hk => ?_
      refine sa _ rfl hk rfl rfl rfl fun a hk => ?_
      show wpList _ _ _ [] _ _
      refine wpList_nil ?_
      refine hK31 _ _ ?_
      rcases cond_some H with ⟨c32, H⟩ | ⟨c32, H⟩
      · have hk := hk.lit 33 c32 rfl
        refine cnd_true hk rfl rfl ?_
        apply wp_seq_k; intro K33 hK33
        apply wp_region_lit
        refine sm _ rfl hk rfl rfl rfl fun a hk => ?_
        refine sa _ rfl hk rfl rfl rfl fun a hk => ?_
        refine sa _ rfl hk rfl rfl rfl fun a hk => ?_
        show wpList _ _ _ [] _ _
        refine wpList_nil ?_
        refine hK33 _ _ ?_
        refine wp_ret ?_
        obtain rfl := Option.some.inj H
        have H := HL22
        try dsimp only at H
        obtain rfl := Option.some.inj H
        exact fin hk _ [(.slice A0_ l0.length p0_), (.bool false)] rfl ⟨rfl, ⟨rfl, trivial⟩⟩ ⟨A0_, p0_, _, rfl, (v0_).sub (Sub.l _ (Sub.refl _)), ((hs.addNil 3000).pick [(0, 3000)] rfl).dnil⟩
      · have hk := hk.lit 33 c32 rfl
        refine cnd_false hk rfl rfl ?_
        apply wp_region_lit
        refine sm _ rfl hk rfl rfl rfl fun a hk => ?_
        refine sm _ rfl hk rfl rfl rfl fun a hk => ?_
        refine sm _ rfl hk rfl rfl rfl fun a hk => ?_
        refine sm _ rfl hk rfl rfl rfl fun a hk => ?_
        refine sbd (pv := [(0, (.int .i64 x1)), (1, (.int .i64 x2))]) rfl hk rfl rfl rfl (bd62_0 x1 x2) fun a hk => ?_
        refine sbs (L := L_Entry) (pv := [(0, (.agg #[.int .i64 x1, .int .i64 x2]))]) (xs := [(⟨x1, x2⟩ : S_Entry)]) (ess := [[.int .i64 x1, .int .i64 x2]]) 4 hs rfl hk rfl rfl rfl un26 (bs62_1 x1 x2) (AllOwn.cons0 ⟨rfl, rfl⟩ AllOwn.nil) rfl rfl rfl fun b34 k35 w a hk o36 hs => ?_
        rcases ite_some H with ⟨c37, H⟩ | ⟨_, H⟩
        rotate_left
        · cases H
        refine sc rfl en183 hk rfl rfl rfl (slices_Insert_impl_Entry_impl_Entry_t 2 4 (xs := y6) (ys := [(⟨x1, x2⟩ : S_Entry)]) hs rfl o11 rfl o36 (by simp) c37) ?_
        rintro _ w ⟨A38, p39, k40, rfl, o41, hs⟩ a hk
        refine sa _ rfl hk rfl rfl rfl fun a hk => ?_
        show wpList _ _ _ [] _ _
        refine wpList_nil ?_
        obtain rfl := Option.some.inj H
        show R23 _ _
        rw [hR23]
        exact ⟨(insL y6 y3.1.toNat ([(⟨x1, x2⟩ : S_Entry)])), A38, p39, _, rfl, (hk.c 10 rfl hk.k), (hs.pick [(2, 2)] rfl), o41⟩
  · intro a w hR0
    rw [hR23] at hR0
    obtain ⟨u15, A18, p19, k16, rfl, hk, hs, o17⟩ := hR0
    have H := HL22
    try dsimp only at H
    refine hK12 _ _ ?_
    apply wp_seq_k; intro K42 hK42
    apply wp_region_lit
    refine sm _ rfl hk rfl rfl rfl fun a hk => ?_
    refine sa _ rfl hk rfl rfl rfl fun a hk => ?_
    refine sa _ rfl hk rfl rfl rfl fun a hk => ?_
    show wpList _ _ _ [] _ _
    refine wpList_nil ?_
    refine hK42 _ _ ?_
    refine wp_ret ?_
    obtain rfl := Option.some.inj H
    exact fin hk _ [(.slice A18 u15.length p19), (.bool true)] rfl ⟨rfl, ⟨rfl, trivial⟩⟩ ⟨A18, p19, _, rfl, (o17.view).sub (Sub.r _ (Sub.refl _)), (hs.pick [(0, 2)] rfl).dnil⟩

noncomputable def impl_do2.f (l0 : List S_Entry) (x1 : S_Op) (x2 : Int) : Option ((List S_Entry) × (List Int) × Int) :=
  (((bif (x1.Kind == 5) then (some ((w64 (x1.Value + x2)), [(w64 (x1.Value + x2))])) else (some (x1.Value, ([] : List Int)))) : Option (Int × (List Int))).bind fun o => match o with | (u8, u9) => ((impl_put.f l0 x1.Key u8).bind fun y24 => (bif (!y24.2) then (some (l0, ([] : List Int), 7)) else ((impl_isValue.f u8).bind fun y35 => (bif (!y35) then (some (l0, ([] : List Int), 4)) else (some (y24.1, u9, 0)))))))
set_option maxRecDepth 100000 in
set_option maxHeartbeats 0 in
theorem impl_do2_t (w0 : World) (A0_ : Option Addr) (p0_ : Nat) (l0 : List S_Entry) (k0_ : Chunk) (v0_ : View L_Entry A0_ p0_ l0 k0_) (w0_ : Has w0 k0_) (x1 : S_Op) (x2 : Int) (r : (List S_Entry) × (List Int) × Int) (H : impl_do2.f l0 x1 x2 = some r) :
    Calls Try.prog 131 #[.slice A0_ l0.length p0_, .agg #[.int .i64 x1.Kind, .int .i64 x1.Key, .int .i64 x1.Value], .int .i64 x2] w0 (Ret (fun v w => ∃ (A0 : Option Addr) (p0 : Nat), ∃ (A1 : Option Addr) (p1 : Nat) (k1 : Chunk), ∃ (kS : Chunk), v = .tuple #[.slice A0 r.1.length p0, .slice A1 r.2.1.length p1, .int .i64 r.2.2] ∧ View L_Entry A0 p0 r.1 (k0_ ++ kS) ∧ Own (Lay.int .i64) 3 A1 p1 r.2.1 k1 ∧ Sat [] w0 w [] [(0, k1), (1, kS)])) := by
  have hs : Sat [] w0 w0 [(1, k0_)] [] := Sat.init w0 [(1, k0_)] [] (by simp only [List.mem_cons, List.not_mem_nil, or_false]; rintro x (rfl) <;> assumption) (by simp) List.nodup_nil (by simp [blks])
  unfold impl_do2.f at H
  refine enter Try.func131 rfl Try.ntmps131 rfl fun a hk => ?_
  apply wp_seq_k; intro K1 hK1
  apply wp_region_lit
  refine sbx 2 hs rfl hk rfl rfl rfl rfl fun b2 w a hk hs => ?_
  refine sa _ rfl hk rfl rfl rfl fun a hk => ?_
  refine sa _ rfl hk rfl rfl rfl fun a hk => ?_
  refine sa _ rfl hk rfl rfl rfl fun a hk => ?_
  show wpList _ _ _ [] _ _
  refine wpList_nil ?_
  refine hK1 _ _ ?_
  apply wp_seq_k; intro K3 hK3
  apply wp_region_lit
  refine sf ⟨b2, 2, none⟩ rfl hk rfl rfl rfl fd31_2 rfl fun a hk => ?_
  refine sl rfl hk rfl rfl rfl ag3 (box_cell hs (k := 2) rfl rfl) fun a hk => ?_
  refine sa _ rfl hk rfl rfl rfl fun a hk => ?_
  show wpList _ _ _ [] _ _
  refine wpList_nil ?_
  refine hK3 _ _ ?_
  apply wp_seq_k; intro K4 hK4
  apply wp_region_lit
  refine sa _ rfl hk rfl rfl rfl fun a hk => ?_
  show wpList _ _ _ [] _ _
  refine wpList_nil ?_
  refine hK4 _ _ ?_
  apply wp_seq_k; intro K5 hK5
  apply wp_seq_k; intro K6 hK6
  apply wp_region_lit
  refine sf ⟨b2, 0, none⟩ rfl hk rfl rfl rfl fd31_0 rfl fun a hk => ?_
  refine sl rfl hk rfl rfl rfl ag3 (box_cell hs (k := 2) rfl rfl) fun a hk => ?_
  refine sv (.bool (x1.Kind == 5)) hk rfl rfl rfl fun a hk => ?_
  show wpList _ _ _ [] _ _
  refine wpList_nil ?_
  refine hK6 _ _ ?_
  obtain ⟨o14, h15, HL16⟩ := bind_some H
  clear H
  obtain ⟨R17, hR17⟩ : ∃ R : Act → World → Prop, R = fun a w => ∃ (u8 : Int) (u9 : List Int) (A12 : Option Addr) (p13 : Nat) (k10 : Chunk), (u8, u9) = o14 ∧ Kn [(0, (.slice A0_ l0.length p0_)), (4, (.pointer (some ⟨b2, 0, none⟩))), (9, (.int .i64 u8)), (10, (.slice A12 u9.length p13))] 42 a ∧ Sat [] w0 w [(1, k0_)] [(3, k10), (2, [(b2, .cells #[.int .i64 x1.Kind, .int .i64 x1.Key, .int .i64 x1.Value] 31 (0, 0))])] ∧ Own (Lay.int .i64) 3 A12 p13 u9 k10 := ⟨_, rfl⟩
  refine wp_cutq R17 ?_ ?_
  · have H := h15
    rcases cond_some H with ⟨c18, H⟩ | ⟨c18, H⟩
    · have hk := hk.lit 17 c18 rfl
      refine cnd_true hk rfl rfl ?_
      apply wp_seq_k; intro K19 hK19
      apply wp_region_lit
      refine sm _ rfl hk rfl rfl rfl fun a hk => ?_
      refine sm _ rfl hk rfl rfl rfl fun a hk => ?_
      refine sv (.int .i64 (w64 (x1.Value + x2))) hk rfl rfl rfl fun a hk => ?_
      refine sa _ rfl hk rfl rfl rfl fun a hk => ?_
      show wpList _ _ _ [] _ _
      refine wpList_nil ?_
      refine hK19 _ _ ?_
      apply wp_region_lit
      refine sm _ rfl hk rfl rfl rfl fun a hk => ?_
      refine sbs (L := (Lay.int .i64)) (pv := [(0, (.int .i64 (w64 (x1.Value + x2))))]) (xs := [(w64 (x1.Value + x2))]) (ess := [[.int .i64 (w64 (x1.Value + x2))]]) 4 hs rfl hk rfl rfl rfl un27 (bs3_3 (w64 (x1.Value + x2))) (AllOwn.cons0 ⟨rfl, rfl⟩ AllOwn.nil) rfl rfl rfl fun b20 k21 w a hk o22 hs => ?_
      refine sa _ rfl hk rfl rfl rfl fun a hk => ?_
      show wpList _ _ _ [] _ _
      refine wpList_nil ?_
      obtain rfl := Option.some.inj H
      show R17 _ _
      rw [hR17]
      exact ⟨(w64 (x1.Value + x2)), [(w64 (x1.Value + x2))], (some ⟨b20, 0, none⟩), 1, _, rfl, (hk.c 0 rfl (hk.c 4 rfl (hk.c 9 rfl (hk.c 10 rfl hk.k)))), (hs.pick [(3, 4), (2, 2)] rfl), o22⟩
    · have hk := hk.lit 17 c18 rfl
      refine cnd_false hk rfl rfl ?_
      refine wp_skip ?_
      obtain rfl := Option.some.inj H
      show R17 _ _
      rw [hR17]
      exact ⟨x1.Value, ([] : List Int), none, 0, _, rfl, (hk.c 0 rfl (hk.c 4 rfl (hk.c 9 rfl (hk.c 10 rfl hk.k)))), ((hs.addNil 1003).pick [(3, 1003), (2, 2)] rfl), Own.nil _ _⟩
  · intro a w hR0
    rw [hR17] at hR0
    obtain ⟨u8, u9, A12, p13, k10, rfl, hk, hs, o11⟩ := hR0
    have H := HL16
    try dsimp only at H
    refine hK5 _ _ ?_
    apply wp_seq_k; intro K23 hK23
    apply wp_region_lit
    refine sm _ rfl hk rfl rfl rfl fun a hk => ?_
    refine sf ⟨b2, 1, none⟩ rfl hk rfl rfl rfl fd31_1 rfl fun a hk => ?_
    refine sl rfl hk rfl rfl rfl ag3 (box_cell hs (k := 2) rfl rfl) fun a hk => ?_
    refine sm _ rfl hk rfl rfl rfl fun a hk => ?_
    obtain ⟨y24, h25, H⟩ := bind_some H
    refine sc rfl en167 hk rfl rfl rfl (impl_put_t _ A0_ p0_ l0 _ v0_ (hs.hasD (k := 1) rfl) x1.Key u8 _ h25) ?_
    rintro _ w ⟨A27, p28, k26, rfl, v29, hG⟩ a hk
    have hs := hs.call0k hG [5] rfl
    refine sm _ rfl hk rfl rfl rfl fun a hk => ?_
    refine sv (.slice A27 y24.1.length p28) hk rfl rfl rfl fun a hk => ?_
    refine sv (.bool y24.2) hk rfl rfl rfl fun a hk => ?_
    refine sa _ rfl hk rfl rfl rfl fun a hk => ?_
    refine sa _ rfl hk rfl rfl rfl fun a hk => ?_
    show wpList _ _ _ [] _ _
    refine wpList_nil ?_
    refine hK23 _ _ ?_
    apply wp_seq_k; intro K30 hK30
    refine wp_block ?_
    apply wp_seq_k; intro K31 hK31
    apply wp_region_lit
    refine sm _ rfl hk rfl rfl rfl fun a hk => ?_
    refine sv (.bool (!y24.2)) hk rfl rfl rfl fun a hk => ?_
    refine sa _ rfl hk rfl rfl rfl fun a hk => ?_
    show wpList _ _ _ [] _ _
    refine wpList_nil ?_
    refine hK31 _ _ ?_
    rcases cond_some H with ⟨c32, H⟩ | ⟨c32, H⟩
    · have hk := hk.lit 31 c32 rfl
      refine cnd_true hk rfl rfl ?_
      apply wp_seq_k; intro K33 hK33
      apply wp_region_lit
      refine sm _ rfl hk rfl rfl rfl fun a hk => ?_
      refine sa _ rfl hk rfl rfl rfl fun a hk => ?_
      refine sa _ rfl hk rfl rfl rfl fun a hk => ?_
      refine sa _ rfl hk rfl rfl rfl fun a hk => ?_
      show wpList _ _ _ [] _ _
      refine wpList_nil ?_
      refine hK33 _ _ ?_
      refine wp_ret ?_
      obtain rfl := Option.some.inj H
      have hs := hs.addNil 6
      exact fin hk _ [(.slice A0_ l0.length p0_), (.slice none 0 0), (.int .i64 7)] rfl ⟨rfl, ⟨rfl, ⟨rfl, trivial⟩⟩⟩ ⟨A0_, p0_, none, 0, [], _, rfl, (v0_).sub (Sub.l _ (Sub.refl _)), Own.nil _ _, ((hs.addNil 3000).pick [(0, 6), (1, 3000)] rfl).dnil⟩
    · have hk := hk.lit 31 c32 rfl
      refine cnd_false hk rfl rfl ?_
      apply wp_seq_k; intro K34 hK34
      apply wp_region_lit
      refine sm _ rfl hk rfl rfl rfl fun a hk => ?_
      obtain ⟨y35, h36, H⟩ := bind_some H
      refine sc rfl en83 hk rfl rfl rfl (impl_isValue_t _ u8 _ h36) ?_
      rintro _ w ⟨rfl, hG⟩ a hk
      have hs := hs.call0 hG
      refine sv (.bool (!y35)) hk rfl rfl rfl fun a hk => ?_
      refine sa _ rfl hk rfl rfl rfl fun a hk => ?_
      show wpList _ _ _ [] _ _
      refine wpList_nil ?_
      refine hK34 _ _ ?_
      rcases cond_some H with ⟨c37, H⟩ | ⟨c37, H⟩
      · have hk := hk.lit 35 c37 rfl
        refine cnd_true hk rfl rfl ?_
        apply wp_seq_k; intro K38 hK38
        apply wp_region_lit
        refine sm _ rfl hk rfl rfl rfl fun a hk => ?_
        refine sa _ rfl hk rfl rfl rfl fun a hk => ?_
        refine sa _ rfl hk rfl rfl rfl fun a hk => ?_
        refine sa _ rfl hk rfl rfl rfl fun a hk => ?_
        show wpList _ _ _ [] _ _
        refine wpList_nil ?_
        refine hK38 _ _ ?_
        refine wp_ret ?_
        obtain rfl := Option.some.inj H
        have hs := hs.addNil 7
        exact fin hk _ [(.slice A0_ l0.length p0_), (.slice none 0 0), (.int .i64 4)] rfl ⟨rfl, ⟨rfl, ⟨rfl, trivial⟩⟩⟩ ⟨A0_, p0_, none, 0, [], _, rfl, (v0_).sub (Sub.l _ (Sub.refl _)), Own.nil _ _, ((hs.addNil 3000).pick [(0, 7), (1, 3000)] rfl).dnil⟩
      · have hk := hk.lit 35 c37 rfl
        refine cnd_false hk rfl rfl ?_
        refine wp_skip ?_
        refine hK30 _ _ ?_
        apply wp_seq_k; intro K39 hK39
        apply wp_region_lit
        refine sm _ rfl hk rfl rfl rfl fun a hk => ?_
        refine sm _ rfl hk rfl rfl rfl fun a hk => ?_
        refine sa _ rfl hk rfl rfl rfl fun a hk => ?_
        refine sa _ rfl hk rfl rfl rfl fun a hk => ?_
        refine sa _ rfl hk rfl rfl rfl fun a hk => ?_
        show wpList _ _ _ [] _ _
        refine wpList_nil ?_
        refine hK39 _ _ ?_
        refine wp_ret ?_
        obtain rfl := Option.some.inj H
        exact fin hk _ [(.slice A27 y24.1.length p28), (.slice A12 u9.length p13), (.int .i64 0)] rfl ⟨rfl, ⟨rfl, ⟨rfl, trivial⟩⟩⟩ ⟨A27, p28, A12, p13, _, _, rfl, (v29).sub (Sub.refl _), o11, (hs.pick [(0, 3), (1, 5)] rfl).dnil⟩

noncomputable def impl_do.f (l0 : List S_Entry) (x1 : S_Op) : Option ((List S_Entry) × (List Int) × Int) :=
  ((impl_find.f l0 x1.Key).bind fun y4 => (((bif y4.2 then (if 0 ≤ y4.1 ∧ y4.1 < (l0.length : Int) then (some ((l0.getD (y4.1).toNat z_Entry).Value)) else none) else (some 0)) : Option (Int)).bind fun u10 => (bif (x1.Kind == 1) then (bif y4.2 then (some (l0, [1, u10], 0)) else (some (l0, [0, 0], 0))) else (bif (x1.Kind == 3) then (bif y4.2 then ((slices_Clone_impl_Entry_impl_Entry.f l0).bind fun y41 => (if (0 ≤ y4.1 ∧ y4.1 ≤ (w64 (y4.1 + 1)) ∧ (w64 (y4.1 + 1)) ≤ (y41.length : Int)) ∧ y41.length ≤ 1073741824 then (some ((delL y41 y4.1.toNat (w64 (y4.1 + 1)).toNat), [1], 0)) else none)) else (some (l0, [0], 0))) else (bif (x1.Kind == 4) then (((bif (!y4.2) then (some true) else (some (u10 != x1.Value))) : Option (Bool)).bind fun u64 => (bif u64 then (some (l0, ([] : List Int), 14)) else (some (l0, ([] : List Int), 0)))) else (bif (x1.Kind == 6) then ((impl_scan.f l0 x1.Key x1.Value).bind fun y76 => (some (l0, y76, 0))) else ((impl_do2.f l0 x1 u10).bind fun y83 => (some (y83.1, y83.2.1, y83.2.2)))))))))
set_option maxRecDepth 100000 in
set_option maxHeartbeats 0 in
theorem impl_do_t (w0 : World) (A0_ : Option Addr) (p0_ : Nat) (l0 : List S_Entry) (k0_ : Chunk) (v0_ : View L_Entry A0_ p0_ l0 k0_) (w0_ : Has w0 k0_) (x1 : S_Op) (r : (List S_Entry) × (List Int) × Int) (H : impl_do.f l0 x1 = some r) :
    Calls Try.prog 68 #[.slice A0_ l0.length p0_, .agg #[.int .i64 x1.Kind, .int .i64 x1.Key, .int .i64 x1.Value]] w0 (Ret (fun v w => ∃ (A0 : Option Addr) (p0 : Nat), ∃ (A1 : Option Addr) (p1 : Nat) (k1 : Chunk), ∃ (kS : Chunk), v = .tuple #[.slice A0 r.1.length p0, .slice A1 r.2.1.length p1, .int .i64 r.2.2] ∧ View L_Entry A0 p0 r.1 (k0_ ++ kS) ∧ Own (Lay.int .i64) 3 A1 p1 r.2.1 k1 ∧ Sat [] w0 w [] [(0, k1), (1, kS)])) := by
  have hs : Sat [] w0 w0 [(1, k0_)] [] := Sat.init w0 [(1, k0_)] [] (by simp only [List.mem_cons, List.not_mem_nil, or_false]; rintro x (rfl) <;> assumption) (by simp) List.nodup_nil (by simp [blks])
  unfold impl_do.f at H
  refine enter Try.func68 rfl Try.ntmps68 rfl fun a hk => ?_
  apply wp_seq_k; intro K1 hK1
  apply wp_region_lit
  refine sbx 2 hs rfl hk rfl rfl rfl rfl fun b2 w a hk hs => ?_
  refine sa _ rfl hk rfl rfl rfl fun a hk => ?_
  refine sa _ rfl hk rfl rfl rfl fun a hk => ?_
  refine sa _ rfl hk rfl rfl rfl fun a hk => ?_
  show wpList _ _ _ [] _ _
  refine wpList_nil ?_
  refine hK1 _ _ ?_
  apply wp_seq_k; intro K3 hK3
  apply wp_region_lit
  refine sm _ rfl hk rfl rfl rfl fun a hk => ?_
  refine sf ⟨b2, 1, none⟩ rfl hk rfl rfl rfl fd31_1 rfl fun a hk => ?_
  refine sl rfl hk rfl rfl rfl ag3 (box_cell hs (k := 2) rfl rfl) fun a hk => ?_
  obtain ⟨y4, h5, H⟩ := bind_some H
  refine sc rfl en82 hk rfl rfl rfl (impl_find_t _ A0_ p0_ l0 _ v0_ (hs.hasD (k := 1) rfl) x1.Key _ h5) ?_
  rintro _ w ⟨rfl, hG⟩ a hk
  have hs := hs.call0 hG
  refine sm _ rfl hk rfl rfl rfl fun a hk => ?_
  refine sv (.int .i64 y4.1) hk rfl rfl rfl fun a hk => ?_
  refine sv (.bool y4.2) hk rfl rfl rfl fun a hk => ?_
  refine sa _ rfl hk rfl rfl rfl fun a hk => ?_
  refine sa _ rfl hk rfl rfl rfl fun a hk => ?_
  show wpList _ _ _ [] _ _
  refine wpList_nil ?_
  refine hK3 _ _ ?_
  apply wp_seq_k; intro K6 hK6
  apply wp_region_lit
  refine sa _ rfl hk rfl rfl rfl fun a hk => ?_
  show wpList _ _ _ [] _ _
  refine wpList_nil ?_
  refine hK6 _ _ ?_
  apply wp_seq_k; intro K7 hK7
  apply wp_seq_k; intro K8 hK8
  apply wp_region_lit
  refine sm _ rfl hk rfl rfl rfl fun a hk => ?_
  show wpList _ _ _ [] _ _
  refine wpList_nil ?_
  refine hK8 _ _ ?_
  obtain ⟨o11, h12, HL13⟩ := bind_some H
  clear H
  obtain ⟨R14, hR14⟩ : ∃ R : Act → World → Prop, R = fun a w => ∃ (u10 : Int), u10 = o11 ∧ Kn [(0, (.slice A0_ l0.length p0_)), (3, (.pointer (some ⟨b2, 0, none⟩))), (7, (.int .i64 y4.1)), (8, (.bool y4.2)), (9, (.int .i64 u10))] 73 a ∧ Sat [] w0 w [(1, k0_)] [(2, [(b2, .cells #[.int .i64 x1.Kind, .int .i64 x1.Key, .int .i64 x1.Value] 31 (0, 0))])] := ⟨_, rfl⟩
  refine wp_cutq R14 ?_ ?_
  · have H := h12
    rcases cond_some H with ⟨c15, H⟩ | ⟨c15, H⟩
    · have hk := hk.lit 17 c15 rfl
      refine cnd_true hk rfl rfl ?_
      apply wp_region_lit
      refine sm _ rfl hk rfl rfl rfl fun a hk => ?_
      refine sm _ rfl hk rfl rfl rfl fun a hk => ?_
      rcases ite_some H with ⟨c16, H⟩ | ⟨_, H⟩
      rotate_left
      · cases H
      obtain ⟨b17, q18, hAc16⟩ := (v0_).some_ y4.1 c16.1 c16.2
      refine si rfl hk rfl rfl rfl rfl un26 sz62 c16.1 c16.2 hAc16 fun a hk => ?_
      refine sf (padd A0_ ((y4.1).toNat * 2 + 1)) rfl hk rfl rfl rfl fd62_1 (padd_add _ _ _) fun a hk => ?_
      obtain ⟨_, rfl, e19⟩ := (v0_).at_ z_Entry y4.1 c16.1 c16.2
      refine sl (v := (.int .i64 ((l0.getD (y4.1).toNat z_Entry).Value))) rfl hk rfl rfl rfl ag3 ((e19 1 _ rfl).cell (hs.hasD (k := 1) rfl)) fun a hk => ?_
      refine sa _ rfl hk rfl rfl rfl fun a hk => ?_
      show wpList _ _ _ [] _ _
      refine wpList_nil ?_
      obtain rfl := Option.some.inj H
      show R14 _ _
      rw [hR14]
      exact ⟨(l0.getD (y4.1).toNat z_Entry).Value, rfl, (hk.c 0 rfl (hk.c 3 rfl (hk.c 7 rfl (hk.c 8 rfl (hk.c 9 rfl hk.k))))), (hs.pick [(2, 2)] rfl)⟩
    · have hk := hk.lit 17 c15 rfl
      refine cnd_false hk rfl rfl ?_
      refine wp_skip ?_
      obtain rfl := Option.some.inj H
      show R14 _ _
      rw [hR14]
      exact ⟨0, rfl, (hk.c 0 rfl (hk.c 3 rfl (hk.c 7 rfl (hk.c 8 rfl (hk.c 9 rfl hk.k))))), (hs.pick [(2, 2)] rfl)⟩
  · intro a w hR0
    rw [hR14] at hR0
    obtain ⟨u10, rfl, hk, hs⟩ := hR0
    have H := HL13
    try dsimp only at H
    refine hK7 _ _ ?_
    apply wp_seq_k; intro K20 hK20
    apply wp_seq_k; intro K21 hK21
    apply wp_region_lit
    refine sf ⟨b2, 0, none⟩ rfl hk rfl rfl rfl fd31_0 rfl fun a hk => ?_
    refine sl rfl hk rfl rfl rfl ag3 (box_cell hs (k := 2) rfl rfl) fun a hk => ?_
    show wpList _ _ _ [] _ _
    refine wpList_nil ?_
    refine hK21 _ _ ?_
    refine wp_block ?_
    apply wp_seq_k; intro K22 hK22
    apply wp_region_lit
    refine sv (.bool (x1.Kind == 1)) hk rfl rfl rfl fun a hk => ?_
    refine sa _ rfl hk rfl rfl rfl fun a hk => ?_
    show wpList _ _ _ [] _ _
    refine wpList_nil ?_
    refine hK22 _ _ ?_
    rcases cond_some H with ⟨c23, H⟩ | ⟨c23, H⟩
    · have hk := hk.lit 25 c23 rfl
      refine cnd_true hk rfl rfl ?_
      apply wp_seq_k; intro K24 hK24
      apply wp_seq_k; intro K25 hK25
      apply wp_region_lit
      refine sm _ rfl hk rfl rfl rfl fun a hk => ?_
      show wpList _ _ _ [] _ _
      refine wpList_nil ?_
      refine hK25 _ _ ?_
      rcases cond_some H with ⟨c26, H⟩ | ⟨c26, H⟩
      · have hk := hk.lit 27 c26 rfl
        refine cnd_true hk rfl rfl ?_
        apply wp_seq_k; intro K27 hK27
        apply wp_region_lit
        refine sm _ rfl hk rfl rfl rfl fun a hk => ?_
        refine sm _ rfl hk rfl rfl rfl fun a hk => ?_
        refine sbs (L := (Lay.int .i64)) (pv := [(0, (.int .i64 1)), (1, (.int .i64 u10))]) (xs := [1, u10]) (ess := [[.int .i64 1], [.int .i64 u10]]) 4 hs rfl hk rfl rfl rfl un27 (bs3_2 1 u10) (AllOwn.cons0 ⟨rfl, rfl⟩ (AllOwn.cons0 ⟨rfl, rfl⟩ AllOwn.nil)) rfl rfl rfl fun b28 k29 w a hk o30 hs => ?_
        refine sa _ rfl hk rfl rfl rfl fun a hk => ?_
        refine sa _ rfl hk rfl rfl rfl fun a hk => ?_
        refine sa _ rfl hk rfl rfl rfl fun a hk => ?_
        show wpList _ _ _ [] _ _
        refine wpList_nil ?_
        refine hK27 _ _ ?_
        refine wp_ret ?_
        obtain rfl := Option.some.inj H
        exact fin hk _ [(.slice A0_ l0.length p0_), (.slice (some ⟨b28, 0, none⟩) 2 2), (.int .i64 0)] rfl ⟨rfl, ⟨rfl, ⟨rfl, trivial⟩⟩⟩ ⟨A0_, p0_, (some ⟨b28, 0, none⟩), 2, _, _, rfl, (v0_).sub (Sub.l _ (Sub.refl _)), o30, ((hs.addNil 3000).pick [(0, 4), (1, 3000)] rfl).dnil⟩
      · have hk := hk.lit 27 c26 rfl
        refine cnd_false hk rfl rfl ?_
        refine wp_skip ?_
        refine hK24 _ _ ?_
        apply wp_seq_k; intro K31 hK31
        apply wp_region_lit
        refine sm _ rfl hk rfl rfl rfl fun a hk => ?_
        refine sbs (L := (Lay.int .i64)) (pv := [(0, (.int .i64 0)), (1, (.int .i64 0))]) (xs := [0, 0]) (ess := [[.int .i64 0], [.int .i64 0]]) 5 hs rfl hk rfl rfl rfl un27 (bs3_2 0 0) (AllOwn.cons0 ⟨rfl, rfl⟩ (AllOwn.cons0 ⟨rfl, rfl⟩ AllOwn.nil)) rfl rfl rfl fun b32 k33 w a hk o34 hs => ?_
        refine sa _ rfl hk rfl rfl rfl fun a hk => ?_
        refine sa _ rfl hk rfl rfl rfl fun a hk => ?_
        refine sa _ rfl hk rfl rfl rfl fun a hk => ?_
        show wpList _ _ _ [] _ _
        refine wpList_nil ?_
        refine hK31 _ _ ?_
        refine wp_ret ?_
        obtain rfl := Option.some.inj H
        exact fin hk _ [(.slice A0_ l0.length p0_), (.slice (some ⟨b32, 0, none⟩) 2 2), (.int .i64 0)] rfl ⟨rfl, ⟨rfl, ⟨rfl, trivial⟩⟩⟩ ⟨A0_, p0_, (some ⟨b32, 0, none⟩), 2, _, _, rfl, (v0_).sub (Sub.l _ (Sub.refl _)), o34, ((hs.addNil 3000).pick [(0, 5), (1, 3000)] rfl).dnil⟩
    · have hk := hk.lit 25 c23 rfl
      refine cnd_false hk rfl rfl ?_
      apply wp_seq_k; intro K35 hK35
      apply wp_region_lit
      refine sv (.bool (x1.Kind == 3)) hk rfl rfl rfl fun a hk => ?_
      refine sa _ rfl hk rfl rfl rfl fun a hk => ?_
      show wpList _ _ _ [] _ _
      refine wpList_nil ?_
      refine hK35 _ _ ?_
      rcases cond_some H with ⟨c36, H⟩ | ⟨c36, H⟩
      · have hk := hk.lit 33 c36 rfl
        refine cnd_true hk rfl rfl ?_
        apply wp_seq_k; intro K37 hK37
        apply wp_seq_k; intro K38 hK38
        apply wp_region_lit
        refine sm _ rfl hk rfl rfl rfl fun a hk => ?_
        show wpList _ _ _ [] _ _
        refine wpList_nil ?_
        refine hK38 _ _ ?_
        rcases cond_some H with ⟨c39, H⟩ | ⟨c39, H⟩
        · have hk := hk.lit 35 c39 rfl
          refine cnd_true hk rfl rfl ?_
          apply wp_seq_k; intro K40 hK40
          apply wp_region_lit
          refine sm _ rfl hk rfl rfl rfl fun a hk => ?_
          obtain ⟨y41, h42, H⟩ := bind_some H
          refine sc rfl en69 hk rfl rfl rfl (slices_Clone_impl_Entry_impl_Entry_t _ A0_ p0_ l0 _ v0_ (hs.hasD (k := 1) rfl) _ h42) ?_
          rintro _ w ⟨A43, p44, k45, rfl, o46, hG⟩ a hk
          have hs := hs.call0k hG [6] rfl
          refine sm _ rfl hk rfl rfl rfl fun a hk => ?_
          refine sm _ rfl hk rfl rfl rfl fun a hk => ?_
          refine sv (.int .i64 (w64 (y4.1 + 1))) hk rfl rfl rfl fun a hk => ?_
          rcases ite_some H with ⟨c47, H⟩ | ⟨_, H⟩
          rotate_left
          · cases H
          refine sc rfl en129 hk rfl rfl rfl (slices_Delete_impl_Entry_impl_Entry_t 6 (xs := y41) hs rfl o46 c47) ?_
          rintro _ w ⟨A48, p49, k50, rfl, o51, hs⟩ a hk
          refine sbs (L := (Lay.int .i64)) (pv := [(0, (.int .i64 1))]) (xs := [1]) (ess := [[.int .i64 1]]) 7 hs rfl hk rfl rfl rfl un27 (bs3_3 1) (AllOwn.cons0 ⟨rfl, rfl⟩ AllOwn.nil) rfl rfl rfl fun b52 k53 w a hk o54 hs => ?_
          refine sa _ rfl hk rfl rfl rfl fun a hk => ?_
          refine sa _ rfl hk rfl rfl rfl fun a hk => ?_
          refine sa _ rfl hk rfl rfl rfl fun a hk => ?_
          show wpList _ _ _ [] _ _
          refine wpList_nil ?_
          refine hK40 _ _ ?_
          refine wp_ret ?_
          obtain rfl := Option.some.inj H
          exact fin hk _ [(.slice A48 (delL y41 y4.1.toNat (w64 (y4.1 + 1)).toNat).length p49), (.slice (some ⟨b52, 0, none⟩) 1 1), (.int .i64 0)] rfl ⟨rfl, ⟨rfl, ⟨rfl, trivial⟩⟩⟩ ⟨A48, p49, (some ⟨b52, 0, none⟩), 1, _, _, rfl, (o51.view).sub (Sub.r _ (Sub.refl _)), o54, (hs.pick [(0, 7), (1, 6)] rfl).dnil⟩
        · have hk := hk.lit 35 c39 rfl
          refine cnd_false hk rfl rfl ?_
          refine wp_skip ?_
          refine hK37 _ _ ?_
          apply wp_seq_k; intro K55 hK55
          apply wp_region_lit
          refine sm _ rfl hk rfl rfl rfl fun a hk => ?_
          refine sbs (L := (Lay.int .i64)) (pv := [(0, (.int .i64 0))]) (xs := [0]) (ess := [[.int .i64 0]]) 8 hs rfl hk rfl rfl rfl un27 (bs3_3 0) (AllOwn.cons0 ⟨rfl, rfl⟩ AllOwn.nil) rfl rfl rfl fun b56 k57 w a hk o58 hs => ?_
          refine sa _ rfl hk rfl rfl rfl fun a hk => ?_
          refine sa _ rfl hk rfl rfl rfl fun a hk => ?_
          refine sa _ rfl hk rfl rfl rfl fun a hk => ?_
          show wpList _ _ _ [] _ _
          refine wpList_nil ?_
          refine hK55 _ _ ?_
          refine wp_ret ?_
          obtain rfl := Option.some.inj H
          exact fin hk _ [(.slice A0_ l0.length p0_), (.slice (some ⟨b56, 0, none⟩) 1 1), (.int .i64 0)] rfl ⟨rfl, ⟨rfl, ⟨rfl, trivial⟩⟩⟩ ⟨A0_, p0_, (some ⟨b56, 0, none⟩), 1, _, _, rfl, (v0_).sub (Sub.l _ (Sub.refl _)), o58, ((hs.addNil 3000).pick [(0, 8), (1, 3000)] rfl).dnil⟩
      · have hk := hk.lit 33 c36 rfl
        refine cnd_false hk rfl rfl ?_
        apply wp_seq_k; intro K59 hK59
        apply wp_region_lit
        refine sv (.bool (x1.Kind == 4)) hk rfl rfl rfl fun a hk => ?_
        refine sa _ rfl hk rfl rfl rfl fun a hk => ?_
        show wpList _ _ _ [] _ _
        refine wpList_nil ?_
        refine hK59 _ _ ?_
        rcases cond_some H with ⟨c60, H⟩ | ⟨c60, H⟩
        · have hk := hk.lit 45 c60 rfl
          refine cnd_true hk rfl rfl ?_
          apply wp_seq_k; intro K61 hK61
          apply wp_seq_k; intro K62 hK62
          obtain ⟨o65, h66, HL67⟩ := bind_some H
          clear H
          obtain ⟨R68, hR68⟩ : ∃ R : Act → World → Prop, R = fun a w => ∃ (u64 : Bool), u64 = o65 ∧ Kn [(0, (.slice A0_ l0.length p0_)), (54, (.bool u64))] 73 a ∧ Sat [] w0 w [(1, k0_)] [] := ⟨_, rfl⟩
          refine wp_cutq R68 ?_ ?_
          · have H := h66
            apply wp_region_lit
            refine sm _ rfl hk rfl rfl rfl fun a hk => ?_
            refine sv (.bool (!y4.2)) hk rfl rfl rfl fun a hk => ?_
            refine sm _ rfl hk rfl rfl rfl fun a hk => ?_
            rcases cond_some H with ⟨c69, H⟩ | ⟨c69, H⟩
            · have hk := hk.lit 49 c69 rfl
              refine sk hk rfl rfl rfl fun a hk => ?_
              refine sk hk rfl rfl rfl fun a hk => ?_
              refine sk hk rfl rfl rfl fun a hk => ?_
              refine sk hk rfl rfl rfl fun a hk => ?_
              refine sv (.bool true) hk rfl rfl rfl fun a hk => ?_
              show wpList _ _ _ [] _ _
              refine wpList_nil ?_
              obtain rfl := Option.some.inj H
              show R68 _ _
              rw [hR68]
              exact ⟨true, rfl, (hk.c 0 rfl (hk.c 54 rfl hk.k)), (hs.pick [] rfl)⟩
            · have hk := hk.lit 49 c69 rfl
              refine sm _ rfl hk rfl rfl rfl fun a hk => ?_
              refine sf ⟨b2, 2, none⟩ rfl hk rfl rfl rfl fd31_2 rfl fun a hk => ?_
              refine sl rfl hk rfl rfl rfl ag3 (box_cell hs (k := 2) rfl rfl) fun a hk => ?_
              refine sv (.bool (u10 != x1.Value)) hk rfl rfl rfl fun a hk => ?_
              refine sv (.bool (u10 != x1.Value)) hk rfl rfl rfl fun a hk => ?_
              show wpList _ _ _ [] _ _
              refine wpList_nil ?_
              obtain rfl := Option.some.inj H
              show R68 _ _
              rw [hR68]
              exact ⟨(u10 != x1.Value), rfl, (hk.c 0 rfl (hk.c 54 rfl hk.k)), (hs.pick [] rfl)⟩
          · intro a w hR0
            rw [hR68] at hR0
            obtain ⟨u64, rfl, hk, hs⟩ := hR0
            have H := HL67
            try dsimp only at H
            refine hK62 _ _ ?_
            rcases cond_some H with ⟨c70, H⟩ | ⟨c70, H⟩
            · have hk := hk.lit 54 c70 rfl
              refine cnd_true hk rfl rfl ?_
              apply wp_seq_k; intro K71 hK71
              apply wp_region_lit
              refine sm _ rfl hk rfl rfl rfl fun a hk => ?_
              refine sa _ rfl hk rfl rfl rfl fun a hk => ?_
              refine sa _ rfl hk rfl rfl rfl fun a hk => ?_
              refine sa _ rfl hk rfl rfl rfl fun a hk => ?_
              show wpList _ _ _ [] _ _
              refine wpList_nil ?_
              refine hK71 _ _ ?_
              refine wp_ret ?_
              obtain rfl := Option.some.inj H
              have hs := hs.addNil 10
              exact fin hk _ [(.slice A0_ l0.length p0_), (.slice none 0 0), (.int .i64 14)] rfl ⟨rfl, ⟨rfl, ⟨rfl, trivial⟩⟩⟩ ⟨A0_, p0_, none, 0, [], _, rfl, (v0_).sub (Sub.l _ (Sub.refl _)), Own.nil _ _, ((hs.addNil 3000).pick [(0, 10), (1, 3000)] rfl).dnil⟩
            · have hk := hk.lit 54 c70 rfl
              refine cnd_false hk rfl rfl ?_
              refine wp_skip ?_
              refine hK61 _ _ ?_
              apply wp_seq_k; intro K72 hK72
              apply wp_region_lit
              refine sm _ rfl hk rfl rfl rfl fun a hk => ?_
              refine sa _ rfl hk rfl rfl rfl fun a hk => ?_
              refine sa _ rfl hk rfl rfl rfl fun a hk => ?_
              refine sa _ rfl hk rfl rfl rfl fun a hk => ?_
              show wpList _ _ _ [] _ _
              refine wpList_nil ?_
              refine hK72 _ _ ?_
              refine wp_ret ?_
              obtain rfl := Option.some.inj H
              have hs := hs.addNil 11
              exact fin hk _ [(.slice A0_ l0.length p0_), (.slice none 0 0), (.int .i64 0)] rfl ⟨rfl, ⟨rfl, ⟨rfl, trivial⟩⟩⟩ ⟨A0_, p0_, none, 0, [], _, rfl, (v0_).sub (Sub.l _ (Sub.refl _)), Own.nil _ _, ((hs.addNil 3000).pick [(0, 11), (1, 3000)] rfl).dnil⟩
        · have hk := hk.lit 45 c60 rfl
          refine cnd_false hk rfl rfl ?_
          apply wp_seq_k; intro K73 hK73
          apply wp_region_lit
          refine sv (.bool (x1.Kind == 6)) hk rfl rfl rfl fun a hk => ?_
          refine sa _ rfl hk rfl rfl rfl fun a hk => ?_
          show wpList _ _ _ [] _ _
          refine wpList_nil ?_
          refine hK73 _ _ ?_
          rcases cond_some H with ⟨c74, H⟩ | ⟨c74, H⟩
          · have hk := hk.lit 57 c74 rfl
            refine cnd_true hk rfl rfl ?_
            apply wp_seq_k; intro K75 hK75
            apply wp_region_lit
            refine sm _ rfl hk rfl rfl rfl fun a hk => ?_
            refine sm _ rfl hk rfl rfl rfl fun a hk => ?_
            refine sf ⟨b2, 1, none⟩ rfl hk rfl rfl rfl fd31_1 rfl fun a hk => ?_
            refine sl rfl hk rfl rfl rfl ag3 (box_cell hs (k := 2) rfl rfl) fun a hk => ?_
            refine sf ⟨b2, 2, none⟩ rfl hk rfl rfl rfl fd31_2 rfl fun a hk => ?_
            refine sl rfl hk rfl rfl rfl ag3 (box_cell hs (k := 2) rfl rfl) fun a hk => ?_
            obtain ⟨y76, h77, H⟩ := bind_some H
            refine sc rfl en130 hk rfl rfl rfl (impl_scan_t _ A0_ p0_ l0 _ v0_ (hs.hasD (k := 1) rfl) x1.Key x1.Value _ h77) ?_
            rintro _ w ⟨A78, p79, k80, rfl, o81, hG⟩ a hk
            have hs := hs.call0k hG [12] rfl
            refine sa _ rfl hk rfl rfl rfl fun a hk => ?_
            refine sa _ rfl hk rfl rfl rfl fun a hk => ?_
            refine sa _ rfl hk rfl rfl rfl fun a hk => ?_
            show wpList _ _ _ [] _ _
            refine wpList_nil ?_
            refine hK75 _ _ ?_
            refine wp_ret ?_
            obtain rfl := Option.some.inj H
            exact fin hk _ [(.slice A0_ l0.length p0_), (.slice A78 y76.length p79), (.int .i64 0)] rfl ⟨rfl, ⟨rfl, ⟨rfl, trivial⟩⟩⟩ ⟨A0_, p0_, A78, p79, _, _, rfl, (v0_).sub (Sub.l _ (Sub.refl _)), o81, ((hs.addNil 3000).pick [(0, 12), (1, 3000)] rfl).dnil⟩
          · have hk := hk.lit 57 c74 rfl
            refine cnd_false hk rfl rfl ?_
            refine wp_skip ?_
            refine hK20 _ _ ?_
            apply wp_seq_k; intro K82 hK82
            apply wp_region_lit
            refine sm _ rfl hk rfl rfl rfl fun a hk => ?_
            refine sln [.int .i64 x1.Kind, .int .i64 x1.Key, .int .i64 x1.Value] rfl hk rfl rfl rfl ag31 sz31 (box_cells hs (k := 2) rfl) fun a hk => ?_
            refine sm _ rfl hk rfl rfl rfl fun a hk => ?_
            obtain ⟨y83, h84, H⟩ := bind_some H
            refine sc rfl en131 hk rfl rfl rfl (impl_do2_t _ A0_ p0_ l0 _ v0_ (hs.hasD (k := 1) rfl) x1 u10 _ h84) ?_
            rintro _ w ⟨A86, p87, A89, p90, k91, k85, rfl, v88, o92, hG⟩ a hk
            have hs := hs.call0k hG [14, 13] rfl
            refine sv (.slice A86 y83.1.length p87) hk rfl rfl rfl fun a hk => ?_
            refine sv (.slice A89 y83.2.1.length p90) hk rfl rfl rfl fun a hk => ?_
            refine sv (.int .i64 y83.2.2) hk rfl rfl rfl fun a hk => ?_
            refine sa _ rfl hk rfl rfl rfl fun a hk => ?_
            refine sa _ rfl hk rfl rfl rfl fun a hk => ?_
            refine sa _ rfl hk rfl rfl rfl fun a hk => ?_
            show wpList _ _ _ [] _ _
            refine wpList_nil ?_
            refine hK82 _ _ ?_
            refine wp_ret ?_
            obtain rfl := Option.some.inj H
            exact fin hk _ [(.slice A86 y83.1.length p87), (.slice A89 y83.2.1.length p90), (.int .i64 y83.2.2)] rfl ⟨rfl, ⟨rfl, ⟨rfl, trivial⟩⟩⟩ ⟨A86, p87, A89, p90, _, _, rfl, (v88).sub (Sub.refl _), o92, (hs.pick [(0, 14), (1, 13)] rfl).dnil⟩

noncomputable def impl_MapDo.f (l0 : List S_Entry) (x1 : S_Op) : Option ((List S_Entry) × (List Int) × Int) :=
  (bif (decide ((l0.length : Int) > 4096)) then (some (([] : List S_Entry), ([] : List Int), 2)) else ((((impl_MapOK.f l0).bind fun y14 => (bif (!y14) then (some true) else ((impl_OpOK.f x1).bind fun y17 => (some (!y17))))) : Option (Bool)).bind fun u9 => (bif u9 then (some (([] : List S_Entry), ([] : List Int), 1)) else ((impl_do.f l0 x1).bind fun y22 => ((slices_Clone_impl_Entry_impl_Entry.f y22.1).bind fun y33 => (some (y33, y22.2.1, y22.2.2)))))))
set_option maxRecDepth 100000 in
set_option maxHeartbeats 0 in
theorem impl_MapDo_t (w0 : World) (A0_ : Option Addr) (p0_ : Nat) (l0 : List S_Entry) (k0_ : Chunk) (v0_ : View L_Entry A0_ p0_ l0 k0_) (w0_ : Has w0 k0_) (x1 : S_Op) (r : (List S_Entry) × (List Int) × Int) (H : impl_MapDo.f l0 x1 = some r) :
    Calls Try.prog 15 #[.slice A0_ l0.length p0_, .agg #[.int .i64 x1.Kind, .int .i64 x1.Key, .int .i64 x1.Value]] w0 (Ret (fun v w => ∃ (A0 : Option Addr) (p0 : Nat) (k0 : Chunk), ∃ (A1 : Option Addr) (p1 : Nat) (k1 : Chunk), v = .tuple #[.slice A0 r.1.length p0, .slice A1 r.2.1.length p1, .int .i64 r.2.2] ∧ Own L_Entry 62 A0 p0 r.1 k0 ∧ Own (Lay.int .i64) 3 A1 p1 r.2.1 k1 ∧ Sat [] w0 w [] [(0, k0), (1, k1)])) := by
  have hs : Sat [] w0 w0 [(1, k0_)] [] := Sat.init w0 [(1, k0_)] [] (by simp only [List.mem_cons, List.not_mem_nil, or_false]; rintro x (rfl) <;> assumption) (by simp) List.nodup_nil (by simp [blks])
  unfold impl_MapDo.f at H
  refine enter Try.func15 rfl Try.ntmps15 rfl fun a hk => ?_
  apply wp_seq_k; intro K1 hK1
  apply wp_region_lit
  refine sbx 2 hs rfl hk rfl rfl rfl rfl fun b2 w a hk hs => ?_
  refine sa _ rfl hk rfl rfl rfl fun a hk => ?_
  refine sa _ rfl hk rfl rfl rfl fun a hk => ?_
  refine sa _ rfl hk rfl rfl rfl fun a hk => ?_
  show wpList _ _ _ [] _ _
  refine wpList_nil ?_
  refine hK1 _ _ ?_
  apply wp_seq_k; intro K3 hK3
  refine wp_block ?_
  apply wp_seq_k; intro K4 hK4
  apply wp_region_lit
  refine sm _ rfl hk rfl rfl rfl fun a hk => ?_
  refine sle rfl hk rfl rfl rfl un26 fun a hk => ?_
  refine sv (.bool (decide ((l0.length : Int) > 4096))) hk rfl rfl rfl fun a hk => ?_
  refine sa _ rfl hk rfl rfl rfl fun a hk => ?_
  show wpList _ _ _ [] _ _
  refine wpList_nil ?_
  refine hK4 _ _ ?_
  rcases cond_some H with ⟨c5, H⟩ | ⟨c5, H⟩
  · have hk := hk.lit 10 c5 rfl
    refine cnd_true hk rfl rfl ?_
    apply wp_seq_k; intro K6 hK6
    apply wp_region_lit
    refine sa _ rfl hk rfl rfl rfl fun a hk => ?_
    refine sa _ rfl hk rfl rfl rfl fun a hk => ?_
    refine sa _ rfl hk rfl rfl rfl fun a hk => ?_
    show wpList _ _ _ [] _ _
    refine wpList_nil ?_
    refine hK6 _ _ ?_
    refine wp_ret ?_
    obtain rfl := Option.some.inj H
    have hs := hs.addNil 3
    have hs := hs.addNil 4
    exact fin hk _ [(.slice none 0 0), (.slice none 0 0), (.int .i64 2)] rfl ⟨rfl, ⟨rfl, ⟨rfl, trivial⟩⟩⟩ ⟨none, 0, [], none, 0, [], rfl, Own.nil _ _, Own.nil _ _, (hs.pick [(0, 3), (1, 4)] rfl).dnil⟩
  · have hk := hk.lit 10 c5 rfl
    refine cnd_false hk rfl rfl ?_
    apply wp_seq_k; intro K7 hK7
    obtain ⟨o10, h11, HL12⟩ := bind_some H
    clear H
    obtain ⟨R13, hR13⟩ : ∃ R : Act → World → Prop, R = fun a w => ∃ (u9 : Bool), u9 = o10 ∧ Kn [(0, (.slice A0_ l0.length p0_)), (3, (.pointer (some ⟨b2, 0, none⟩))), (14, (.bool u9))] 34 a ∧ Sat [] w0 w [(1, k0_)] [(2, [(b2, .cells #[.int .i64 x1.Kind, .int .i64 x1.Key, .int .i64 x1.Value] 31 (0, 0))])] := ⟨_, rfl⟩
    refine wp_cutq R13 ?_ ?_
    · have H := h11
      apply wp_region_lit
      refine sm _ rfl hk rfl rfl rfl fun a hk => ?_
      obtain ⟨y14, h15, H⟩ := bind_some H
      refine sc rfl en36 hk rfl rfl rfl (impl_MapOK_t _ A0_ p0_ l0 _ v0_ (hs.hasD (k := 1) rfl) _ h15) ?_
      rintro _ w ⟨rfl, hG⟩ a hk
      have hs := hs.call0 hG
      refine sv (.bool (!y14)) hk rfl rfl rfl fun a hk => ?_
      refine sm _ rfl hk rfl rfl rfl fun a hk => ?_
      rcases cond_some H with ⟨c16, H⟩ | ⟨c16, H⟩
      · have hk := hk.lit 18 c16 rfl
        refine sk hk rfl rfl rfl fun a hk => ?_
        refine sk hk rfl rfl rfl fun a hk => ?_
        refine sk hk rfl rfl rfl fun a hk => ?_
        refine sv (.bool true) hk rfl rfl rfl fun a hk => ?_
        refine sa _ rfl hk rfl rfl rfl fun a hk => ?_
        show wpList _ _ _ [] _ _
        refine wpList_nil ?_
        obtain rfl := Option.some.inj H
        show R13 _ _
        rw [hR13]
        exact ⟨true, rfl, (hk.c 0 rfl (hk.c 3 rfl (hk.c 14 rfl hk.k))), (hs.pick [(2, 2)] rfl)⟩
      · have hk := hk.lit 18 c16 rfl
        refine sln [.int .i64 x1.Kind, .int .i64 x1.Key, .int .i64 x1.Value] rfl hk rfl rfl rfl ag31 sz31 (box_cells hs (k := 2) rfl) fun a hk => ?_
        obtain ⟨y17, h18, H⟩ := bind_some H
        refine sc rfl en67 hk rfl rfl rfl (impl_OpOK_t _ x1 _ h18) ?_
        rintro _ w ⟨rfl, hG⟩ a hk
        have hs := hs.call0 hG
        refine sv (.bool (!y17)) hk rfl rfl rfl fun a hk => ?_
        refine sv (.bool (!y17)) hk rfl rfl rfl fun a hk => ?_
        refine sa _ rfl hk rfl rfl rfl fun a hk => ?_
        show wpList _ _ _ [] _ _
        refine wpList_nil ?_
        obtain rfl := Option.some.inj H
        show R13 _ _
        rw [hR13]
        exact ⟨(!y17), rfl, (hk.c 0 rfl (hk.c 3 rfl (hk.c 14 rfl hk.k))), (hs.pick [(2, 2)] rfl)⟩
    · intro a w hR0
      rw [hR13] at hR0
      obtain ⟨u9, rfl, hk, hs⟩ := hR0
      have H := HL12
      try dsimp only at H
      refine hK7 _ _ ?_
      rcases cond_some H with ⟨c19, H⟩ | ⟨c19, H⟩
      · have hk := hk.lit 14 c19 rfl
        refine cnd_true hk rfl rfl ?_
        apply wp_seq_k; intro K20 hK20
        apply wp_region_lit
        refine sa _ rfl hk rfl rfl rfl fun a hk => ?_
        refine sa _ rfl hk rfl rfl rfl fun a hk => ?_
        refine sa _ rfl hk rfl rfl rfl fun a hk => ?_
        show wpList _ _ _ [] _ _
        refine wpList_nil ?_
        refine hK20 _ _ ?_
        refine wp_ret ?_
        obtain rfl := Option.some.inj H
        have hs := hs.addNil 6
        have hs := hs.addNil 7
        exact fin hk _ [(.slice none 0 0), (.slice none 0 0), (.int .i64 1)] rfl ⟨rfl, ⟨rfl, ⟨rfl, trivial⟩⟩⟩ ⟨none, 0, [], none, 0, [], rfl, Own.nil _ _, Own.nil _ _, (hs.pick [(0, 6), (1, 7)] rfl).dnil⟩
      · have hk := hk.lit 14 c19 rfl
        refine cnd_false hk rfl rfl ?_
        refine wp_skip ?_
        refine hK3 _ _ ?_
        apply wp_seq_k; intro K21 hK21
        apply wp_region_lit
        refine sm _ rfl hk rfl rfl rfl fun a hk => ?_
        refine sln [.int .i64 x1.Kind, .int .i64 x1.Key, .int .i64 x1.Value] rfl hk rfl rfl rfl ag31 sz31 (box_cells hs (k := 2) rfl) fun a hk => ?_
        obtain ⟨y22, h23, H⟩ := bind_some H
        refine sc rfl en68 hk rfl rfl rfl (impl_do_t _ A0_ p0_ l0 _ v0_ (hs.hasD (k := 1) rfl) x1 _ h23) ?_
        rintro _ w ⟨A25, p26, A28, p29, k30, k24, rfl, v27, o31, hG⟩ a hk
        have hs := hs.call0k hG [9, 8] rfl
        refine sm _ rfl hk rfl rfl rfl fun a hk => ?_
        refine sv (.slice A25 y22.1.length p26) hk rfl rfl rfl fun a hk => ?_
        refine sv (.slice A28 y22.2.1.length p29) hk rfl rfl rfl fun a hk => ?_
        refine sv (.int .i64 y22.2.2) hk rfl rfl rfl fun a hk => ?_
        refine sa _ rfl hk rfl rfl rfl fun a hk => ?_
        refine sa _ rfl hk rfl rfl rfl fun a hk => ?_
        refine sa _ rfl hk rfl rfl rfl fun a hk => ?_
        show wpList _ _ _ [] _ _
        refine wpList_nil ?_
        refine hK21 _ _ ?_
        apply wp_seq_k; intro K32 hK32
        apply wp_region_lit
        refine sm _ rfl hk rfl rfl rfl fun a hk => ?_
        obtain ⟨y33, h34, H⟩ := bind_some H
        refine sc rfl en69 hk rfl rfl rfl (slices_Clone_impl_Entry_impl_Entry_t _ A25 p26 y22.1 _ v27 (Has.app (hs.hasD (k := 1) rfl) (hs.hasG (k := 8) rfl)) _ h34) ?_
        rintro _ w ⟨A35, p36, k37, rfl, o38, hG⟩ a hk
        have hs := hs.call0k hG [10] rfl
        refine sm _ rfl hk rfl rfl rfl fun a hk => ?_
        refine sm _ rfl hk rfl rfl rfl fun a hk => ?_
        refine sa _ rfl hk rfl rfl rfl fun a hk => ?_
        refine sa _ rfl hk rfl rfl rfl fun a hk => ?_
        refine sa _ rfl hk rfl rfl rfl fun a hk => ?_
        show wpList _ _ _ [] _ _
        refine wpList_nil ?_
        refine hK32 _ _ ?_
        refine wp_ret ?_
        obtain rfl := Option.some.inj H
        exact fin hk _ [(.slice A35 y33.length p36), (.slice A28 y22.2.1.length p29), (.int .i64 y22.2.2)] rfl ⟨rfl, ⟨rfl, ⟨rfl, trivial⟩⟩⟩ ⟨A35, p36, _, A28, p29, _, rfl, o38, o31, (hs.pick [(0, 10), (1, 9)] rfl).dnil⟩

noncomputable def laws_eqEntry.f (x0 : S_Entry) (x1 : S_Entry) : Option (Bool) :=
  (bif (x0.Key != x1.Key) then (some false) else (bif (x0.Value != x1.Value) then (some false) else (some true)))
set_option maxRecDepth 100000 in
set_option maxHeartbeats 0 in
theorem laws_eqEntry_t (w0 : World) (x0 : S_Entry) (x1 : S_Entry) (r : Bool) (H : laws_eqEntry.f x0 x1 = some r) :
    Calls Try.prog 70 #[.agg #[.int .i64 x0.Key, .int .i64 x0.Value], .agg #[.int .i64 x1.Key, .int .i64 x1.Value]] w0 (Ret (fun v w => v = .bool r ∧ Sat [] w0 w [] [])) := by
  have hs : Sat [] w0 w0 [] [] := Sat.init w0 [] [] (by simp) (by simp) List.nodup_nil (by simp [blks])
  unfold laws_eqEntry.f at H
  refine enter Try.func70 rfl Try.ntmps70 rfl fun a hk => ?_
  apply wp_seq_k; intro K1 hK1
  apply wp_region_lit
  refine sbx 1 hs rfl hk rfl rfl rfl rfl fun b2 w a hk hs => ?_
  refine sbx 2 hs rfl hk rfl rfl rfl rfl fun b3 w a hk hs => ?_
  refine sa _ rfl hk rfl rfl rfl fun a hk => ?_
  show wpList _ _ _ [] _ _
  refine wpList_nil ?_
  refine hK1 _ _ ?_
  apply wp_seq_k; intro K4 hK4
  apply wp_seq_k; intro K5 hK5
  apply wp_region_lit
  refine sf ⟨b2, 0, none⟩ rfl hk rfl rfl rfl fd62_0 rfl fun a hk => ?_
  refine sl rfl hk rfl rfl rfl ag3 (box_cell hs (k := 1) rfl rfl) fun a hk => ?_
  refine sf ⟨b3, 0, none⟩ rfl hk rfl rfl rfl fd62_0 rfl fun a hk => ?_
  refine sl rfl hk rfl rfl rfl ag3 (box_cell hs (k := 2) rfl rfl) fun a hk => ?_
  refine sv (.bool (x0.Key != x1.Key)) hk rfl rfl rfl fun a hk => ?_
  show wpList _ _ _ [] _ _
  refine wpList_nil ?_
  refine hK5 _ _ ?_
  rcases cond_some H with ⟨c6, H⟩ | ⟨c6, H⟩
  · have hk := hk.lit 9 c6 rfl
    refine cnd_true hk rfl rfl ?_
    apply wp_seq_k; intro K7 hK7
    apply wp_region_lit
    refine sa _ rfl hk rfl rfl rfl fun a hk => ?_
    show wpList _ _ _ [] _ _
    refine wpList_nil ?_
    refine hK7 _ _ ?_
    refine wp_ret ?_
    obtain rfl := Option.some.inj H
    exact fin hk _ [(.bool false)] rfl ⟨rfl, trivial⟩ ⟨rfl, (hs.pick [] rfl).dnil⟩
  · have hk := hk.lit 9 c6 rfl
    refine cnd_false hk rfl rfl ?_
    refine wp_skip ?_
    refine hK4 _ _ ?_
    apply wp_seq_k; intro K8 hK8
    apply wp_seq_k; intro K9 hK9
    apply wp_region_lit
    refine sf ⟨b2, 1, none⟩ rfl hk rfl rfl rfl fd62_1 rfl fun a hk => ?_
    refine sl rfl hk rfl rfl rfl ag3 (box_cell hs (k := 1) rfl rfl) fun a hk => ?_
    refine sf ⟨b3, 1, none⟩ rfl hk rfl rfl rfl fd62_1 rfl fun a hk => ?_
    refine sl rfl hk rfl rfl rfl ag3 (box_cell hs (k := 2) rfl rfl) fun a hk => ?_
    refine sv (.bool (x0.Value != x1.Value)) hk rfl rfl rfl fun a hk => ?_
    show wpList _ _ _ [] _ _
    refine wpList_nil ?_
    refine hK9 _ _ ?_
    rcases cond_some H with ⟨c10, H⟩ | ⟨c10, H⟩
    · have hk := hk.lit 14 c10 rfl
      refine cnd_true hk rfl rfl ?_
      apply wp_seq_k; intro K11 hK11
      apply wp_region_lit
      refine sa _ rfl hk rfl rfl rfl fun a hk => ?_
      show wpList _ _ _ [] _ _
      refine wpList_nil ?_
      refine hK11 _ _ ?_
      refine wp_ret ?_
      obtain rfl := Option.some.inj H
      exact fin hk _ [(.bool false)] rfl ⟨rfl, trivial⟩ ⟨rfl, (hs.pick [] rfl).dnil⟩
    · have hk := hk.lit 14 c10 rfl
      refine cnd_false hk rfl rfl ?_
      refine wp_skip ?_
      refine hK8 _ _ ?_
      apply wp_seq_k; intro K12 hK12
      apply wp_region_lit
      refine sa _ rfl hk rfl rfl rfl fun a hk => ?_
      show wpList _ _ _ [] _ _
      refine wpList_nil ?_
      refine hK12 _ _ ?_
      refine wp_ret ?_
      obtain rfl := Option.some.inj H
      exact fin hk _ [(.bool true)] rfl ⟨rfl, trivial⟩ ⟨rfl, (hs.pick [] rfl).dnil⟩

noncomputable def laws_eqEntryS.s0 (l0 : List S_Entry) (l1 : List S_Entry) (u10 : Int) : Option ((Int) ⊕ Ex (Unit) (Bool)) :=
  (bif (decide (u10 < (l0.length : Int))) then (if 0 ≤ u10 ∧ u10 < (l0.length : Int) then (if 0 ≤ u10 ∧ u10 < (l1.length : Int) then ((laws_eqEntry.f (l0.getD u10.toNat z_Entry) (l1.getD u10.toNat z_Entry)).bind fun y33 => (bif (!y33) then (some (.inr (.ret false))) else (some (.inl (w64 (u10 + 1)))))) else none) else none) else (some (.inr (.out ()))))
noncomputable def laws_eqEntryS.f (l0 : List S_Entry) (l1 : List S_Entry) : Option (Bool) :=
  (bif ((l0.length : Int) != (l1.length : Int)) then (some false) else ((loopO (fun s => laws_eqEntryS.s0 l0 l1 s) 0).bind fun o => match o with | .out _ => (some true) | .ret r => (some r)))
set_option maxRecDepth 100000 in
set_option maxHeartbeats 0 in
theorem laws_eqEntryS_t (w0 : World) (A0_ : Option Addr) (p0_ : Nat) (l0 : List S_Entry) (k0_ : Chunk) (v0_ : View L_Entry A0_ p0_ l0 k0_) (w0_ : Has w0 k0_) (A1_ : Option Addr) (p1_ : Nat) (l1 : List S_Entry) (k1_ : Chunk) (v1_ : View L_Entry A1_ p1_ l1 k1_) (w1_ : Has w0 k1_) (r : Bool) (H : laws_eqEntryS.f l0 l1 = some r) :
    Calls Try.prog 16 #[.slice A0_ l0.length p0_, .slice A1_ l1.length p1_] w0 (Ret (fun v w => v = .bool r ∧ Sat [] w0 w [] [])) := by
  have hs : Sat [] w0 w0 [(1, k0_), (2, k1_)] [] := Sat.init w0 [(1, k0_), (2, k1_)] [] (by simp only [List.mem_cons, List.not_mem_nil, or_false]; rintro x (rfl | rfl) <;> assumption) (by simp) List.nodup_nil (by simp [blks])
  unfold laws_eqEntryS.f at H
  refine enter Try.func16 rfl Try.ntmps16 rfl fun a hk => ?_
  apply wp_seq_k; intro K1 hK1
  apply wp_region_lit
  refine sa _ rfl hk rfl rfl rfl fun a hk => ?_
  show wpList _ _ _ [] _ _
  refine wpList_nil ?_
  refine hK1 _ _ ?_
  apply wp_seq_k; intro K2 hK2
  apply wp_seq_k; intro K3 hK3
  apply wp_region_lit
  refine sm _ rfl hk rfl rfl rfl fun a hk => ?_
  refine sle rfl hk rfl rfl rfl un26 fun a hk => ?_
  refine sm _ rfl hk rfl rfl rfl fun a hk => ?_
  refine sle rfl hk rfl rfl rfl un26 fun a hk => ?_
  refine sv (.bool ((l0.length : Int) != (l1.length : Int))) hk rfl rfl rfl fun a hk => ?_
  show wpList _ _ _ [] _ _
  refine wpList_nil ?_
  refine hK3 _ _ ?_
  rcases cond_some H with ⟨c4, H⟩ | ⟨c4, H⟩
  · have hk := hk.lit 10 c4 rfl
    refine cnd_true hk rfl rfl ?_
    apply wp_seq_k; intro K5 hK5
    apply wp_region_lit
    refine sa _ rfl hk rfl rfl rfl fun a hk => ?_
    show wpList _ _ _ [] _ _
    refine wpList_nil ?_
    refine hK5 _ _ ?_
    refine wp_ret ?_
    obtain rfl := Option.some.inj H
    exact fin hk _ [(.bool false)] rfl ⟨rfl, trivial⟩ ⟨rfl, (hs.pick [] rfl).dnil⟩
  · have hk := hk.lit 10 c4 rfl
    refine cnd_false hk rfl rfl ?_
    refine wp_skip ?_
    refine hK2 _ _ ?_
    apply wp_seq_k; intro K6 hK6
    apply wp_seq_k; intro K7 hK7
    apply wp_region_lit
    refine sa _ rfl hk rfl rfl rfl fun a hk => ?_
    show wpList _ _ _ [] _ _
    refine wpList_nil ?_
    refine hK7 _ _ ?_
    obtain ⟨o11, h12, HL13⟩ := bind_some H
    clear H
    obtain ⟨R14, hR14⟩ : ∃ R : Act → World → Prop, R = fun a w => o11 = .out () ∧ Kn [] 27 a ∧ Sat [] w0 w [(1, k0_), (2, k1_)] [] := ⟨_, rfl⟩
    refine wp_cutq R14 ?_ ?_
    · refine wp_block ?_
      obtain ⟨fu16, h12⟩ := loopO_some h12
      obtain ⟨I15, hI15⟩ : ∃ I : Nat → Act → World → Prop, I = fun fu a w => ∃ (u10 : Int), loopN (fun s => laws_eqEntryS.s0 l0 l1 s) fu u10 = some o11 ∧ Kn [(0, (.slice A0_ l0.length p0_)), (1, (.slice A1_ l1.length p1_)), (5, (.int .i64 u10))] 27 a ∧ Sat [] w0 w [(1, k0_), (2, k1_)] [] := ⟨_, rfl⟩
      refine wp_loop_ghost I15 fu16 ?_ ?_
      · rw [hI15]
        exact ⟨0, h12, (hk.c 0 rfl (hk.c 1 rfl (hk.c 5 rfl hk.k))), (hs.pick [] rfl)⟩
      · clear h12 hk hs
        intro fu16 a w hI0
        rw [hI15] at hI0
        obtain ⟨u10, hi, hk, hs⟩ := hI0
        obtain ⟨x17, H, h18⟩ := loop_round hi
        try dsimp only at H
        unfold laws_eqEntryS.s0 at H
        apply wp_seq_k; intro K19 hK19
        apply wp_seq_k; intro K20 hK20
        apply wp_region_lit
        refine sm _ rfl hk rfl rfl rfl fun a hk => ?_
        refine sm _ rfl hk rfl rfl rfl fun a hk => ?_
        refine sle rfl hk rfl rfl rfl un26 fun a hk => ?_
        refine sv (.bool (decide (u10 < (l0.length : Int)))) hk rfl rfl rfl fun a hk => ?_
        show wpList _ _ _ [] _ _
        refine wpList_nil ?_
        refine hK20 _ _ ?_
        rcases cond_some H with ⟨c21, H⟩ | ⟨c21, H⟩
        · have hk := hk.lit 14 c21 rfl
          refine cnd_true hk rfl rfl ?_
          refine wp_skip ?_
          refine hK19 _ _ ?_
          apply wp_seq_k; intro K22 hK22
          refine wp_block ?_
          apply wp_seq_k; intro K23 hK23
          refine wp_region_tree (.q 0 (.q 1 (.q 2 (.q 3 (.q 4 (.alt 5 (.alt 6 (.alt 7 (.alt 8 (.alt 9 .done .stop) .stop) .stop) .stop) .stop)))))) mo (by kernel_rfl) (hs.pick [] rfl) fun _ => ?_
          have hs := hs.drew
          refine tqst (.slice A0_ l0.length p0_) hk rfl rfl rfl rfl (fun w hs => sm _ rfl hk rfl rfl rfl fun a hk => qe hk) fun a hk => ?_
          refine tqst (.int .i64 u10) hk rfl rfl rfl rfl (fun w hs => sm _ rfl hk rfl rfl rfl fun a hk => qe hk) fun a hk => ?_
          rcases ite_some H with ⟨c25, H⟩ | ⟨_, H⟩
          rotate_left
          · cases H
          obtain ⟨b26, q27, hAc25⟩ := (v0_).some_ u10 c25.1 c25.2
          refine tqst (.pointer (some (padd A0_ (u10.toNat * 2)))) hk rfl rfl rfl rfl (fun w hs => si rfl hk rfl rfl rfl rfl un26 sz62 c25.1 c25.2 hAc25 fun a hk => qe hk) fun a hk => ?_
          obtain ⟨_, rfl, e28⟩ := (v0_).at_ z_Entry u10 c25.1 c25.2
          refine tqst (.agg #[.int .i64 ((l0.getD u10.toNat z_Entry).Key), .int .i64 ((l0.getD u10.toNat z_Entry).Value)]) hk rfl rfl rfl rfl (fun w hs => sln [.int .i64 ((l0.getD u10.toNat z_Entry).Key), .int .i64 ((l0.getD u10.toNat z_Entry).Value)] rfl hk rfl rfl rfl ag62 sz62 (cells_at e28 (hs.hasD (k := 1) rfl)) fun a hk => qe hk) fun a hk => ?_
          refine tqst (.slice A1_ l1.length p1_) hk rfl rfl rfl rfl (fun w hs => sm _ rfl hk rfl rfl rfl fun a hk => qe hk) fun a hk => ?_
          refine tsst hk rfl rfl (fun K_r24_5 hK_r24_5 w hF => ?_) wt_stop
          have hs := hs.f hF
          refine sm _ rfl hk rfl rfl rfl fun a hk => ?_
          refine se (hs.pick [] rfl) hk (hK_r24_5 _ _ ?_)
          refine tsst hk rfl rfl (fun K_r24_6 hK_r24_6 w hF => ?_) wt_stop
          have hs := hs.f hF
          rcases ite_some H with ⟨c29, H⟩ | ⟨_, H⟩
          rotate_left
          · cases H
          obtain ⟨b30, q31, hAc29⟩ := (v1_).some_ u10 c29.1 c29.2
          refine si rfl hk rfl rfl rfl rfl un26 sz62 c29.1 c29.2 hAc29 fun a hk => ?_
          refine se (hs.pick [] rfl) hk (hK_r24_6 _ _ ?_)
          refine tsst hk rfl rfl (fun K_r24_7 hK_r24_7 w hF => ?_) wt_stop
          have hs := hs.f hF
          obtain ⟨_, rfl, e32⟩ := (v1_).at_ z_Entry u10 c29.1 c29.2
          refine sln [.int .i64 ((l1.getD u10.toNat z_Entry).Key), .int .i64 ((l1.getD u10.toNat z_Entry).Value)] rfl hk rfl rfl rfl ag62 sz62 (cells_at e32 (hs.hasD (k := 2) rfl)) fun a hk => ?_
          refine se (hs.pick [] rfl) hk (hK_r24_7 _ _ ?_)
          refine tsst hk rfl rfl (fun K_r24_8 hK_r24_8 w hF => ?_) wt_stop
          have hs := hs.f hF
          obtain ⟨y33, h34, H⟩ := bind_some H
          refine sc rfl en70 hk rfl rfl rfl (laws_eqEntry_t _ (l0.getD u10.toNat z_Entry) (l1.getD u10.toNat z_Entry) _ h34) ?_
          rintro _ w ⟨rfl, hG⟩ a hk
          have hs := hs.call0 hG
          refine se (hs.pick [] rfl) hk (hK_r24_8 _ _ ?_)
          refine tsst hk rfl rfl (fun K_r24_9 hK_r24_9 w hF => ?_) wt_stop
          have hs := hs.f hF
          refine sv (.bool (!y33)) hk rfl rfl rfl fun a hk => ?_
          refine se (hs.pick [] rfl) hk (hK_r24_9 _ _ ?_)
          refine wtl_nil fun w hF _ => ?_
          have hs := hs.f hF
          refine hK23 _ _ ?_
          rcases cond_some H with ⟨c35, H⟩ | ⟨c35, H⟩
          · have hk := hk.lit 26 c35 rfl
            refine cnd_true hk rfl rfl ?_
            apply wp_seq_k; intro K36 hK36
            apply wp_region_lit
            refine sa _ rfl hk rfl rfl rfl fun a hk => ?_
            show wpList _ _ _ [] _ _
            refine wpList_nil ?_
            refine hK36 _ _ ?_
            refine wp_ret ?_
            obtain rfl := Option.some.inj H
            have ho11 := h18
            try dsimp only at ho11
            subst ho11
            have H := HL13
            try dsimp only at H
            obtain rfl := Option.some.inj H
            exact fin hk _ [(.bool false)] rfl ⟨rfl, trivial⟩ ⟨rfl, (hs.pick [] rfl).dnil⟩
          · have hk := hk.lit 26 c35 rfl
            refine cnd_false hk rfl rfl ?_
            refine wp_skip ?_
            refine hK22 _ _ ?_
            apply wp_region_lit
            refine sm _ rfl hk rfl rfl rfl fun a hk => ?_
            refine sv (.int .i64 (w64 (u10 + 1))) hk rfl rfl rfl fun a hk => ?_
            refine sa _ rfl hk rfl rfl rfl fun a hk => ?_
            show wpList _ _ _ [] _ _
            refine wpList_nil ?_
            obtain rfl := Option.some.inj H
            obtain ⟨m37, hmm37, h18⟩ := h18
            show ∃ n', n' < _ ∧ I15 n' _ _
            refine ⟨m37, hmm37, ?_⟩
            rw [hI15]
            exact ⟨(w64 (u10 + 1)), h18, (hk.c 0 rfl (hk.c 1 rfl (hk.c 5 rfl hk.k))), (hs.pick [] rfl)⟩
        · have hk := hk.lit 14 c21 rfl
          refine cnd_false hk rfl rfl ?_
          refine wp_exit ?_
          obtain rfl := Option.some.inj H
          show R14 _ _
          rw [hR14]
          exact ⟨h18.symm, hk.k, (hs.pick [] rfl)⟩
    · intro a w hR0
      rw [hR14] at hR0
      obtain ⟨rfl, hk, hs⟩ := hR0
      have H := HL13
      try dsimp only at H
      refine hK6 _ _ ?_
      apply wp_seq_k; intro K38 hK38
      apply wp_region_lit
      refine sa _ rfl hk rfl rfl rfl fun a hk => ?_
      show wpList _ _ _ [] _ _
      refine wpList_nil ?_
      refine hK38 _ _ ?_
      refine wp_ret ?_
      obtain rfl := Option.some.inj H
      exact fin hk _ [(.bool true)] rfl ⟨rfl, trivial⟩ ⟨rfl, (hs.pick [] rfl).dnil⟩

noncomputable def laws_eqIntS.s0 (l0 : List Int) (l1 : List Int) (u10 : Int) : Option ((Int) ⊕ Ex (Unit) (Bool)) :=
  (bif (decide (u10 < (l0.length : Int))) then (if 0 ≤ u10 ∧ u10 < (l0.length : Int) then (if 0 ≤ u10 ∧ u10 < (l1.length : Int) then (bif ((l0.getD u10.toNat 0) != (l1.getD u10.toNat 0)) then (some (.inr (.ret false))) else (some (.inl (w64 (u10 + 1))))) else none) else none) else (some (.inr (.out ()))))
noncomputable def laws_eqIntS.f (l0 : List Int) (l1 : List Int) : Option (Bool) :=
  (bif ((l0.length : Int) != (l1.length : Int)) then (some false) else ((loopO (fun s => laws_eqIntS.s0 l0 l1 s) 0).bind fun o => match o with | .out _ => (some true) | .ret r => (some r)))
set_option maxRecDepth 100000 in
set_option maxHeartbeats 0 in
theorem laws_eqIntS_t (w0 : World) (A0_ : Option Addr) (p0_ : Nat) (l0 : List Int) (k0_ : Chunk) (v0_ : View (Lay.int .i64) A0_ p0_ l0 k0_) (w0_ : Has w0 k0_) (A1_ : Option Addr) (p1_ : Nat) (l1 : List Int) (k1_ : Chunk) (v1_ : View (Lay.int .i64) A1_ p1_ l1 k1_) (w1_ : Has w0 k1_) (r : Bool) (H : laws_eqIntS.f l0 l1 = some r) :
    Calls Try.prog 17 #[.slice A0_ l0.length p0_, .slice A1_ l1.length p1_] w0 (Ret (fun v w => v = .bool r ∧ Sat [] w0 w [] [])) := by
  have hs : Sat [] w0 w0 [(1, k0_), (2, k1_)] [] := Sat.init w0 [(1, k0_), (2, k1_)] [] (by simp only [List.mem_cons, List.not_mem_nil, or_false]; rintro x (rfl | rfl) <;> assumption) (by simp) List.nodup_nil (by simp [blks])
  unfold laws_eqIntS.f at H
  refine enter Try.func17 rfl Try.ntmps17 rfl fun a hk => ?_
  apply wp_seq_k; intro K1 hK1
  apply wp_region_lit
  refine sa _ rfl hk rfl rfl rfl fun a hk => ?_
  show wpList _ _ _ [] _ _
  refine wpList_nil ?_
  refine hK1 _ _ ?_
  apply wp_seq_k; intro K2 hK2
  apply wp_seq_k; intro K3 hK3
  apply wp_region_lit
  refine sm _ rfl hk rfl rfl rfl fun a hk => ?_
  refine sle rfl hk rfl rfl rfl un27 fun a hk => ?_
  refine sm _ rfl hk rfl rfl rfl fun a hk => ?_
  refine sle rfl hk rfl rfl rfl un27 fun a hk => ?_
  refine sv (.bool ((l0.length : Int) != (l1.length : Int))) hk rfl rfl rfl fun a hk => ?_
  show wpList _ _ _ [] _ _
  refine wpList_nil ?_
  refine hK3 _ _ ?_
  rcases cond_some H with ⟨c4, H⟩ | ⟨c4, H⟩
  · have hk := hk.lit 10 c4 rfl
    refine cnd_true hk rfl rfl ?_
    apply wp_seq_k; intro K5 hK5
    apply wp_region_lit
    refine sa _ rfl hk rfl rfl rfl fun a hk => ?_
    show wpList _ _ _ [] _ _
    refine wpList_nil ?_
    refine hK5 _ _ ?_
    refine wp_ret ?_
    obtain rfl := Option.some.inj H
    exact fin hk _ [(.bool false)] rfl ⟨rfl, trivial⟩ ⟨rfl, (hs.pick [] rfl).dnil⟩
  · have hk := hk.lit 10 c4 rfl
    refine cnd_false hk rfl rfl ?_
    refine wp_skip ?_
    refine hK2 _ _ ?_
    apply wp_seq_k; intro K6 hK6
    apply wp_seq_k; intro K7 hK7
    apply wp_region_lit
    refine sa _ rfl hk rfl rfl rfl fun a hk => ?_
    show wpList _ _ _ [] _ _
    refine wpList_nil ?_
    refine hK7 _ _ ?_
    obtain ⟨o11, h12, HL13⟩ := bind_some H
    clear H
    obtain ⟨R14, hR14⟩ : ∃ R : Act → World → Prop, R = fun a w => o11 = .out () ∧ Kn [] 26 a ∧ Sat [] w0 w [(1, k0_), (2, k1_)] [] := ⟨_, rfl⟩
    refine wp_cutq R14 ?_ ?_
    · refine wp_block ?_
      obtain ⟨fu16, h12⟩ := loopO_some h12
      obtain ⟨I15, hI15⟩ : ∃ I : Nat → Act → World → Prop, I = fun fu a w => ∃ (u10 : Int), loopN (fun s => laws_eqIntS.s0 l0 l1 s) fu u10 = some o11 ∧ Kn [(0, (.slice A0_ l0.length p0_)), (1, (.slice A1_ l1.length p1_)), (5, (.int .i64 u10))] 26 a ∧ Sat [] w0 w [(1, k0_), (2, k1_)] [] := ⟨_, rfl⟩
      refine wp_loop_ghost I15 fu16 ?_ ?_
      · rw [hI15]
        exact ⟨0, h12, (hk.c 0 rfl (hk.c 1 rfl (hk.c 5 rfl hk.k))), (hs.pick [] rfl)⟩
      · clear h12 hk hs
        intro fu16 a w hI0
        rw [hI15] at hI0
        obtain ⟨u10, hi, hk, hs⟩ := hI0
        obtain ⟨x17, H, h18⟩ := loop_round hi
        try dsimp only at H
        unfold laws_eqIntS.s0 at H
        apply wp_seq_k; intro K19 hK19
        apply wp_seq_k; intro K20 hK20
        apply wp_region_lit
        refine sm _ rfl hk rfl rfl rfl fun a hk => ?_
        refine sm _ rfl hk rfl rfl rfl fun a hk => ?_
        refine sle rfl hk rfl rfl rfl un27 fun a hk => ?_
        refine sv (.bool (decide (u10 < (l0.length : Int)))) hk rfl rfl rfl fun a hk => ?_
        show wpList _ _ _ [] _ _
        refine wpList_nil ?_
        refine hK20 _ _ ?_
        rcases cond_some H with ⟨c21, H⟩ | ⟨c21, H⟩
        · have hk := hk.lit 14 c21 rfl
          refine cnd_true hk rfl rfl ?_
          refine wp_skip ?_
          refine hK19 _ _ ?_
          apply wp_seq_k; intro K22 hK22
          refine wp_block ?_
          apply wp_seq_k; intro K23 hK23
          refine wp_region_tree (.q 0 (.q 1 (.q 2 (.q 3 (.q 4 (.alt 5 (.alt 6 (.alt 7 (.alt 8 .done .stop) .stop) .stop) .stop)))))) mo (by kernel_rfl) (hs.pick [] rfl) fun _ => ?_
          have hs := hs.drew
          refine tqst (.slice A0_ l0.length p0_) hk rfl rfl rfl rfl (fun w hs => sm _ rfl hk rfl rfl rfl fun a hk => qe hk) fun a hk => ?_
          refine tqst (.int .i64 u10) hk rfl rfl rfl rfl (fun w hs => sm _ rfl hk rfl rfl rfl fun a hk => qe hk) fun a hk => ?_
          rcases ite_some H with ⟨c25, H⟩ | ⟨_, H⟩
          rotate_left
          · cases H
          obtain ⟨b26, q27, hAc25⟩ := (v0_).some_ u10 c25.1 c25.2
          refine tqst (.pointer (some (padd A0_ (u10.toNat * 1)))) hk rfl rfl rfl rfl (fun w hs => si rfl hk rfl rfl rfl rfl un27 sz3 c25.1 c25.2 hAc25 fun a hk => qe hk) fun a hk => ?_
          obtain ⟨_, rfl, e28⟩ := (v0_).at_ 0 u10 c25.1 c25.2
          refine tqst (.int .i64 (l0.getD u10.toNat 0)) hk rfl rfl rfl rfl (fun w hs => sl (v := (.int .i64 (l0.getD u10.toNat 0))) rfl hk rfl rfl rfl ag3 ((e28 0 _ rfl).cell (hs.hasD (k := 1) rfl)) fun a hk => qe hk) fun a hk => ?_
          refine tqst (.slice A1_ l1.length p1_) hk rfl rfl rfl rfl (fun w hs => sm _ rfl hk rfl rfl rfl fun a hk => qe hk) fun a hk => ?_
          refine tsst hk rfl rfl (fun K_r24_5 hK_r24_5 w hF => ?_) wt_stop
          have hs := hs.f hF
          refine sm _ rfl hk rfl rfl rfl fun a hk => ?_
          refine se (hs.pick [] rfl) hk (hK_r24_5 _ _ ?_)
          refine tsst hk rfl rfl (fun K_r24_6 hK_r24_6 w hF => ?_) wt_stop
          have hs := hs.f hF
          rcases ite_some H with ⟨c29, H⟩ | ⟨_, H⟩
          rotate_left
          · cases H
          obtain ⟨b30, q31, hAc29⟩ := (v1_).some_ u10 c29.1 c29.2
          refine si rfl hk rfl rfl rfl rfl un27 sz3 c29.1 c29.2 hAc29 fun a hk => ?_
          refine se (hs.pick [] rfl) hk (hK_r24_6 _ _ ?_)
          refine tsst hk rfl rfl (fun K_r24_7 hK_r24_7 w hF => ?_) wt_stop
          have hs := hs.f hF
          obtain ⟨_, rfl, e32⟩ := (v1_).at_ 0 u10 c29.1 c29.2
          refine sl (v := (.int .i64 (l1.getD u10.toNat 0))) rfl hk rfl rfl rfl ag3 ((e32 0 _ rfl).cell (hs.hasD (k := 2) rfl)) fun a hk => ?_
          refine se (hs.pick [] rfl) hk (hK_r24_7 _ _ ?_)
          refine tsst hk rfl rfl (fun K_r24_8 hK_r24_8 w hF => ?_) wt_stop
          have hs := hs.f hF
          refine sv (.bool ((l0.getD u10.toNat 0) != (l1.getD u10.toNat 0))) hk rfl rfl rfl fun a hk => ?_
          refine se (hs.pick [] rfl) hk (hK_r24_8 _ _ ?_)
          refine wtl_nil fun w hF _ => ?_
          have hs := hs.f hF
          refine hK23 _ _ ?_
          rcases cond_some H with ⟨c33, H⟩ | ⟨c33, H⟩
          · have hk := hk.lit 25 c33 rfl
            refine cnd_true hk rfl rfl ?_
            apply wp_seq_k; intro K34 hK34
            apply wp_region_lit
            refine sa _ rfl hk rfl rfl rfl fun a hk => ?_
            show wpList _ _ _ [] _ _
            refine wpList_nil ?_
            refine hK34 _ _ ?_
            refine wp_ret ?_
            obtain rfl := Option.some.inj H
            have ho11 := h18
            try dsimp only at ho11
            subst ho11
            have H := HL13
            try dsimp only at H
            obtain rfl := Option.some.inj H
            exact fin hk _ [(.bool false)] rfl ⟨rfl, trivial⟩ ⟨rfl, (hs.pick [] rfl).dnil⟩
          · have hk := hk.lit 25 c33 rfl
            refine cnd_false hk rfl rfl ?_
            refine wp_skip ?_
            refine hK22 _ _ ?_
            apply wp_region_lit
            refine sm _ rfl hk rfl rfl rfl fun a hk => ?_
            refine sv (.int .i64 (w64 (u10 + 1))) hk rfl rfl rfl fun a hk => ?_
            refine sa _ rfl hk rfl rfl rfl fun a hk => ?_
            show wpList _ _ _ [] _ _
            refine wpList_nil ?_
            obtain rfl := Option.some.inj H
            obtain ⟨m35, hmm35, h18⟩ := h18
            show ∃ n', n' < _ ∧ I15 n' _ _
            refine ⟨m35, hmm35, ?_⟩
            rw [hI15]
            exact ⟨(w64 (u10 + 1)), h18, (hk.c 0 rfl (hk.c 1 rfl (hk.c 5 rfl hk.k))), (hs.pick [] rfl)⟩
        · have hk := hk.lit 14 c21 rfl
          refine cnd_false hk rfl rfl ?_
          refine wp_exit ?_
          obtain rfl := Option.some.inj H
          show R14 _ _
          rw [hR14]
          exact ⟨h18.symm, hk.k, (hs.pick [] rfl)⟩
    · intro a w hR0
      rw [hR14] at hR0
      obtain ⟨rfl, hk, hs⟩ := hR0
      have H := HL13
      try dsimp only at H
      refine hK6 _ _ ?_
      apply wp_seq_k; intro K36 hK36
      apply wp_region_lit
      refine sa _ rfl hk rfl rfl rfl fun a hk => ?_
      show wpList _ _ _ [] _ _
      refine wpList_nil ?_
      refine hK36 _ _ ?_
      refine wp_ret ?_
      obtain rfl := Option.some.inj H
      exact fin hk _ [(.bool true)] rfl ⟨rfl, trivial⟩ ⟨rfl, (hs.pick [] rfl).dnil⟩

noncomputable def laws_markEntryS.s0 (l0 : List S_Entry) (u6 : List S_Entry) (u10 : Int) (u11 : Int) : Option (((List S_Entry) × Int × Int) ⊕ Ex ((List S_Entry) × Int) (Int × (List S_Entry))) :=
  (bif (decide (u11 < (l0.length : Int))) then (if 0 ≤ u11 ∧ u11 < (l0.length : Int) then (if 0 ≤ u11 ∧ u11 < (l0.length : Int) then (some (.inl (((u6.set u11.toNat (⟨u10, (u6.getD u11.toNat z_Entry).Value⟩ : S_Entry)).set u11.toNat (⟨((u6.set u11.toNat (⟨u10, (u6.getD u11.toNat z_Entry).Value⟩ : S_Entry)).getD u11.toNat z_Entry).Key, (w64 (u10 + 1))⟩ : S_Entry)), (w64 ((w64 (u10 + 1)) + 1)), (w64 (u11 + 1))))) else none) else none) else (some (.inr (.out (u6, u10)))))
noncomputable def laws_markEntryS.f (l0 : List S_Entry) (x1 : Int) : Option (Int × (List S_Entry)) :=
  ((loopO (fun s => laws_markEntryS.s0 l0 s.1 s.2.1 s.2.2) (l0, x1, 0)).bind fun o => match o with | .out (u12, u16) => (some (u16, u12)) | .ret r => (some r))
set_option maxRecDepth 100000 in
set_option maxHeartbeats 0 in
theorem laws_markEntryS_t (w0 : World) (A0_ : Option Addr) (p0_ : Nat) (l0 : List S_Entry) (k0_ : Chunk) (v0_ : Own L_Entry 62 A0_ p0_ l0 k0_) (x1 : Int) (hs0 : Sat (blks [(1, k0_)]) w0 w0 [] [(1, k0_)]) (r : Int × (List S_Entry)) (H : laws_markEntryS.f l0 x1 = some r) :
    Calls Try.prog 18 #[.slice A0_ l0.length p0_, .int .i64 x1] w0 (Ret (fun v w => ∃ (k0 : Chunk), v = .int .i64 r.1 ∧ (Own L_Entry 62 A0_ p0_ r.2 k0 ∧ r.2.length = l0.length) ∧ Sat (blks [(1, k0_)]) w0 w [] [(0, k0)])) := by
  have hs := hs0
  unfold laws_markEntryS.f at H
  refine enter Try.func18 rfl Try.ntmps18 rfl fun a hk => ?_
  apply wp_seq_k; intro K1 hK1
  apply wp_region_lit
  refine sa _ rfl hk rfl rfl rfl fun a hk => ?_
  show wpList _ _ _ [] _ _
  refine wpList_nil ?_
  refine hK1 _ _ ?_
  apply wp_seq_k; intro K2 hK2
  apply wp_seq_k; intro K3 hK3
  apply wp_region_lit
  refine sa _ rfl hk rfl rfl rfl fun a hk => ?_
  show wpList _ _ _ [] _ _
  refine wpList_nil ?_
  refine hK3 _ _ ?_
  obtain ⟨o17, h18, HL19⟩ := bind_some H
  clear H
  obtain ⟨R20, hR20⟩ : ∃ R : Act → World → Prop, R = fun a w => ∃ (u12 : List S_Entry) (u16 : Int) (k13 : Chunk), o17 = .out (u12, u16) ∧ Kn [(0, (.slice A0_ l0.length p0_)), (1, (.int .i64 u16))] 27 a ∧ Sat (blks [(1, k0_)]) w0 w [] [(1, k13)] ∧ Own L_Entry 62 A0_ p0_ u12 k13 ∧ u12.length = l0.length := ⟨_, rfl⟩
  refine wp_cutq R20 ?_ ?_
  · refine wp_block ?_
    obtain ⟨fu22, h18⟩ := loopO_some h18
    obtain ⟨I21, hI21⟩ : ∃ I : Nat → Act → World → Prop, I = fun fu a w => ∃ (u6 : List S_Entry) (u10 : Int) (u11 : Int) (k7 : Chunk), loopN (fun s => laws_markEntryS.s0 l0 s.1 s.2.1 s.2.2) fu (u6, u10, u11) = some o17 ∧ Kn [(0, (.slice A0_ l0.length p0_)), (1, (.int .i64 u10)), (5, (.int .i64 u11))] 27 a ∧ Sat (blks [(1, k0_)]) w0 w [] [(1, k7)] ∧ Own L_Entry 62 A0_ p0_ u6 k7 ∧ u6.length = l0.length := ⟨_, rfl⟩
    refine wp_loop_ghost I21 fu22 ?_ ?_
    · rw [hI21]
      exact ⟨l0, x1, 0, _, h18, (hk.c 0 rfl (hk.c 1 rfl (hk.c 5 rfl hk.k))), (hs.pick [(1, 1)] rfl), v0_, rfl⟩
    · clear h18 hk hs
      intro fu22 a w hI0
      rw [hI21] at hI0
      obtain ⟨u6, u10, u11, k7, hi, hk, hs, o8, lh9⟩ := hI0
      obtain ⟨x23, H, h24⟩ := loop_round hi
      try dsimp only at H
      unfold laws_markEntryS.s0 at H
      apply wp_seq_k; intro K25 hK25
      apply wp_seq_k; intro K26 hK26
      apply wp_region_lit
      refine sm _ rfl hk rfl rfl rfl fun a hk => ?_
      refine sm _ rfl hk rfl rfl rfl fun a hk => ?_
      refine sle rfl hk rfl rfl rfl un26 fun a hk => ?_
      refine sv (.bool (decide (u11 < (l0.length : Int)))) hk rfl rfl rfl fun a hk => ?_
      show wpList _ _ _ [] _ _
      refine wpList_nil ?_
      refine hK26 _ _ ?_
      rcases cond_some H with ⟨c27, H⟩ | ⟨c27, H⟩
      · have hk := hk.lit 9 c27 rfl
        refine cnd_true hk rfl rfl ?_
        refine wp_skip ?_
        refine hK25 _ _ ?_
        apply wp_seq_k; intro K28 hK28
        refine wp_block ?_
        apply wp_seq_k; intro K29 hK29
        apply wp_region_lit
        refine sm _ rfl hk rfl rfl rfl fun a hk => ?_
        refine sm _ rfl hk rfl rfl rfl fun a hk => ?_
        refine sm _ rfl hk rfl rfl rfl fun a hk => ?_
        rcases ite_some H with ⟨c30, H⟩ | ⟨_, H⟩
        rotate_left
        · cases H
        obtain ⟨b31, q32, hAc30⟩ := (o8.view).some_ u11 c30.1 (by rw [lh9]; exact c30.2)
        refine si rfl hk rfl rfl rfl rfl un26 sz62 c30.1 c30.2 hAc30 fun a hk => ?_
        refine sf (padd A0_ (u11.toNat * 2 + 0)) rfl hk rfl rfl rfl fd62_0 (padd_add _ _ _) fun a hk => ?_
        refine so (j := 0) 1 z_Entry (⟨u10, (u6.getD u11.toNat z_Entry).Value⟩ : S_Entry) hs rfl o8 c30.1 (by rw [lh9]; exact c30.2) rfl hk rfl rfl rfl rfl rfl sz3 (by simp [Value.cells, Value.oneCell']) (Nat.le_of_ble_eq_true rfl) (fun _ _ h => ⟨by rw [h.1]; rfl, h.2⟩) fun k33 w a hk o34 hs => ?_
        have lh35 : (u6.set u11.toNat (⟨u10, (u6.getD u11.toNat z_Entry).Value⟩ : S_Entry)).length = l0.length := by rw [List.length_set]; exact lh9
        show wpList _ _ _ [] _ _
        refine wpList_nil ?_
        refine hK29 _ _ ?_
        apply wp_seq_k; intro K36 hK36
        apply wp_region_lit
        refine sm _ rfl hk rfl rfl rfl fun a hk => ?_
        refine sv (.int .i64 (w64 (u10 + 1))) hk rfl rfl rfl fun a hk => ?_
        refine sa _ rfl hk rfl rfl rfl fun a hk => ?_
        show wpList _ _ _ [] _ _
        refine wpList_nil ?_
        refine hK36 _ _ ?_
        apply wp_seq_k; intro K37 hK37
        apply wp_region_lit
        refine sm _ rfl hk rfl rfl rfl fun a hk => ?_
        refine sm _ rfl hk rfl rfl rfl fun a hk => ?_
        refine sm _ rfl hk rfl rfl rfl fun a hk => ?_
        rcases ite_some H with ⟨c38, H⟩ | ⟨_, H⟩
        rotate_left
        · cases H
        obtain ⟨b39, q40, hAc38⟩ := (o34.view).some_ u11 c38.1 (by rw [lh35]; exact c38.2)
        refine si rfl hk rfl rfl rfl rfl un26 sz62 c38.1 c38.2 hAc38 fun a hk => ?_
        refine sf (padd A0_ (u11.toNat * 2 + 1)) rfl hk rfl rfl rfl fd62_1 (padd_add _ _ _) fun a hk => ?_
        refine so (j := 1) 1 z_Entry (⟨((u6.set u11.toNat (⟨u10, (u6.getD u11.toNat z_Entry).Value⟩ : S_Entry)).getD u11.toNat z_Entry).Key, (w64 (u10 + 1))⟩ : S_Entry) hs rfl o34 c38.1 (by rw [lh35]; exact c38.2) rfl hk rfl rfl rfl rfl rfl sz3 (by simp [Value.cells, Value.oneCell']) (Nat.le_of_ble_eq_true rfl) (fun _ _ h => ⟨by rw [h.1]; rfl, h.2⟩) fun k41 w a hk o42 hs => ?_
        have lh43 : ((u6.set u11.toNat (⟨u10, (u6.getD u11.toNat z_Entry).Value⟩ : S_Entry)).set u11.toNat (⟨((u6.set u11.toNat (⟨u10, (u6.getD u11.toNat z_Entry).Value⟩ : S_Entry)).getD u11.toNat z_Entry).Key, (w64 (u10 + 1))⟩ : S_Entry)).length = l0.length := by rw [List.length_set]; exact lh35
        show wpList _ _ _ [] _ _
        refine wpList_nil ?_
        refine hK37 _ _ ?_
        apply wp_region_lit
        refine sm _ rfl hk rfl rfl rfl fun a hk => ?_
        refine sv (.int .i64 (w64 ((w64 (u10 + 1)) + 1))) hk rfl rfl rfl fun a hk => ?_
        refine sa _ rfl hk rfl rfl rfl fun a hk => ?_
        show wpList _ _ _ [] _ _
        refine wpList_nil ?_
        refine hK28 _ _ ?_
        apply wp_region_lit
        refine sm _ rfl hk rfl rfl rfl fun a hk => ?_
        refine sv (.int .i64 (w64 (u11 + 1))) hk rfl rfl rfl fun a hk => ?_
        refine sa _ rfl hk rfl rfl rfl fun a hk => ?_
        show wpList _ _ _ [] _ _
        refine wpList_nil ?_
        obtain rfl := Option.some.inj H
        obtain ⟨m44, hmm44, h24⟩ := h24
        show ∃ n', n' < _ ∧ I21 n' _ _
        refine ⟨m44, hmm44, ?_⟩
        rw [hI21]
        exact ⟨((u6.set u11.toNat (⟨u10, (u6.getD u11.toNat z_Entry).Value⟩ : S_Entry)).set u11.toNat (⟨((u6.set u11.toNat (⟨u10, (u6.getD u11.toNat z_Entry).Value⟩ : S_Entry)).getD u11.toNat z_Entry).Key, (w64 (u10 + 1))⟩ : S_Entry)), (w64 ((w64 (u10 + 1)) + 1)), (w64 (u11 + 1)), _, h24, (hk.c 0 rfl (hk.c 1 rfl (hk.c 5 rfl hk.k))), (hs.pick [(1, 1)] rfl), o42, lh43⟩
      · have hk := hk.lit 9 c27 rfl
        refine cnd_false hk rfl rfl ?_
        refine wp_exit ?_
        obtain rfl := Option.some.inj H
        show R20 _ _
        rw [hR20]
        exact ⟨u6, u10, _, h24.symm, (hk.c 0 rfl (hk.c 1 rfl hk.k)), (hs.pick [(1, 1)] rfl), o8, lh9⟩
  · intro a w hR0
    rw [hR20] at hR0
    obtain ⟨u12, u16, k13, rfl, hk, hs, o14, lh15⟩ := hR0
    have H := HL19
    try dsimp only at H
    refine hK2 _ _ ?_
    apply wp_seq_k; intro K45 hK45
    apply wp_region_lit
    refine sm _ rfl hk rfl rfl rfl fun a hk => ?_
    refine sa _ rfl hk rfl rfl rfl fun a hk => ?_
    show wpList _ _ _ [] _ _
    refine wpList_nil ?_
    refine hK45 _ _ ?_
    refine wp_ret ?_
    obtain rfl := Option.some.inj H
    exact fin hk _ [(.int .i64 u16)] rfl ⟨rfl, trivial⟩ ⟨_, rfl, ⟨o14, lh15⟩, (hs.pick [(0, 1)] rfl).dnil⟩

noncomputable def laws_markIntS.s0 (l0 : List Int) (u6 : List Int) (u10 : Int) (u11 : Int) : Option (((List Int) × Int × Int) ⊕ Ex ((List Int) × Int) (Int × (List Int))) :=
  (bif (decide (u11 < (l0.length : Int))) then (if 0 ≤ u11 ∧ u11 < (l0.length : Int) then (some (.inl ((u6.set u11.toNat u10), (w64 (u10 + 1)), (w64 (u11 + 1))))) else none) else (some (.inr (.out (u6, u10)))))
noncomputable def laws_markIntS.f (l0 : List Int) (x1 : Int) : Option (Int × (List Int)) :=
  ((loopO (fun s => laws_markIntS.s0 l0 s.1 s.2.1 s.2.2) (l0, x1, 0)).bind fun o => match o with | .out (u12, u16) => (some (u16, u12)) | .ret r => (some r))
set_option maxRecDepth 100000 in
set_option maxHeartbeats 0 in
theorem laws_markIntS_t (w0 : World) (A0_ : Option Addr) (p0_ : Nat) (l0 : List Int) (k0_ : Chunk) (v0_ : Own (Lay.int .i64) 3 A0_ p0_ l0 k0_) (x1 : Int) (hs0 : Sat (blks [(1, k0_)]) w0 w0 [] [(1, k0_)]) (r : Int × (List Int)) (H : laws_markIntS.f l0 x1 = some r) :
    Calls Try.prog 19 #[.slice A0_ l0.length p0_, .int .i64 x1] w0 (Ret (fun v w => ∃ (k0 : Chunk), v = .int .i64 r.1 ∧ (Own (Lay.int .i64) 3 A0_ p0_ r.2 k0 ∧ r.2.length = l0.length) ∧ Sat (blks [(1, k0_)]) w0 w [] [(0, k0)])) := by
  have hs := hs0
  unfold laws_markIntS.f at H
  refine enter Try.func19 rfl Try.ntmps19 rfl fun a hk => ?_
  apply wp_seq_k; intro K1 hK1
  apply wp_region_lit
  refine sa _ rfl hk rfl rfl rfl fun a hk => ?_
  show wpList _ _ _ [] _ _
  refine wpList_nil ?_
  refine hK1 _ _ ?_
  apply wp_seq_k; intro K2 hK2
  apply wp_seq_k; intro K3 hK3
  apply wp_region_lit
  refine sa _ rfl hk rfl rfl rfl fun a hk => ?_
  show wpList _ _ _ [] _ _
  refine wpList_nil ?_
  refine hK3 _ _ ?_
  obtain ⟨o17, h18, HL19⟩ := bind_some H
  clear H
  obtain ⟨R20, hR20⟩ : ∃ R : Act → World → Prop, R = fun a w => ∃ (u12 : List Int) (u16 : Int) (k13 : Chunk), o17 = .out (u12, u16) ∧ Kn [(0, (.slice A0_ l0.length p0_)), (1, (.int .i64 u16))] 19 a ∧ Sat (blks [(1, k0_)]) w0 w [] [(1, k13)] ∧ Own (Lay.int .i64) 3 A0_ p0_ u12 k13 ∧ u12.length = l0.length := ⟨_, rfl⟩
  refine wp_cutq R20 ?_ ?_
  · refine wp_block ?_
    obtain ⟨fu22, h18⟩ := loopO_some h18
    obtain ⟨I21, hI21⟩ : ∃ I : Nat → Act → World → Prop, I = fun fu a w => ∃ (u6 : List Int) (u10 : Int) (u11 : Int) (k7 : Chunk), loopN (fun s => laws_markIntS.s0 l0 s.1 s.2.1 s.2.2) fu (u6, u10, u11) = some o17 ∧ Kn [(0, (.slice A0_ l0.length p0_)), (1, (.int .i64 u10)), (5, (.int .i64 u11))] 19 a ∧ Sat (blks [(1, k0_)]) w0 w [] [(1, k7)] ∧ Own (Lay.int .i64) 3 A0_ p0_ u6 k7 ∧ u6.length = l0.length := ⟨_, rfl⟩
    refine wp_loop_ghost I21 fu22 ?_ ?_
    · rw [hI21]
      exact ⟨l0, x1, 0, _, h18, (hk.c 0 rfl (hk.c 1 rfl (hk.c 5 rfl hk.k))), (hs.pick [(1, 1)] rfl), v0_, rfl⟩
    · clear h18 hk hs
      intro fu22 a w hI0
      rw [hI21] at hI0
      obtain ⟨u6, u10, u11, k7, hi, hk, hs, o8, lh9⟩ := hI0
      obtain ⟨x23, H, h24⟩ := loop_round hi
      try dsimp only at H
      unfold laws_markIntS.s0 at H
      apply wp_seq_k; intro K25 hK25
      apply wp_seq_k; intro K26 hK26
      apply wp_region_lit
      refine sm _ rfl hk rfl rfl rfl fun a hk => ?_
      refine sm _ rfl hk rfl rfl rfl fun a hk => ?_
      refine sle rfl hk rfl rfl rfl un27 fun a hk => ?_
      refine sv (.bool (decide (u11 < (l0.length : Int)))) hk rfl rfl rfl fun a hk => ?_
      show wpList _ _ _ [] _ _
      refine wpList_nil ?_
      refine hK26 _ _ ?_
      rcases cond_some H with ⟨c27, H⟩ | ⟨c27, H⟩
      · have hk := hk.lit 9 c27 rfl
        refine cnd_true hk rfl rfl ?_
        refine wp_skip ?_
        refine hK25 _ _ ?_
        apply wp_seq_k; intro K28 hK28
        refine wp_block ?_
        apply wp_seq_k; intro K29 hK29
        apply wp_region_lit
        refine sm _ rfl hk rfl rfl rfl fun a hk => ?_
        refine sm _ rfl hk rfl rfl rfl fun a hk => ?_
        refine sm _ rfl hk rfl rfl rfl fun a hk => ?_
        rcases ite_some H with ⟨c30, H⟩ | ⟨_, H⟩
        rotate_left
        · cases H
        obtain ⟨b31, q32, hAc30⟩ := (o8.view).some_ u11 c30.1 (by rw [lh9]; exact c30.2)
        refine si rfl hk rfl rfl rfl rfl un27 sz3 c30.1 c30.2 hAc30 fun a hk => ?_
        refine so (j := 0) 1 0 u10 hs rfl o8 c30.1 (by rw [lh9]; exact c30.2) rfl hk rfl rfl rfl rfl rfl sz3 (by simp [Value.cells, Value.oneCell']) (Nat.le_of_ble_eq_true rfl) (fun _ _ h => ⟨by rw [h.1]; rfl, h.2⟩) fun k33 w a hk o34 hs => ?_
        have lh35 : (u6.set u11.toNat u10).length = l0.length := by rw [List.length_set]; exact lh9
        show wpList _ _ _ [] _ _
        refine wpList_nil ?_
        refine hK29 _ _ ?_
        apply wp_region_lit
        refine sm _ rfl hk rfl rfl rfl fun a hk => ?_
        refine sv (.int .i64 (w64 (u10 + 1))) hk rfl rfl rfl fun a hk => ?_
        refine sa _ rfl hk rfl rfl rfl fun a hk => ?_
        show wpList _ _ _ [] _ _
        refine wpList_nil ?_
        refine hK28 _ _ ?_
        apply wp_region_lit
        refine sm _ rfl hk rfl rfl rfl fun a hk => ?_
        refine sv (.int .i64 (w64 (u11 + 1))) hk rfl rfl rfl fun a hk => ?_
        refine sa _ rfl hk rfl rfl rfl fun a hk => ?_
        show wpList _ _ _ [] _ _
        refine wpList_nil ?_
        obtain rfl := Option.some.inj H
        obtain ⟨m36, hmm36, h24⟩ := h24
        show ∃ n', n' < _ ∧ I21 n' _ _
        refine ⟨m36, hmm36, ?_⟩
        rw [hI21]
        exact ⟨(u6.set u11.toNat u10), (w64 (u10 + 1)), (w64 (u11 + 1)), _, h24, (hk.c 0 rfl (hk.c 1 rfl (hk.c 5 rfl hk.k))), (hs.pick [(1, 1)] rfl), o34, lh35⟩
      · have hk := hk.lit 9 c27 rfl
        refine cnd_false hk rfl rfl ?_
        refine wp_exit ?_
        obtain rfl := Option.some.inj H
        show R20 _ _
        rw [hR20]
        exact ⟨u6, u10, _, h24.symm, (hk.c 0 rfl (hk.c 1 rfl hk.k)), (hs.pick [(1, 1)] rfl), o8, lh9⟩
  · intro a w hR0
    rw [hR20] at hR0
    obtain ⟨u12, u16, k13, rfl, hk, hs, o14, lh15⟩ := hR0
    have H := HL19
    try dsimp only at H
    refine hK2 _ _ ?_
    apply wp_seq_k; intro K37 hK37
    apply wp_region_lit
    refine sm _ rfl hk rfl rfl rfl fun a hk => ?_
    refine sa _ rfl hk rfl rfl rfl fun a hk => ?_
    show wpList _ _ _ [] _ _
    refine wpList_nil ?_
    refine hK37 _ _ ?_
    refine wp_ret ?_
    obtain rfl := Option.some.inj H
    exact fin hk _ [(.int .i64 u16)] rfl ⟨rfl, trivial⟩ ⟨_, rfl, ⟨o14, lh15⟩, (hs.pick [(0, 1)] rfl).dnil⟩

noncomputable def laws_heldEntryS.s0 (l0 : List S_Entry) (u6 : Int) (u7 : Int) : Option ((Int × Int) ⊕ Ex (Int) (Int)) :=
  (bif (decide (u7 < (l0.length : Int))) then (if 0 ≤ u7 ∧ u7 < (l0.length : Int) then (bif (((l0.getD u7.toNat z_Entry).Key) != u6) then (some (.inr (.ret (-1)))) else (if 0 ≤ u7 ∧ u7 < (l0.length : Int) then (bif (((l0.getD u7.toNat z_Entry).Value) != (w64 (u6 + 1))) then (some (.inr (.ret (-1)))) else (some (.inl ((w64 ((w64 (u6 + 1)) + 1)), (w64 (u7 + 1)))))) else none)) else none) else (some (.inr (.out u6))))
noncomputable def laws_heldEntryS.f (l0 : List S_Entry) (x1 : Int) : Option (Int) :=
  ((loopO (fun s => laws_heldEntryS.s0 l0 s.1 s.2) (x1, 0)).bind fun o => match o with | .out u8 => (some u8) | .ret r => (some r))
set_option maxRecDepth 100000 in
set_option maxHeartbeats 0 in
theorem laws_heldEntryS_t (w0 : World) (A0_ : Option Addr) (p0_ : Nat) (l0 : List S_Entry) (k0_ : Chunk) (v0_ : View L_Entry A0_ p0_ l0 k0_) (w0_ : Has w0 k0_) (x1 : Int) (r : Int) (H : laws_heldEntryS.f l0 x1 = some r) :
    Calls Try.prog 20 #[.slice A0_ l0.length p0_, .int .i64 x1] w0 (Ret (fun v w => v = .int .i64 r ∧ Sat [] w0 w [] [])) := by
  have hs : Sat [] w0 w0 [(1, k0_)] [] := Sat.init w0 [(1, k0_)] [] (by simp only [List.mem_cons, List.not_mem_nil, or_false]; rintro x (rfl) <;> assumption) (by simp) List.nodup_nil (by simp [blks])
  unfold laws_heldEntryS.f at H
  refine enter Try.func20 rfl Try.ntmps20 rfl fun a hk => ?_
  apply wp_seq_k; intro K1 hK1
  apply wp_region_lit
  refine sa _ rfl hk rfl rfl rfl fun a hk => ?_
  show wpList _ _ _ [] _ _
  refine wpList_nil ?_
  refine hK1 _ _ ?_
  apply wp_seq_k; intro K2 hK2
  apply wp_seq_k; intro K3 hK3
  apply wp_region_lit
  refine sa _ rfl hk rfl rfl rfl fun a hk => ?_
  show wpList _ _ _ [] _ _
  refine wpList_nil ?_
  refine hK3 _ _ ?_
  obtain ⟨o9, h10, HL11⟩ := bind_some H
  clear H
  obtain ⟨R12, hR12⟩ : ∃ R : Act → World → Prop, R = fun a w => ∃ (u8 : Int), o9 = .out u8 ∧ Kn [(1, (.int .i64 u8))] 31 a ∧ Sat [] w0 w [(1, k0_)] [] := ⟨_, rfl⟩
  refine wp_cutq R12 ?_ ?_
  · refine wp_block ?_
    obtain ⟨fu14, h10⟩ := loopO_some h10
    obtain ⟨I13, hI13⟩ : ∃ I : Nat → Act → World → Prop, I = fun fu a w => ∃ (u6 : Int) (u7 : Int), loopN (fun s => laws_heldEntryS.s0 l0 s.1 s.2) fu (u6, u7) = some o9 ∧ Kn [(0, (.slice A0_ l0.length p0_)), (1, (.int .i64 u6)), (5, (.int .i64 u7))] 31 a ∧ Sat [] w0 w [(1, k0_)] [] := ⟨_, rfl⟩
    refine wp_loop_ghost I13 fu14 ?_ ?_
    · rw [hI13]
      exact ⟨x1, 0, h10, (hk.c 0 rfl (hk.c 1 rfl (hk.c 5 rfl hk.k))), (hs.pick [] rfl)⟩
    · clear h10 hk hs
      intro fu14 a w hI0
      rw [hI13] at hI0
      obtain ⟨u6, u7, hi, hk, hs⟩ := hI0
      obtain ⟨x15, H, h16⟩ := loop_round hi
      try dsimp only at H
      unfold laws_heldEntryS.s0 at H
      apply wp_seq_k; intro K17 hK17
      apply wp_seq_k; intro K18 hK18
      apply wp_region_lit
      refine sm _ rfl hk rfl rfl rfl fun a hk => ?_
      refine sm _ rfl hk rfl rfl rfl fun a hk => ?_
      refine sle rfl hk rfl rfl rfl un26 fun a hk => ?_
      refine sv (.bool (decide (u7 < (l0.length : Int)))) hk rfl rfl rfl fun a hk => ?_
      show wpList _ _ _ [] _ _
      refine wpList_nil ?_
      refine hK18 _ _ ?_
      rcases cond_some H with ⟨c19, H⟩ | ⟨c19, H⟩
      · have hk := hk.lit 9 c19 rfl
        refine cnd_true hk rfl rfl ?_
        refine wp_skip ?_
        refine hK17 _ _ ?_
        apply wp_seq_k; intro K20 hK20
        refine wp_block ?_
        apply wp_seq_k; intro K21 hK21
        apply wp_seq_k; intro K22 hK22
        apply wp_region_lit
        refine sm _ rfl hk rfl rfl rfl fun a hk => ?_
        refine sm _ rfl hk rfl rfl rfl fun a hk => ?_
        rcases ite_some H with ⟨c23, H⟩ | ⟨_, H⟩
        rotate_left
        · cases H
        obtain ⟨b24, q25, hAc23⟩ := (v0_).some_ u7 c23.1 c23.2
        refine si rfl hk rfl rfl rfl rfl un26 sz62 c23.1 c23.2 hAc23 fun a hk => ?_
        refine sf (padd A0_ (u7.toNat * 2 + 0)) rfl hk rfl rfl rfl fd62_0 (padd_add _ _ _) fun a hk => ?_
        obtain ⟨_, rfl, e26⟩ := (v0_).at_ z_Entry u7 c23.1 c23.2
        refine sl (v := (.int .i64 ((l0.getD u7.toNat z_Entry).Key))) rfl hk rfl rfl rfl ag3 ((e26 0 _ rfl).cell (hs.hasD (k := 1) rfl)) fun a hk => ?_
        refine sm _ rfl hk rfl rfl rfl fun a hk => ?_
        refine sv (.bool (((l0.getD u7.toNat z_Entry).Key) != u6)) hk rfl rfl rfl fun a hk => ?_
        show wpList _ _ _ [] _ _
        refine wpList_nil ?_
        refine hK22 _ _ ?_
        rcases cond_some H with ⟨c27, H⟩ | ⟨c27, H⟩
        · have hk := hk.lit 18 c27 rfl
          refine cnd_true hk rfl rfl ?_
          apply wp_seq_k; intro K28 hK28
          apply wp_region_lit
          refine sa _ rfl hk rfl rfl rfl fun a hk => ?_
          show wpList _ _ _ [] _ _
          refine wpList_nil ?_
          refine hK28 _ _ ?_
          refine wp_ret ?_
          obtain rfl := Option.some.inj H
          have ho9 := h16
          try dsimp only at ho9
          subst ho9
          have H := HL11
          try dsimp only at H
          obtain rfl := Option.some.inj H
          exact fin hk _ [(.int .i64 (-1))] rfl ⟨rfl, trivial⟩ ⟨rfl, (hs.pick [] rfl).dnil⟩
        · have hk := hk.lit 18 c27 rfl
          refine cnd_false hk rfl rfl ?_
          refine wp_skip ?_
          refine hK21 _ _ ?_
          apply wp_seq_k; intro K29 hK29
          apply wp_region_lit
          refine sm _ rfl hk rfl rfl rfl fun a hk => ?_
          refine sv (.int .i64 (w64 (u6 + 1))) hk rfl rfl rfl fun a hk => ?_
          refine sa _ rfl hk rfl rfl rfl fun a hk => ?_
          show wpList _ _ _ [] _ _
          refine wpList_nil ?_
          refine hK29 _ _ ?_
          apply wp_seq_k; intro K30 hK30
          apply wp_seq_k; intro K31 hK31
          apply wp_region_lit
          refine sm _ rfl hk rfl rfl rfl fun a hk => ?_
          refine sm _ rfl hk rfl rfl rfl fun a hk => ?_
          rcases ite_some H with ⟨c32, H⟩ | ⟨_, H⟩
          rotate_left
          · cases H
          obtain ⟨b33, q34, hAc32⟩ := (v0_).some_ u7 c32.1 c32.2
          refine si rfl hk rfl rfl rfl rfl un26 sz62 c32.1 c32.2 hAc32 fun a hk => ?_
          refine sf (padd A0_ (u7.toNat * 2 + 1)) rfl hk rfl rfl rfl fd62_1 (padd_add _ _ _) fun a hk => ?_
          obtain ⟨_, rfl, e35⟩ := (v0_).at_ z_Entry u7 c32.1 c32.2
          refine sl (v := (.int .i64 ((l0.getD u7.toNat z_Entry).Value))) rfl hk rfl rfl rfl ag3 ((e35 1 _ rfl).cell (hs.hasD (k := 1) rfl)) fun a hk => ?_
          refine sm _ rfl hk rfl rfl rfl fun a hk => ?_
          refine sv (.bool (((l0.getD u7.toNat z_Entry).Value) != (w64 (u6 + 1)))) hk rfl rfl rfl fun a hk => ?_
          show wpList _ _ _ [] _ _
          refine wpList_nil ?_
          refine hK31 _ _ ?_
          rcases cond_some H with ⟨c36, H⟩ | ⟨c36, H⟩
          · have hk := hk.lit 27 c36 rfl
            refine cnd_true hk rfl rfl ?_
            apply wp_seq_k; intro K37 hK37
            apply wp_region_lit
            refine sa _ rfl hk rfl rfl rfl fun a hk => ?_
            show wpList _ _ _ [] _ _
            refine wpList_nil ?_
            refine hK37 _ _ ?_
            refine wp_ret ?_
            obtain rfl := Option.some.inj H
            have ho9 := h16
            try dsimp only at ho9
            subst ho9
            have H := HL11
            try dsimp only at H
            obtain rfl := Option.some.inj H
            exact fin hk _ [(.int .i64 (-1))] rfl ⟨rfl, trivial⟩ ⟨rfl, (hs.pick [] rfl).dnil⟩
          · have hk := hk.lit 27 c36 rfl
            refine cnd_false hk rfl rfl ?_
            refine wp_skip ?_
            refine hK30 _ _ ?_
            apply wp_region_lit
            refine sm _ rfl hk rfl rfl rfl fun a hk => ?_
            refine sv (.int .i64 (w64 ((w64 (u6 + 1)) + 1))) hk rfl rfl rfl fun a hk => ?_
            refine sa _ rfl hk rfl rfl rfl fun a hk => ?_
            show wpList _ _ _ [] _ _
            refine wpList_nil ?_
            refine hK20 _ _ ?_
            apply wp_region_lit
            refine sm _ rfl hk rfl rfl rfl fun a hk => ?_
            refine sv (.int .i64 (w64 (u7 + 1))) hk rfl rfl rfl fun a hk => ?_
            refine sa _ rfl hk rfl rfl rfl fun a hk => ?_
            show wpList _ _ _ [] _ _
            refine wpList_nil ?_
            obtain rfl := Option.some.inj H
            obtain ⟨m38, hmm38, h16⟩ := h16
            show ∃ n', n' < _ ∧ I13 n' _ _
            refine ⟨m38, hmm38, ?_⟩
            rw [hI13]
            exact ⟨(w64 ((w64 (u6 + 1)) + 1)), (w64 (u7 + 1)), h16, (hk.c 0 rfl (hk.c 1 rfl (hk.c 5 rfl hk.k))), (hs.pick [] rfl)⟩
      · have hk := hk.lit 9 c19 rfl
        refine cnd_false hk rfl rfl ?_
        refine wp_exit ?_
        obtain rfl := Option.some.inj H
        show R12 _ _
        rw [hR12]
        exact ⟨u6, h16.symm, (hk.c 1 rfl hk.k), (hs.pick [] rfl)⟩
  · intro a w hR0
    rw [hR12] at hR0
    obtain ⟨u8, rfl, hk, hs⟩ := hR0
    have H := HL11
    try dsimp only at H
    refine hK2 _ _ ?_
    apply wp_seq_k; intro K39 hK39
    apply wp_region_lit
    refine sm _ rfl hk rfl rfl rfl fun a hk => ?_
    refine sa _ rfl hk rfl rfl rfl fun a hk => ?_
    show wpList _ _ _ [] _ _
    refine wpList_nil ?_
    refine hK39 _ _ ?_
    refine wp_ret ?_
    obtain rfl := Option.some.inj H
    exact fin hk _ [(.int .i64 u8)] rfl ⟨rfl, trivial⟩ ⟨rfl, (hs.pick [] rfl).dnil⟩

noncomputable def laws_heldIntS.s0 (l0 : List Int) (u6 : Int) (u7 : Int) : Option ((Int × Int) ⊕ Ex (Int) (Int)) :=
  (bif (decide (u7 < (l0.length : Int))) then (if 0 ≤ u7 ∧ u7 < (l0.length : Int) then (bif ((l0.getD u7.toNat 0) != u6) then (some (.inr (.ret (-1)))) else (some (.inl ((w64 (u6 + 1)), (w64 (u7 + 1)))))) else none) else (some (.inr (.out u6))))
noncomputable def laws_heldIntS.f (l0 : List Int) (x1 : Int) : Option (Int) :=
  ((loopO (fun s => laws_heldIntS.s0 l0 s.1 s.2) (x1, 0)).bind fun o => match o with | .out u8 => (some u8) | .ret r => (some r))
set_option maxRecDepth 100000 in
set_option maxHeartbeats 0 in
theorem laws_heldIntS_t (w0 : World) (A0_ : Option Addr) (p0_ : Nat) (l0 : List Int) (k0_ : Chunk) (v0_ : View (Lay.int .i64) A0_ p0_ l0 k0_) (w0_ : Has w0 k0_) (x1 : Int) (r : Int) (H : laws_heldIntS.f l0 x1 = some r) :
    Calls Try.prog 21 #[.slice A0_ l0.length p0_, .int .i64 x1] w0 (Ret (fun v w => v = .int .i64 r ∧ Sat [] w0 w [] [])) := by
  have hs : Sat [] w0 w0 [(1, k0_)] [] := Sat.init w0 [(1, k0_)] [] (by simp only [List.mem_cons, List.not_mem_nil, or_false]; rintro x (rfl) <;> assumption) (by simp) List.nodup_nil (by simp [blks])
  unfold laws_heldIntS.f at H
  refine enter Try.func21 rfl Try.ntmps21 rfl fun a hk => ?_
  apply wp_seq_k; intro K1 hK1
  apply wp_region_lit
  refine sa _ rfl hk rfl rfl rfl fun a hk => ?_
  show wpList _ _ _ [] _ _
  refine wpList_nil ?_
  refine hK1 _ _ ?_
  apply wp_seq_k; intro K2 hK2
  apply wp_seq_k; intro K3 hK3
  apply wp_region_lit
  refine sa _ rfl hk rfl rfl rfl fun a hk => ?_
  show wpList _ _ _ [] _ _
  refine wpList_nil ?_
  refine hK3 _ _ ?_
  obtain ⟨o9, h10, HL11⟩ := bind_some H
  clear H
  obtain ⟨R12, hR12⟩ : ∃ R : Act → World → Prop, R = fun a w => ∃ (u8 : Int), o9 = .out u8 ∧ Kn [(1, (.int .i64 u8))] 21 a ∧ Sat [] w0 w [(1, k0_)] [] := ⟨_, rfl⟩
  refine wp_cutq R12 ?_ ?_
  · refine wp_block ?_
    obtain ⟨fu14, h10⟩ := loopO_some h10
    obtain ⟨I13, hI13⟩ : ∃ I : Nat → Act → World → Prop, I = fun fu a w => ∃ (u6 : Int) (u7 : Int), loopN (fun s => laws_heldIntS.s0 l0 s.1 s.2) fu (u6, u7) = some o9 ∧ Kn [(0, (.slice A0_ l0.length p0_)), (1, (.int .i64 u6)), (5, (.int .i64 u7))] 21 a ∧ Sat [] w0 w [(1, k0_)] [] := ⟨_, rfl⟩
    refine wp_loop_ghost I13 fu14 ?_ ?_
    · rw [hI13]
      exact ⟨x1, 0, h10, (hk.c 0 rfl (hk.c 1 rfl (hk.c 5 rfl hk.k))), (hs.pick [] rfl)⟩
    · clear h10 hk hs
      intro fu14 a w hI0
      rw [hI13] at hI0
      obtain ⟨u6, u7, hi, hk, hs⟩ := hI0
      obtain ⟨x15, H, h16⟩ := loop_round hi
      try dsimp only at H
      unfold laws_heldIntS.s0 at H
      apply wp_seq_k; intro K17 hK17
      apply wp_seq_k; intro K18 hK18
      apply wp_region_lit
      refine sm _ rfl hk rfl rfl rfl fun a hk => ?_
      refine sm _ rfl hk rfl rfl rfl fun a hk => ?_
      refine sle rfl hk rfl rfl rfl un27 fun a hk => ?_
      refine sv (.bool (decide (u7 < (l0.length : Int)))) hk rfl rfl rfl fun a hk => ?_
      show wpList _ _ _ [] _ _
      refine wpList_nil ?_
      refine hK18 _ _ ?_
      rcases cond_some H with ⟨c19, H⟩ | ⟨c19, H⟩
      · have hk := hk.lit 9 c19 rfl
        refine cnd_true hk rfl rfl ?_
        refine wp_skip ?_
        refine hK17 _ _ ?_
        apply wp_seq_k; intro K20 hK20
        refine wp_block ?_
        apply wp_seq_k; intro K21 hK21
        apply wp_seq_k; intro K22 hK22
        apply wp_region_lit
        refine sm _ rfl hk rfl rfl rfl fun a hk => ?_
        refine sm _ rfl hk rfl rfl rfl fun a hk => ?_
        rcases ite_some H with ⟨c23, H⟩ | ⟨_, H⟩
        rotate_left
        · cases H
        obtain ⟨b24, q25, hAc23⟩ := (v0_).some_ u7 c23.1 c23.2
        refine si rfl hk rfl rfl rfl rfl un27 sz3 c23.1 c23.2 hAc23 fun a hk => ?_
        obtain ⟨_, rfl, e26⟩ := (v0_).at_ 0 u7 c23.1 c23.2
        refine sl (v := (.int .i64 (l0.getD u7.toNat 0))) rfl hk rfl rfl rfl ag3 ((e26 0 _ rfl).cell (hs.hasD (k := 1) rfl)) fun a hk => ?_
        refine sm _ rfl hk rfl rfl rfl fun a hk => ?_
        refine sv (.bool ((l0.getD u7.toNat 0) != u6)) hk rfl rfl rfl fun a hk => ?_
        show wpList _ _ _ [] _ _
        refine wpList_nil ?_
        refine hK22 _ _ ?_
        rcases cond_some H with ⟨c27, H⟩ | ⟨c27, H⟩
        · have hk := hk.lit 17 c27 rfl
          refine cnd_true hk rfl rfl ?_
          apply wp_seq_k; intro K28 hK28
          apply wp_region_lit
          refine sa _ rfl hk rfl rfl rfl fun a hk => ?_
          show wpList _ _ _ [] _ _
          refine wpList_nil ?_
          refine hK28 _ _ ?_
          refine wp_ret ?_
          obtain rfl := Option.some.inj H
          have ho9 := h16
          try dsimp only at ho9
          subst ho9
          have H := HL11
          try dsimp only at H
          obtain rfl := Option.some.inj H
          exact fin hk _ [(.int .i64 (-1))] rfl ⟨rfl, trivial⟩ ⟨rfl, (hs.pick [] rfl).dnil⟩
        · have hk := hk.lit 17 c27 rfl
          refine cnd_false hk rfl rfl ?_
          refine wp_skip ?_
          refine hK21 _ _ ?_
          apply wp_region_lit
          refine sm _ rfl hk rfl rfl rfl fun a hk => ?_
          refine sv (.int .i64 (w64 (u6 + 1))) hk rfl rfl rfl fun a hk => ?_
          refine sa _ rfl hk rfl rfl rfl fun a hk => ?_
          show wpList _ _ _ [] _ _
          refine wpList_nil ?_
          refine hK20 _ _ ?_
          apply wp_region_lit
          refine sm _ rfl hk rfl rfl rfl fun a hk => ?_
          refine sv (.int .i64 (w64 (u7 + 1))) hk rfl rfl rfl fun a hk => ?_
          refine sa _ rfl hk rfl rfl rfl fun a hk => ?_
          show wpList _ _ _ [] _ _
          refine wpList_nil ?_
          obtain rfl := Option.some.inj H
          obtain ⟨m29, hmm29, h16⟩ := h16
          show ∃ n', n' < _ ∧ I13 n' _ _
          refine ⟨m29, hmm29, ?_⟩
          rw [hI13]
          exact ⟨(w64 (u6 + 1)), (w64 (u7 + 1)), h16, (hk.c 0 rfl (hk.c 1 rfl (hk.c 5 rfl hk.k))), (hs.pick [] rfl)⟩
      · have hk := hk.lit 9 c19 rfl
        refine cnd_false hk rfl rfl ?_
        refine wp_exit ?_
        obtain rfl := Option.some.inj H
        show R12 _ _
        rw [hR12]
        exact ⟨u6, h16.symm, (hk.c 1 rfl hk.k), (hs.pick [] rfl)⟩
  · intro a w hR0
    rw [hR12] at hR0
    obtain ⟨u8, rfl, hk, hs⟩ := hR0
    have H := HL11
    try dsimp only at H
    refine hK2 _ _ ?_
    apply wp_seq_k; intro K30 hK30
    apply wp_region_lit
    refine sm _ rfl hk rfl rfl rfl fun a hk => ?_
    refine sa _ rfl hk rfl rfl rfl fun a hk => ?_
    show wpList _ _ _ [] _ _
    refine wpList_nil ?_
    refine hK30 _ _ ?_
    refine wp_ret ?_
    obtain rfl := Option.some.inj H
    exact fin hk _ [(.int .i64 u8)] rfl ⟨rfl, trivial⟩ ⟨rfl, (hs.pick [] rfl).dnil⟩

noncomputable def laws_FnExactMapDo.f (l0 : List S_Entry) (x1 : S_Op) : Option (Bool) :=
  ((laws_szEntryS.f l0 1048576).bind fun y5 => (bif (decide (y5 < 0)) then (some true) else ((laws_toEntryS.f l0).bind fun y13 => ((laws_toOp.f x1).bind fun y19 => ((spec_MapDo.f y13 y19).bind fun y21 => ((laws_toEntryS.f l0).bind fun y32 => ((laws_toOp.f x1).bind fun y39 => ((impl_MapDo.f y32 y39).bind fun y41 => ((((laws_eqEntryS.f y41.1 y21.1).bind fun y59 => (bif (!y59) then (some true) else ((laws_eqIntS.f y41.2.1 y21.2.1).bind fun y62 => (bif (!y62) then (some true) else (some (y41.2.2 != y21.2.2)))))) : Option (Bool)).bind fun u54 => (bif u54 then (some false) else ((laws_toEntryS.f l0).bind fun y69 => ((laws_eqEntryS.f y32 y69).bind fun y75 => (bif (!y75) then (some false) else ((laws_markEntryS.f y32 1).bind fun y81 => (((bif (decide (y81.1 < 0)) then (some true) else ((laws_eqEntryS.f y41.1 y21.1).bind fun y96 => (bif (!y96) then (some true) else ((laws_eqIntS.f y41.2.1 y21.2.1).bind fun y99 => (bif (!y99) then (some true) else (some (y41.2.2 != y21.2.2))))))) : Option (Bool)).bind fun u90 => (bif u90 then (some false) else ((laws_markEntryS.f y41.1 1).bind fun y106 => ((laws_markIntS.f y41.2.1 y106.1).bind fun y113 => ((laws_heldEntryS.f y106.2 1).bind fun y121 => (bif (decide (y121 < 0)) then (some false) else ((laws_heldIntS.f y113.2 y121).bind fun y128 => (bif (decide (y128 < 0)) then (some false) else (bif (y128 != y113.1) then (some false) else ((laws_toEntryS.f l0).bind fun y140 => ((laws_toOp.f x1).bind fun y146 => ((impl_MapDo.f y140 y146).bind fun y148 => ((((laws_eqEntryS.f y148.1 y21.1).bind fun y166 => (bif (!y166) then (some true) else ((laws_eqIntS.f y148.2.1 y21.2.1).bind fun y169 => (bif (!y169) then (some true) else (some (y148.2.2 != y21.2.2)))))) : Option (Bool)).bind fun u161 => (bif u161 then (some false) else ((laws_heldEntryS.f y106.2 1).bind fun y176 => (bif (decide (y176 < 0)) then (some false) else ((laws_heldIntS.f y113.2 y176).bind fun y183 => (bif (decide (y183 < 0)) then (some false) else (bif (y183 != y113.1) then (some false) else (some true))))))))))))))))))))))))))))))))))
set_option maxRecDepth 100000 in
set_option maxHeartbeats 0 in
theorem laws_FnExactMapDo_t (w0 : World) (A0_ : Option Addr) (p0_ : Nat) (l0 : List S_Entry) (k0_ : Chunk) (v0_ : View L_Entry A0_ p0_ l0 k0_) (w0_ : Has w0 k0_) (x1 : S_Op) (r : Bool) (H : laws_FnExactMapDo.f l0 x1 = some r) :
    Calls Try.prog 3 #[.slice A0_ l0.length p0_, .agg #[.int .i64 x1.Kind, .int .i64 x1.Key, .int .i64 x1.Value]] w0 (Ret (fun v w => v = .bool r ∧ Sat [] w0 w [] [])) := by
  have hs : Sat [] w0 w0 [(1, k0_)] [] := Sat.init w0 [(1, k0_)] [] (by simp only [List.mem_cons, List.not_mem_nil, or_false]; rintro x (rfl) <;> assumption) (by simp) List.nodup_nil (by simp [blks])
  unfold laws_FnExactMapDo.f at H
  refine enter Try.func3 rfl Try.ntmps3 rfl fun a hk => ?_
  apply wp_seq_k; intro K1 hK1
  apply wp_region_lit
  refine sbx 2 hs rfl hk rfl rfl rfl rfl fun b2 w a hk hs => ?_
  refine sa _ rfl hk rfl rfl rfl fun a hk => ?_
  show wpList _ _ _ [] _ _
  refine wpList_nil ?_
  refine hK1 _ _ ?_
  apply wp_seq_k; intro K3 hK3
  apply wp_region_lit
  refine sa _ rfl hk rfl rfl rfl fun a hk => ?_
  show wpList _ _ _ [] _ _
  refine wpList_nil ?_
  refine hK3 _ _ ?_
  apply wp_seq_k; intro K4 hK4
  apply wp_region_lit
  refine sm _ rfl hk rfl rfl rfl fun a hk => ?_
  refine sm _ rfl hk rfl rfl rfl fun a hk => ?_
  obtain ⟨y5, h6, H⟩ := bind_some H
  refine sc rfl en11 hk rfl rfl rfl (laws_szEntryS_t _ A0_ p0_ l0 _ v0_ (hs.hasD (k := 1) rfl) 1048576 _ h6) ?_
  rintro _ w ⟨rfl, hG⟩ a hk
  have hs := hs.call0 hG
  refine sa _ rfl hk rfl rfl rfl fun a hk => ?_
  show wpList _ _ _ [] _ _
  refine wpList_nil ?_
  refine hK4 _ _ ?_
  apply wp_seq_k; intro K7 hK7
  apply wp_seq_k; intro K8 hK8
  apply wp_region_lit
  refine sm _ rfl hk rfl rfl rfl fun a hk => ?_
  refine sv (.bool (decide (y5 < 0))) hk rfl rfl rfl fun a hk => ?_
  show wpList _ _ _ [] _ _
  refine wpList_nil ?_
  refine hK8 _ _ ?_
  rcases cond_some H with ⟨c9, H⟩ | ⟨c9, H⟩
  · have hk := hk.lit 23 c9 rfl
    refine cnd_true hk rfl rfl ?_
    apply wp_seq_k; intro K10 hK10
    apply wp_region_lit
    refine sa _ rfl hk rfl rfl rfl fun a hk => ?_
    show wpList _ _ _ [] _ _
    refine wpList_nil ?_
    refine hK10 _ _ ?_
    refine wp_ret ?_
    obtain rfl := Option.some.inj H
    exact fin hk _ [(.bool true)] rfl ⟨rfl, trivial⟩ ⟨rfl, (hs.pick [] rfl).dnil⟩
  · have hk := hk.lit 23 c9 rfl
    refine cnd_false hk rfl rfl ?_
    refine wp_skip ?_
    refine hK7 _ _ ?_
    apply wp_seq_k; intro K11 hK11
    refine wp_region_tree (.q 0 (.q 2 (.alt 1 (.alt 3 (.alt 4 (.alt 5 (.q 6 (.q 7 (.q 8 (.alt 9 (.alt 10 (.last 11) .stop) .stop)))) .stop) .stop) .stop) .stop))) mo (by kernel_rfl) (hs.pick [(2, 2)] rfl) fun _ => ?_
    have hs := hs.drew
    refine tqst (.slice A0_ l0.length p0_) hk rfl rfl rfl rfl (fun w hs => sm _ rfl hk rfl rfl rfl fun a hk => qe hk) fun a hk => ?_
    refine tqst (.agg #[.int .i64 x1.Kind, .int .i64 x1.Key, .int .i64 x1.Value]) hk rfl rfl rfl rfl (fun w hs => sln [.int .i64 x1.Kind, .int .i64 x1.Key, .int .i64 x1.Value] rfl hk rfl rfl rfl ag24 sz24 (box_cells hs (k := 2) rfl) fun a hk => qe hk) fun a hk => ?_
    refine tsst hk rfl rfl (fun K_r12_1 hK_r12_1 w hF => ?_) wt_stop
    have hs := hs.f hF
    obtain ⟨y13, h14, H⟩ := bind_some H
    refine sc rfl en13 hk rfl rfl rfl (laws_toEntryS_t _ A0_ p0_ l0 _ v0_ (hs.hasD (k := 1) rfl) _ h14) ?_
    rintro _ w ⟨A15, p16, k17, rfl, o18, hG⟩ a hk
    have hs := hs.call0k hG [4] rfl
    refine se (hs.pick [(2, 2)] rfl) hk (hK_r12_1 _ _ ?_)
    refine tsst hk rfl rfl (fun K_r12_3 hK_r12_3 w hF => ?_) wt_stop
    have hs := hs.f hF
    obtain ⟨y19, h20, H⟩ := bind_some H
    refine sc rfl en14 hk rfl rfl rfl (laws_toOp_t _ x1 _ h20) ?_
    rintro _ w ⟨rfl, hG⟩ a hk
    have hs := hs.call0 hG
    refine se (hs.pick [(2, 2)] rfl) hk (hK_r12_3 _ _ ?_)
    refine tsst hk rfl rfl (fun K_r12_4 hK_r12_4 w hF => ?_) wt_stop
    have hs := hs.f hF
    obtain ⟨y21, h22, H⟩ := bind_some H
    refine sc rfl en12 hk rfl rfl rfl (spec_MapDo_t _ A15 p16 y13 _ o18.view (hs.hasG (k := 4) rfl) y19 _ h22) ?_
    rintro _ w ⟨A23, p24, k25, A27, p28, k29, rfl, o26, o30, hG⟩ a hk
    have hs := hs.call0k hG [5, 6] rfl
    refine se (hs.pick [(2, 2)] rfl) hk (hK_r12_4 _ _ ?_)
    refine tsst hk rfl rfl (fun K_r12_5 hK_r12_5 w hF => ?_) wt_stop
    have hs := hs.f hF
    refine sm _ rfl hk rfl rfl rfl fun a hk => ?_
    refine se (hs.pick [(2, 2)] rfl) hk (hK_r12_5 _ _ ?_)
    refine tqst (.slice A23 y21.1.length p24) hk rfl rfl rfl rfl (fun w hs => sv (.slice A23 y21.1.length p24) hk rfl rfl rfl fun a hk => qe hk) fun a hk => ?_
    refine tqst (.slice A27 y21.2.1.length p28) hk rfl rfl rfl rfl (fun w hs => sv (.slice A27 y21.2.1.length p28) hk rfl rfl rfl fun a hk => qe hk) fun a hk => ?_
    refine tqst (.int .i64 y21.2.2) hk rfl rfl rfl rfl (fun w hs => sv (.int .i64 y21.2.2) hk rfl rfl rfl fun a hk => qe hk) fun a hk => ?_
    refine tsst hk rfl rfl (fun K_r12_9 hK_r12_9 w hF => ?_) wt_stop
    have hs := hs.f hF
    refine sa _ rfl hk rfl rfl rfl fun a hk => ?_
    refine se (hs.pick [(2, 2)] rfl) hk (hK_r12_9 _ _ ?_)
    refine tsst hk rfl rfl (fun K_r12_10 hK_r12_10 w hF => ?_) wt_stop
    have hs := hs.f hF
    refine sa _ rfl hk rfl rfl rfl fun a hk => ?_
    refine se (hs.pick [(2, 2)] rfl) hk (hK_r12_10 _ _ ?_)
    refine tlst hk rfl rfl fun K_r12_11 hK_r12_11 w hF => ?_
    have hs := hs.f hF
    refine sa _ rfl hk rfl rfl rfl fun a hk => ?_
    refine se trivial hk (hK_r12_11 _ _ fun w hF => ?_)
    have hs := hs.f hF
    refine hK11 _ _ ?_
    apply wp_seq_k; intro K31 hK31
    apply wp_region_lit
    refine sm _ rfl hk rfl rfl rfl fun a hk => ?_
    obtain ⟨y32, h33, H⟩ := bind_some H
    refine sc rfl en13 hk rfl rfl rfl (laws_toEntryS_t _ A0_ p0_ l0 _ v0_ (hs.hasD (k := 1) rfl) _ h33) ?_
    rintro _ w ⟨A34, p35, k36, rfl, o37, hG⟩ a hk
    have hs := hs.call0k hG [7] rfl
    refine sa _ rfl hk rfl rfl rfl fun a hk => ?_
    show wpList _ _ _ [] _ _
    refine wpList_nil ?_
    refine hK31 _ _ ?_
    apply wp_seq_k; intro K38 hK38
    apply wp_region_lit
    refine sm _ rfl hk rfl rfl rfl fun a hk => ?_
    refine sln [.int .i64 x1.Kind, .int .i64 x1.Key, .int .i64 x1.Value] rfl hk rfl rfl rfl ag24 sz24 (box_cells hs (k := 2) rfl) fun a hk => ?_
    obtain ⟨y39, h40, H⟩ := bind_some H
    refine sc rfl en14 hk rfl rfl rfl (laws_toOp_t _ x1 _ h40) ?_
    rintro _ w ⟨rfl, hG⟩ a hk
    have hs := hs.call0 hG
    obtain ⟨y41, h42, H⟩ := bind_some H
    refine sc rfl en15 hk rfl rfl rfl (impl_MapDo_t _ A34 p35 y32 _ o37.view (hs.hasG (k := 7) rfl) y39 _ h42) ?_
    rintro _ w ⟨A43, p44, k45, A47, p48, k49, rfl, o46, o50, hG⟩ a hk
    have hs := hs.call0k hG [8, 9] rfl
    refine sm _ rfl hk rfl rfl rfl fun a hk => ?_
    refine sv (.slice A43 y41.1.length p44) hk rfl rfl rfl fun a hk => ?_
    refine sv (.slice A47 y41.2.1.length p48) hk rfl rfl rfl fun a hk => ?_
    refine sv (.int .i64 y41.2.2) hk rfl rfl rfl fun a hk => ?_
    refine sa _ rfl hk rfl rfl rfl fun a hk => ?_
    refine sa _ rfl hk rfl rfl rfl fun a hk => ?_
    refine sa _ rfl hk rfl rfl rfl fun a hk => ?_
    show wpList _ _ _ [] _ _
    refine wpList_nil ?_
    refine hK38 _ _ ?_
    apply wp_seq_k; intro K51 hK51
    apply wp_seq_k; intro K52 hK52
    obtain ⟨o55, h56, HL57⟩ := bind_some H
    clear H
    obtain ⟨R58, hR58⟩ : ∃ R : Act → World → Prop, R = fun a w => ∃ (u54 : Bool), u54 = o55 ∧ Kn [(0, (.slice A0_ l0.length p0_)), (3, (.pointer (some ⟨b2, 0, none⟩))), (6, (.slice A23 y21.1.length p24)), (7, (.slice A27 y21.2.1.length p28)), (8, (.int .i64 y21.2.2)), (9, (.slice A34 y32.length p35)), (10, (.slice A43 y41.1.length p44)), (11, (.slice A47 y41.2.1.length p48)), (12, (.int .i64 y41.2.2)), (57, (.bool u54))] 141 a ∧ Sat [] w0 w [(1, k0_)] [(5, k25), (6, k29), (7, k36), (8, k45), (9, k49), (2, [(b2, .cells #[.int .i64 x1.Kind, .int .i64 x1.Key, .int .i64 x1.Value] 24 (0, 0))])] := ⟨_, rfl⟩
    refine wp_cutq R58 ?_ ?_
    · have H := h56
      apply wp_region_lit
      refine sm _ rfl hk rfl rfl rfl fun a hk => ?_
      refine sm _ rfl hk rfl rfl rfl fun a hk => ?_
      obtain ⟨y59, h60, H⟩ := bind_some H
      refine sc rfl en16 hk rfl rfl rfl (laws_eqEntryS_t _ A43 p44 y41.1 _ o46.view (hs.hasG (k := 8) rfl) A23 p24 y21.1 _ o26.view (hs.hasG (k := 5) rfl) _ h60) ?_
      rintro _ w ⟨rfl, hG⟩ a hk
      have hs := hs.call0 hG
      refine sv (.bool (!y59)) hk rfl rfl rfl fun a hk => ?_
      refine sm _ rfl hk rfl rfl rfl fun a hk => ?_
      rcases cond_some H with ⟨c61, H⟩ | ⟨c61, H⟩
      · have hk := hk.lit 47 c61 rfl
        refine sk hk rfl rfl rfl fun a hk => ?_
        refine sk hk rfl rfl rfl fun a hk => ?_
        refine sk hk rfl rfl rfl fun a hk => ?_
        refine sk hk rfl rfl rfl fun a hk => ?_
        refine sv (.bool true) hk rfl rfl rfl fun a hk => ?_
        refine sm _ rfl hk rfl rfl rfl fun a hk => ?_
        refine sk hk rfl rfl rfl fun a hk => ?_
        refine sk hk rfl rfl rfl fun a hk => ?_
        refine sk hk rfl rfl rfl fun a hk => ?_
        refine sv (.bool true) hk rfl rfl rfl fun a hk => ?_
        show wpList _ _ _ [] _ _
        refine wpList_nil ?_
        obtain rfl := Option.some.inj H
        show R58 _ _
        rw [hR58]
        exact ⟨true, rfl, (hk.c 0 rfl (hk.c 3 rfl (hk.c 6 rfl (hk.c 7 rfl (hk.c 8 rfl (hk.c 9 rfl (hk.c 10 rfl (hk.c 11 rfl (hk.c 12 rfl (hk.c 57 rfl hk.k)))))))))), (hs.pick [(5, 5), (6, 6), (7, 7), (8, 8), (9, 9), (2, 2)] rfl)⟩
      · have hk := hk.lit 47 c61 rfl
        refine sm _ rfl hk rfl rfl rfl fun a hk => ?_
        refine sm _ rfl hk rfl rfl rfl fun a hk => ?_
        obtain ⟨y62, h63, H⟩ := bind_some H
        refine sc rfl en17 hk rfl rfl rfl (laws_eqIntS_t _ A47 p48 y41.2.1 _ o50.view (hs.hasG (k := 9) rfl) A27 p28 y21.2.1 _ o30.view (hs.hasG (k := 6) rfl) _ h63) ?_
        rintro _ w ⟨rfl, hG⟩ a hk
        have hs := hs.call0 hG
        refine sv (.bool (!y62)) hk rfl rfl rfl fun a hk => ?_
        refine sv (.bool (!y62)) hk rfl rfl rfl fun a hk => ?_
        refine sm _ rfl hk rfl rfl rfl fun a hk => ?_
        rcases cond_some H with ⟨c64, H⟩ | ⟨c64, H⟩
        · have hk := hk.lit 53 c64 rfl
          refine sk hk rfl rfl rfl fun a hk => ?_
          refine sk hk rfl rfl rfl fun a hk => ?_
          refine sk hk rfl rfl rfl fun a hk => ?_
          refine sv (.bool true) hk rfl rfl rfl fun a hk => ?_
          show wpList _ _ _ [] _ _
          refine wpList_nil ?_
          obtain rfl := Option.some.inj H
          show R58 _ _
          rw [hR58]
          exact ⟨true, rfl, (hk.c 0 rfl (hk.c 3 rfl (hk.c 6 rfl (hk.c 7 rfl (hk.c 8 rfl (hk.c 9 rfl (hk.c 10 rfl (hk.c 11 rfl (hk.c 12 rfl (hk.c 57 rfl hk.k)))))))))), (hs.pick [(5, 5), (6, 6), (7, 7), (8, 8), (9, 9), (2, 2)] rfl)⟩
        · have hk := hk.lit 53 c64 rfl
          refine sm _ rfl hk rfl rfl rfl fun a hk => ?_
          refine sm _ rfl hk rfl rfl rfl fun a hk => ?_
          refine sv (.bool (y41.2.2 != y21.2.2)) hk rfl rfl rfl fun a hk => ?_
          refine sv (.bool (y41.2.2 != y21.2.2)) hk rfl rfl rfl fun a hk => ?_
          show wpList _ _ _ [] _ _
          refine wpList_nil ?_
          obtain rfl := Option.some.inj H
          show R58 _ _
          rw [hR58]
          exact ⟨(y41.2.2 != y21.2.2), rfl, (hk.c 0 rfl (hk.c 3 rfl (hk.c 6 rfl (hk.c 7 rfl (hk.c 8 rfl (hk.c 9 rfl (hk.c 10 rfl (hk.c 11 rfl (hk.c 12 rfl (hk.c 57 rfl hk.k)))))))))), (hs.pick [(5, 5), (6, 6), (7, 7), (8, 8), (9, 9), (2, 2)] rfl)⟩
    · intro a w hR0
      rw [hR58] at hR0
      obtain ⟨u54, rfl, hk, hs⟩ := hR0
      have H := HL57
      try dsimp only at H
      refine hK52 _ _ ?_
      rcases cond_some H with ⟨c65, H⟩ | ⟨c65, H⟩
      · have hk := hk.lit 57 c65 rfl
        refine cnd_true hk rfl rfl ?_
        apply wp_seq_k; intro K66 hK66
        apply wp_region_lit
        refine sa _ rfl hk rfl rfl rfl fun a hk => ?_
        show wpList _ _ _ [] _ _
        refine wpList_nil ?_
        refine hK66 _ _ ?_
        refine wp_ret ?_
        obtain rfl := Option.some.inj H
        exact fin hk _ [(.bool false)] rfl ⟨rfl, trivial⟩ ⟨rfl, (hs.pick [] rfl).dnil⟩
      · have hk := hk.lit 57 c65 rfl
        refine cnd_false hk rfl rfl ?_
        refine wp_skip ?_
        refine hK51 _ _ ?_
        apply wp_seq_k; intro K67 hK67
        apply wp_seq_k; intro K68 hK68
        apply wp_region_lit
        refine sm _ rfl hk rfl rfl rfl fun a hk => ?_
        refine sm _ rfl hk rfl rfl rfl fun a hk => ?_
        obtain ⟨y69, h70, H⟩ := bind_some H
        refine sc rfl en13 hk rfl rfl rfl (laws_toEntryS_t _ A0_ p0_ l0 _ v0_ (hs.hasD (k := 1) rfl) _ h70) ?_
        rintro _ w ⟨A71, p72, k73, rfl, o74, hG⟩ a hk
        have hs := hs.call0k hG [11] rfl
        obtain ⟨y75, h76, H⟩ := bind_some H
        refine sc rfl en16 hk rfl rfl rfl (laws_eqEntryS_t _ A34 p35 y32 _ o37.view (hs.hasG (k := 7) rfl) A71 p72 y69 _ o74.view (hs.hasG (k := 11) rfl) _ h76) ?_
        rintro _ w ⟨rfl, hG⟩ a hk
        have hs := hs.call0 hG
        refine sv (.bool (!y75)) hk rfl rfl rfl fun a hk => ?_
        show wpList _ _ _ [] _ _
        refine wpList_nil ?_
        refine hK68 _ _ ?_
        rcases cond_some H with ⟨c77, H⟩ | ⟨c77, H⟩
        · have hk := hk.lit 62 c77 rfl
          refine cnd_true hk rfl rfl ?_
          apply wp_seq_k; intro K78 hK78
          apply wp_region_lit
          refine sa _ rfl hk rfl rfl rfl fun a hk => ?_
          show wpList _ _ _ [] _ _
          refine wpList_nil ?_
          refine hK78 _ _ ?_
          refine wp_ret ?_
          obtain rfl := Option.some.inj H
          exact fin hk _ [(.bool false)] rfl ⟨rfl, trivial⟩ ⟨rfl, (hs.pick [] rfl).dnil⟩
        · have hk := hk.lit 62 c77 rfl
          refine cnd_false hk rfl rfl ?_
          refine wp_skip ?_
          refine hK67 _ _ ?_
          apply wp_seq_k; intro K79 hK79
          apply wp_region_lit
          refine sa _ rfl hk rfl rfl rfl fun a hk => ?_
          show wpList _ _ _ [] _ _
          refine wpList_nil ?_
          refine hK79 _ _ ?_
          apply wp_seq_k; intro K80 hK80
          apply wp_region_lit
          refine sm _ rfl hk rfl rfl rfl fun a hk => ?_
          refine sm _ rfl hk rfl rfl rfl fun a hk => ?_
          obtain ⟨y81, h82, H⟩ := bind_some H
          refine sc rfl en18 hk rfl rfl rfl (laws_markEntryS_t _ A34 p35 y32 _ o37 1 ((hs.hand [(1, 7)] rfl).dpick [] rfl) _ h82) ?_
          rintro _ w ⟨k83, rfl, ⟨o84, lh85⟩, hG⟩ a hk
          have hs := hs.back [(1, 7)] rfl hG [7] rfl
          have lh86 : y81.2.length = y32.length := lh85
          refine sa _ rfl hk rfl rfl rfl fun a hk => ?_
          show wpList _ _ _ [] _ _
          refine wpList_nil ?_
          refine hK80 _ _ ?_
          apply wp_seq_k; intro K87 hK87
          apply wp_seq_k; intro K88 hK88
          obtain ⟨o91, h92, HL93⟩ := bind_some H
          clear H
          obtain ⟨R94, hR94⟩ : ∃ R : Act → World → Prop, R = fun a w => ∃ (u90 : Bool), u90 = o91 ∧ Kn [(0, (.slice A0_ l0.length p0_)), (3, (.pointer (some ⟨b2, 0, none⟩))), (6, (.slice A23 y21.1.length p24)), (7, (.slice A27 y21.2.1.length p28)), (8, (.int .i64 y21.2.2)), (10, (.slice A43 y41.1.length p44)), (11, (.slice A47 y41.2.1.length p48)), (84, (.bool u90))] 141 a ∧ Sat [] w0 w [(1, k0_)] [(5, k25), (6, k29), (8, k45), (9, k49), (2, [(b2, .cells #[.int .i64 x1.Kind, .int .i64 x1.Key, .int .i64 x1.Value] 24 (0, 0))])] := ⟨_, rfl⟩
          refine wp_cutq R94 ?_ ?_
          · have H := h92
            apply wp_region_lit
            refine sm _ rfl hk rfl rfl rfl fun a hk => ?_
            refine sv (.bool (decide (y81.1 < 0))) hk rfl rfl rfl fun a hk => ?_
            refine sm _ rfl hk rfl rfl rfl fun a hk => ?_
            rcases cond_some H with ⟨c95, H⟩ | ⟨c95, H⟩
            · have hk := hk.lit 68 c95 rfl
              refine sk hk rfl rfl rfl fun a hk => ?_
              refine sk hk rfl rfl rfl fun a hk => ?_
              refine sk hk rfl rfl rfl fun a hk => ?_
              refine sk hk rfl rfl rfl fun a hk => ?_
              refine sv (.bool true) hk rfl rfl rfl fun a hk => ?_
              refine sm _ rfl hk rfl rfl rfl fun a hk => ?_
              refine sk hk rfl rfl rfl fun a hk => ?_
              refine sk hk rfl rfl rfl fun a hk => ?_
              refine sk hk rfl rfl rfl fun a hk => ?_
              refine sk hk rfl rfl rfl fun a hk => ?_
              refine sv (.bool true) hk rfl rfl rfl fun a hk => ?_
              refine sm _ rfl hk rfl rfl rfl fun a hk => ?_
              refine sk hk rfl rfl rfl fun a hk => ?_
              refine sk hk rfl rfl rfl fun a hk => ?_
              refine sk hk rfl rfl rfl fun a hk => ?_
              refine sv (.bool true) hk rfl rfl rfl fun a hk => ?_
              show wpList _ _ _ [] _ _
              refine wpList_nil ?_
              obtain rfl := Option.some.inj H
              show R94 _ _
              rw [hR94]
              exact ⟨true, rfl, (hk.c 0 rfl (hk.c 3 rfl (hk.c 6 rfl (hk.c 7 rfl (hk.c 8 rfl (hk.c 10 rfl (hk.c 11 rfl (hk.c 84 rfl hk.k)))))))), (hs.pick [(5, 5), (6, 6), (8, 8), (9, 9), (2, 2)] rfl)⟩
            · have hk := hk.lit 68 c95 rfl
              refine sm _ rfl hk rfl rfl rfl fun a hk => ?_
              refine sm _ rfl hk rfl rfl rfl fun a hk => ?_
              obtain ⟨y96, h97, H⟩ := bind_some H
              refine sc rfl en16 hk rfl rfl rfl (laws_eqEntryS_t _ A43 p44 y41.1 _ o46.view (hs.hasG (k := 8) rfl) A23 p24 y21.1 _ o26.view (hs.hasG (k := 5) rfl) _ h97) ?_
              rintro _ w ⟨rfl, hG⟩ a hk
              have hs := hs.call0 hG
              refine sv (.bool (!y96)) hk rfl rfl rfl fun a hk => ?_
              refine sv (.bool (!y96)) hk rfl rfl rfl fun a hk => ?_
              refine sm _ rfl hk rfl rfl rfl fun a hk => ?_
              rcases cond_some H with ⟨c98, H⟩ | ⟨c98, H⟩
              · have hk := hk.lit 74 c98 rfl
                refine sk hk rfl rfl rfl fun a hk => ?_
                refine sk hk rfl rfl rfl fun a hk => ?_
                refine sk hk rfl rfl rfl fun a hk => ?_
                refine sk hk rfl rfl rfl fun a hk => ?_
                refine sv (.bool true) hk rfl rfl rfl fun a hk => ?_
                refine sm _ rfl hk rfl rfl rfl fun a hk => ?_
                refine sk hk rfl rfl rfl fun a hk => ?_
                refine sk hk rfl rfl rfl fun a hk => ?_
                refine sk hk rfl rfl rfl fun a hk => ?_
                refine sv (.bool true) hk rfl rfl rfl fun a hk => ?_
                show wpList _ _ _ [] _ _
                refine wpList_nil ?_
                obtain rfl := Option.some.inj H
                show R94 _ _
                rw [hR94]
                exact ⟨true, rfl, (hk.c 0 rfl (hk.c 3 rfl (hk.c 6 rfl (hk.c 7 rfl (hk.c 8 rfl (hk.c 10 rfl (hk.c 11 rfl (hk.c 84 rfl hk.k)))))))), (hs.pick [(5, 5), (6, 6), (8, 8), (9, 9), (2, 2)] rfl)⟩
              · have hk := hk.lit 74 c98 rfl
                refine sm _ rfl hk rfl rfl rfl fun a hk => ?_
                refine sm _ rfl hk rfl rfl rfl fun a hk => ?_
                obtain ⟨y99, h100, H⟩ := bind_some H
                refine sc rfl en17 hk rfl rfl rfl (laws_eqIntS_t _ A47 p48 y41.2.1 _ o50.view (hs.hasG (k := 9) rfl) A27 p28 y21.2.1 _ o30.view (hs.hasG (k := 6) rfl) _ h100) ?_
                rintro _ w ⟨rfl, hG⟩ a hk
                have hs := hs.call0 hG
                refine sv (.bool (!y99)) hk rfl rfl rfl fun a hk => ?_
                refine sv (.bool (!y99)) hk rfl rfl rfl fun a hk => ?_
                refine sm _ rfl hk rfl rfl rfl fun a hk => ?_
                rcases cond_some H with ⟨c101, H⟩ | ⟨c101, H⟩
                · have hk := hk.lit 80 c101 rfl
                  refine sk hk rfl rfl rfl fun a hk => ?_
                  refine sk hk rfl rfl rfl fun a hk => ?_
                  refine sk hk rfl rfl rfl fun a hk => ?_
                  refine sv (.bool true) hk rfl rfl rfl fun a hk => ?_
                  show wpList _ _ _ [] _ _
                  refine wpList_nil ?_
                  obtain rfl := Option.some.inj H
                  show R94 _ _
                  rw [hR94]
                  exact ⟨true, rfl, (hk.c 0 rfl (hk.c 3 rfl (hk.c 6 rfl (hk.c 7 rfl (hk.c 8 rfl (hk.c 10 rfl (hk.c 11 rfl (hk.c 84 rfl hk.k)))))))), (hs.pick [(5, 5), (6, 6), (8, 8), (9, 9), (2, 2)] rfl)⟩
                · have hk := hk.lit 80 c101 rfl
                  refine sm _ rfl hk rfl rfl rfl fun a hk => ?_
                  refine sm _ rfl hk rfl rfl rfl fun a hk => ?_
                  refine sv (.bool (y41.2.2 != y21.2.2)) hk rfl rfl rfl fun a hk => ?_
                  refine sv (.bool (y41.2.2 != y21.2.2)) hk rfl rfl rfl fun a hk => ?_
                  show wpList _ _ _ [] _ _
                  refine wpList_nil ?_
                  obtain rfl := Option.some.inj H
                  show R94 _ _
                  rw [hR94]
                  exact ⟨(y41.2.2 != y21.2.2), rfl, (hk.c 0 rfl (hk.c 3 rfl (hk.c 6 rfl (hk.c 7 rfl (hk.c 8 rfl (hk.c 10 rfl (hk.c 11 rfl (hk.c 84 rfl hk.k)))))))), (hs.pick [(5, 5), (6, 6), (8, 8), (9, 9), (2, 2)] rfl)⟩
          · intro a w hR0
            rw [hR94] at hR0
            obtain ⟨u90, rfl, hk, hs⟩ := hR0
            have H := HL93
            try dsimp only at H
            refine hK88 _ _ ?_
            rcases cond_some H with ⟨c102, H⟩ | ⟨c102, H⟩
            · have hk := hk.lit 84 c102 rfl
              refine cnd_true hk rfl rfl ?_
              apply wp_seq_k; intro K103 hK103
              apply wp_region_lit
              refine sa _ rfl hk rfl rfl rfl fun a hk => ?_
              show wpList _ _ _ [] _ _
              refine wpList_nil ?_
              refine hK103 _ _ ?_
              refine wp_ret ?_
              obtain rfl := Option.some.inj H
              exact fin hk _ [(.bool false)] rfl ⟨rfl, trivial⟩ ⟨rfl, (hs.pick [] rfl).dnil⟩
            · have hk := hk.lit 84 c102 rfl
              refine cnd_false hk rfl rfl ?_
              refine wp_skip ?_
              refine hK87 _ _ ?_
              apply wp_seq_k; intro K104 hK104
              apply wp_region_lit
              refine sa _ rfl hk rfl rfl rfl fun a hk => ?_
              show wpList _ _ _ [] _ _
              refine wpList_nil ?_
              refine hK104 _ _ ?_
              apply wp_seq_k; intro K105 hK105
              apply wp_region_lit
              refine sm _ rfl hk rfl rfl rfl fun a hk => ?_
              refine sm _ rfl hk rfl rfl rfl fun a hk => ?_
              obtain ⟨y106, h107, H⟩ := bind_some H
              refine sc rfl en18 hk rfl rfl rfl (laws_markEntryS_t _ A43 p44 y41.1 _ o46 1 ((hs.hand [(1, 8)] rfl).dpick [] rfl) _ h107) ?_
              rintro _ w ⟨k108, rfl, ⟨o109, lh110⟩, hG⟩ a hk
              have hs := hs.back [(1, 8)] rfl hG [8] rfl
              have lh111 : y106.2.length = y41.1.length := lh110
              refine sa _ rfl hk rfl rfl rfl fun a hk => ?_
              show wpList _ _ _ [] _ _
              refine wpList_nil ?_
              refine hK105 _ _ ?_
              apply wp_seq_k; intro K112 hK112
              apply wp_region_lit
              refine sm _ rfl hk rfl rfl rfl fun a hk => ?_
              refine sm _ rfl hk rfl rfl rfl fun a hk => ?_
              obtain ⟨y113, h114, H⟩ := bind_some H
              refine sc rfl en19 hk rfl rfl rfl (laws_markIntS_t _ A47 p48 y41.2.1 _ o50 y106.1 ((hs.hand [(1, 9)] rfl).dpick [] rfl) _ h114) ?_
              rintro _ w ⟨k115, rfl, ⟨o116, lh117⟩, hG⟩ a hk
              have hs := hs.back [(1, 9)] rfl hG [9] rfl
              have lh118 : y113.2.length = y41.2.1.length := lh117
              refine sa _ rfl hk rfl rfl rfl fun a hk => ?_
              show wpList _ _ _ [] _ _
              refine wpList_nil ?_
              refine hK112 _ _ ?_
              apply wp_seq_k; intro K119 hK119
              apply wp_region_lit
              refine sa _ rfl hk rfl rfl rfl fun a hk => ?_
              show wpList _ _ _ [] _ _
              refine wpList_nil ?_
              refine hK119 _ _ ?_
              apply wp_seq_k; intro K120 hK120
              apply wp_region_lit
              refine sm _ rfl hk rfl rfl rfl fun a hk => ?_
              refine sm _ rfl hk rfl rfl rfl fun a hk => ?_
              have hk := hk.re 91 (v' := (.slice A43 y106.2.length p44)) rfl (by rw [lh111])
              obtain ⟨y121, h122, H⟩ := bind_some H
              refine sc rfl en20 hk rfl rfl rfl (laws_heldEntryS_t _ A43 p44 y106.2 _ o109.view (hs.hasG (k := 8) rfl) 1 _ h122) ?_
              rintro _ w ⟨rfl, hG⟩ a hk
              have hs := hs.call0 hG
              refine sa _ rfl hk rfl rfl rfl fun a hk => ?_
              show wpList _ _ _ [] _ _
              refine wpList_nil ?_
              refine hK120 _ _ ?_
              apply wp_seq_k; intro K123 hK123
              apply wp_seq_k; intro K124 hK124
              apply wp_region_lit
              refine sm _ rfl hk rfl rfl rfl fun a hk => ?_
              refine sv (.bool (decide (y121 < 0))) hk rfl rfl rfl fun a hk => ?_
              show wpList _ _ _ [] _ _
              refine wpList_nil ?_
              refine hK124 _ _ ?_
              rcases cond_some H with ⟨c125, H⟩ | ⟨c125, H⟩
              · have hk := hk.lit 95 c125 rfl
                refine cnd_true hk rfl rfl ?_
                apply wp_seq_k; intro K126 hK126
                apply wp_region_lit
                refine sa _ rfl hk rfl rfl rfl fun a hk => ?_
                show wpList _ _ _ [] _ _
                refine wpList_nil ?_
                refine hK126 _ _ ?_
                refine wp_ret ?_
                obtain rfl := Option.some.inj H
                exact fin hk _ [(.bool false)] rfl ⟨rfl, trivial⟩ ⟨rfl, (hs.pick [] rfl).dnil⟩
              · have hk := hk.lit 95 c125 rfl
                refine cnd_false hk rfl rfl ?_
                refine wp_skip ?_
                refine hK123 _ _ ?_
                apply wp_seq_k; intro K127 hK127
                apply wp_region_lit
                refine sm _ rfl hk rfl rfl rfl fun a hk => ?_
                refine sm _ rfl hk rfl rfl rfl fun a hk => ?_
                have hk := hk.re 96 (v' := (.slice A47 y113.2.length p48)) rfl (by rw [lh118])
                obtain ⟨y128, h129, H⟩ := bind_some H
                refine sc rfl en21 hk rfl rfl rfl (laws_heldIntS_t _ A47 p48 y113.2 _ o116.view (hs.hasG (k := 9) rfl) y121 _ h129) ?_
                rintro _ w ⟨rfl, hG⟩ a hk
                have hs := hs.call0 hG
                refine sa _ rfl hk rfl rfl rfl fun a hk => ?_
                show wpList _ _ _ [] _ _
                refine wpList_nil ?_
                refine hK127 _ _ ?_
                apply wp_seq_k; intro K130 hK130
                apply wp_seq_k; intro K131 hK131
                apply wp_region_lit
                refine sm _ rfl hk rfl rfl rfl fun a hk => ?_
                refine sv (.bool (decide (y128 < 0))) hk rfl rfl rfl fun a hk => ?_
                show wpList _ _ _ [] _ _
                refine wpList_nil ?_
                refine hK131 _ _ ?_
                rcases cond_some H with ⟨c132, H⟩ | ⟨c132, H⟩
                · have hk := hk.lit 100 c132 rfl
                  refine cnd_true hk rfl rfl ?_
                  apply wp_seq_k; intro K133 hK133
                  apply wp_region_lit
                  refine sa _ rfl hk rfl rfl rfl fun a hk => ?_
                  show wpList _ _ _ [] _ _
                  refine wpList_nil ?_
                  refine hK133 _ _ ?_
                  refine wp_ret ?_
                  obtain rfl := Option.some.inj H
                  exact fin hk _ [(.bool false)] rfl ⟨rfl, trivial⟩ ⟨rfl, (hs.pick [] rfl).dnil⟩
                · have hk := hk.lit 100 c132 rfl
                  refine cnd_false hk rfl rfl ?_
                  refine wp_skip ?_
                  refine hK130 _ _ ?_
                  apply wp_seq_k; intro K134 hK134
                  apply wp_seq_k; intro K135 hK135
                  apply wp_region_lit
                  refine sm _ rfl hk rfl rfl rfl fun a hk => ?_
                  refine sm _ rfl hk rfl rfl rfl fun a hk => ?_
                  refine sv (.bool (y128 != y113.1)) hk rfl rfl rfl fun a hk => ?_
                  show wpList _ _ _ [] _ _
                  refine wpList_nil ?_
                  refine hK135 _ _ ?_
                  rcases cond_some H with ⟨c136, H⟩ | ⟨c136, H⟩
                  · have hk := hk.lit 103 c136 rfl
                    refine cnd_true hk rfl rfl ?_
                    apply wp_seq_k; intro K137 hK137
                    apply wp_region_lit
                    refine sa _ rfl hk rfl rfl rfl fun a hk => ?_
                    show wpList _ _ _ [] _ _
                    refine wpList_nil ?_
                    refine hK137 _ _ ?_
                    refine wp_ret ?_
                    obtain rfl := Option.some.inj H
                    exact fin hk _ [(.bool false)] rfl ⟨rfl, trivial⟩ ⟨rfl, (hs.pick [] rfl).dnil⟩
                  · have hk := hk.lit 103 c136 rfl
                    refine cnd_false hk rfl rfl ?_
                    refine wp_skip ?_
                    refine hK134 _ _ ?_
                    apply wp_seq_k; intro K138 hK138
                    refine wp_region_tree (.q 0 (.q 2 (.alt 1 (.alt 3 (.alt 4 (.alt 5 (.q 6 (.q 7 (.q 8 (.alt 9 (.alt 10 (.last 11) .stop) .stop)))) .stop) .stop) .stop) .stop))) mo (by kernel_rfl) (hs.pick [(5, 5), (6, 6), (8, 8), (9, 9), (2, 2)] rfl) fun _ => ?_
                    have hs := hs.drew
                    refine tqst (.slice A0_ l0.length p0_) hk rfl rfl rfl rfl (fun w hs => sm _ rfl hk rfl rfl rfl fun a hk => qe hk) fun a hk => ?_
                    refine tqst (.agg #[.int .i64 x1.Kind, .int .i64 x1.Key, .int .i64 x1.Value]) hk rfl rfl rfl rfl (fun w hs => sln [.int .i64 x1.Kind, .int .i64 x1.Key, .int .i64 x1.Value] rfl hk rfl rfl rfl ag24 sz24 (box_cells hs (k := 2) rfl) fun a hk => qe hk) fun a hk => ?_
                    refine tsst hk rfl rfl (fun K_r139_1 hK_r139_1 w hF => ?_) wt_stop
                    have hs := hs.f hF
                    obtain ⟨y140, h141, H⟩ := bind_some H
                    refine sc rfl en13 hk rfl rfl rfl (laws_toEntryS_t _ A0_ p0_ l0 _ v0_ (hs.hasD (k := 1) rfl) _ h141) ?_
                    rintro _ w ⟨A142, p143, k144, rfl, o145, hG⟩ a hk
                    have hs := hs.call0k hG [14] rfl
                    refine se (hs.pick [(5, 5), (6, 6), (8, 8), (9, 9), (2, 2)] rfl) hk (hK_r139_1 _ _ ?_)
                    refine tsst hk rfl rfl (fun K_r139_3 hK_r139_3 w hF => ?_) wt_stop
                    have hs := hs.f hF
                    obtain ⟨y146, h147, H⟩ := bind_some H
                    refine sc rfl en14 hk rfl rfl rfl (laws_toOp_t _ x1 _ h147) ?_
                    rintro _ w ⟨rfl, hG⟩ a hk
                    have hs := hs.call0 hG
                    refine se (hs.pick [(5, 5), (6, 6), (8, 8), (9, 9), (2, 2)] rfl) hk (hK_r139_3 _ _ ?_)
                    refine tsst hk rfl rfl (fun K_r139_4 hK_r139_4 w hF => ?_) wt_stop
                    have hs := hs.f hF
                    obtain ⟨y148, h149, H⟩ := bind_some H
                    refine sc rfl en15 hk rfl rfl rfl (impl_MapDo_t _ A142 p143 y140 _ o145.view (hs.hasG (k := 14) rfl) y146 _ h149) ?_
                    rintro _ w ⟨A150, p151, k152, A154, p155, k156, rfl, o153, o157, hG⟩ a hk
                    have hs := hs.call0k hG [15, 16] rfl
                    refine se (hs.pick [(5, 5), (6, 6), (8, 8), (9, 9), (2, 2)] rfl) hk (hK_r139_4 _ _ ?_)
                    refine tsst hk rfl rfl (fun K_r139_5 hK_r139_5 w hF => ?_) wt_stop
                    have hs := hs.f hF
                    refine sm _ rfl hk rfl rfl rfl fun a hk => ?_
                    refine se (hs.pick [(5, 5), (6, 6), (8, 8), (9, 9), (2, 2)] rfl) hk (hK_r139_5 _ _ ?_)
                    refine tqst (.slice A150 y148.1.length p151) hk rfl rfl rfl rfl (fun w hs => sv (.slice A150 y148.1.length p151) hk rfl rfl rfl fun a hk => qe hk) fun a hk => ?_
                    refine tqst (.slice A154 y148.2.1.length p155) hk rfl rfl rfl rfl (fun w hs => sv (.slice A154 y148.2.1.length p155) hk rfl rfl rfl fun a hk => qe hk) fun a hk => ?_
                    refine tqst (.int .i64 y148.2.2) hk rfl rfl rfl rfl (fun w hs => sv (.int .i64 y148.2.2) hk rfl rfl rfl fun a hk => qe hk) fun a hk => ?_
                    refine tsst hk rfl rfl (fun K_r139_9 hK_r139_9 w hF => ?_) wt_stop
                    have hs := hs.f hF
                    refine sa _ rfl hk rfl rfl rfl fun a hk => ?_
                    refine se (hs.pick [(5, 5), (6, 6), (8, 8), (9, 9), (2, 2)] rfl) hk (hK_r139_9 _ _ ?_)
                    refine tsst hk rfl rfl (fun K_r139_10 hK_r139_10 w hF => ?_) wt_stop
                    have hs := hs.f hF
                    refine sa _ rfl hk rfl rfl rfl fun a hk => ?_
                    refine se (hs.pick [(5, 5), (6, 6), (8, 8), (9, 9), (2, 2)] rfl) hk (hK_r139_10 _ _ ?_)
                    refine tlst hk rfl rfl fun K_r139_11 hK_r139_11 w hF => ?_
                    have hs := hs.f hF
                    refine sa _ rfl hk rfl rfl rfl fun a hk => ?_
                    refine se trivial hk (hK_r139_11 _ _ fun w hF => ?_)
                    have hs := hs.f hF
                    refine hK138 _ _ ?_
                    apply wp_seq_k; intro K158 hK158
                    apply wp_seq_k; intro K159 hK159
                    obtain ⟨o162, h163, HL164⟩ := bind_some H
                    clear H
                    obtain ⟨R165, hR165⟩ : ∃ R : Act → World → Prop, R = fun a w => ∃ (u161 : Bool), u161 = o162 ∧ Kn [(10, (.slice A43 y41.1.length p44)), (11, (.slice A47 y41.2.1.length p48)), (14, (.int .i64 y113.1)), (127, (.bool u161))] 141 a ∧ Sat [] w0 w [(1, k0_)] [(8, k108), (9, k115)] := ⟨_, rfl⟩
                    refine wp_cutq R165 ?_ ?_
                    · have H := h163
                      apply wp_region_lit
                      refine sm _ rfl hk rfl rfl rfl fun a hk => ?_
                      refine sm _ rfl hk rfl rfl rfl fun a hk => ?_
                      obtain ⟨y166, h167, H⟩ := bind_some H
                      refine sc rfl en16 hk rfl rfl rfl (laws_eqEntryS_t _ A150 p151 y148.1 _ o153.view (hs.hasG (k := 15) rfl) A23 p24 y21.1 _ o26.view (hs.hasG (k := 5) rfl) _ h167) ?_
                      rintro _ w ⟨rfl, hG⟩ a hk
                      have hs := hs.call0 hG
                      refine sv (.bool (!y166)) hk rfl rfl rfl fun a hk => ?_
                      refine sm _ rfl hk rfl rfl rfl fun a hk => ?_
                      rcases cond_some H with ⟨c168, H⟩ | ⟨c168, H⟩
                      · have hk := hk.lit 117 c168 rfl
                        refine sk hk rfl rfl rfl fun a hk => ?_
                        refine sk hk rfl rfl rfl fun a hk => ?_
                        refine sk hk rfl rfl rfl fun a hk => ?_
                        refine sk hk rfl rfl rfl fun a hk => ?_
                        refine sv (.bool true) hk rfl rfl rfl fun a hk => ?_
                        refine sm _ rfl hk rfl rfl rfl fun a hk => ?_
                        refine sk hk rfl rfl rfl fun a hk => ?_
                        refine sk hk rfl rfl rfl fun a hk => ?_
                        refine sk hk rfl rfl rfl fun a hk => ?_
                        refine sv (.bool true) hk rfl rfl rfl fun a hk => ?_
                        show wpList _ _ _ [] _ _
                        refine wpList_nil ?_
                        obtain rfl := Option.some.inj H
                        show R165 _ _
                        rw [hR165]
                        exact ⟨true, rfl, (hk.c 10 rfl (hk.c 11 rfl (hk.c 14 rfl (hk.c 127 rfl hk.k)))), (hs.pick [(8, 8), (9, 9)] rfl)⟩
                      · have hk := hk.lit 117 c168 rfl
                        refine sm _ rfl hk rfl rfl rfl fun a hk => ?_
                        refine sm _ rfl hk rfl rfl rfl fun a hk => ?_
                        obtain ⟨y169, h170, H⟩ := bind_some H
                        refine sc rfl en17 hk rfl rfl rfl (laws_eqIntS_t _ A154 p155 y148.2.1 _ o157.view (hs.hasG (k := 16) rfl) A27 p28 y21.2.1 _ o30.view (hs.hasG (k := 6) rfl) _ h170) ?_
                        rintro _ w ⟨rfl, hG⟩ a hk
                        have hs := hs.call0 hG
                        refine sv (.bool (!y169)) hk rfl rfl rfl fun a hk => ?_
                        refine sv (.bool (!y169)) hk rfl rfl rfl fun a hk => ?_
                        refine sm _ rfl hk rfl rfl rfl fun a hk => ?_
                        rcases cond_some H with ⟨c171, H⟩ | ⟨c171, H⟩
                        · have hk := hk.lit 123 c171 rfl
                          refine sk hk rfl rfl rfl fun a hk => ?_
                          refine sk hk rfl rfl rfl fun a hk => ?_
                          refine sk hk rfl rfl rfl fun a hk => ?_
                          refine sv (.bool true) hk rfl rfl rfl fun a hk => ?_
                          show wpList _ _ _ [] _ _
                          refine wpList_nil ?_
                          obtain rfl := Option.some.inj H
                          show R165 _ _
                          rw [hR165]
                          exact ⟨true, rfl, (hk.c 10 rfl (hk.c 11 rfl (hk.c 14 rfl (hk.c 127 rfl hk.k)))), (hs.pick [(8, 8), (9, 9)] rfl)⟩
                        · have hk := hk.lit 123 c171 rfl
                          refine sm _ rfl hk rfl rfl rfl fun a hk => ?_
                          refine sm _ rfl hk rfl rfl rfl fun a hk => ?_
                          refine sv (.bool (y148.2.2 != y21.2.2)) hk rfl rfl rfl fun a hk => ?_
                          refine sv (.bool (y148.2.2 != y21.2.2)) hk rfl rfl rfl fun a hk => ?_
                          show wpList _ _ _ [] _ _
                          refine wpList_nil ?_
                          obtain rfl := Option.some.inj H
                          show R165 _ _
                          rw [hR165]
                          exact ⟨(y148.2.2 != y21.2.2), rfl, (hk.c 10 rfl (hk.c 11 rfl (hk.c 14 rfl (hk.c 127 rfl hk.k)))), (hs.pick [(8, 8), (9, 9)] rfl)⟩
                    · intro a w hR0
                      rw [hR165] at hR0
                      obtain ⟨u161, rfl, hk, hs⟩ := hR0
                      have H := HL164
                      try dsimp only at H
                      refine hK159 _ _ ?_
                      rcases cond_some H with ⟨c172, H⟩ | ⟨c172, H⟩
                      · have hk := hk.lit 127 c172 rfl
                        refine cnd_true hk rfl rfl ?_
                        apply wp_seq_k; intro K173 hK173
                        apply wp_region_lit
                        refine sa _ rfl hk rfl rfl rfl fun a hk => ?_
                        show wpList _ _ _ [] _ _
                        refine wpList_nil ?_
                        refine hK173 _ _ ?_
                        refine wp_ret ?_
                        obtain rfl := Option.some.inj H
                        exact fin hk _ [(.bool false)] rfl ⟨rfl, trivial⟩ ⟨rfl, (hs.pick [] rfl).dnil⟩
                      · have hk := hk.lit 127 c172 rfl
                        refine cnd_false hk rfl rfl ?_
                        refine wp_skip ?_
                        refine hK158 _ _ ?_
                        apply wp_seq_k; intro K174 hK174
                        apply wp_region_lit
                        refine sa _ rfl hk rfl rfl rfl fun a hk => ?_
                        show wpList _ _ _ [] _ _
                        refine wpList_nil ?_
                        refine hK174 _ _ ?_
                        apply wp_seq_k; intro K175 hK175
                        apply wp_region_lit
                        refine sm _ rfl hk rfl rfl rfl fun a hk => ?_
                        refine sm _ rfl hk rfl rfl rfl fun a hk => ?_
                        have hk := hk.re 128 (v' := (.slice A43 y106.2.length p44)) rfl (by rw [lh111])
                        obtain ⟨y176, h177, H⟩ := bind_some H
                        refine sc rfl en20 hk rfl rfl rfl (laws_heldEntryS_t _ A43 p44 y106.2 _ o109.view (hs.hasG (k := 8) rfl) 1 _ h177) ?_
                        rintro _ w ⟨rfl, hG⟩ a hk
                        have hs := hs.call0 hG
                        refine sa _ rfl hk rfl rfl rfl fun a hk => ?_
                        show wpList _ _ _ [] _ _
                        refine wpList_nil ?_
                        refine hK175 _ _ ?_
                        apply wp_seq_k; intro K178 hK178
                        apply wp_seq_k; intro K179 hK179
                        apply wp_region_lit
                        refine sm _ rfl hk rfl rfl rfl fun a hk => ?_
                        refine sv (.bool (decide (y176 < 0))) hk rfl rfl rfl fun a hk => ?_
                        show wpList _ _ _ [] _ _
                        refine wpList_nil ?_
                        refine hK179 _ _ ?_
                        rcases cond_some H with ⟨c180, H⟩ | ⟨c180, H⟩
                        · have hk := hk.lit 132 c180 rfl
                          refine cnd_true hk rfl rfl ?_
                          apply wp_seq_k; intro K181 hK181
                          apply wp_region_lit
                          refine sa _ rfl hk rfl rfl rfl fun a hk => ?_
                          show wpList _ _ _ [] _ _
                          refine wpList_nil ?_
                          refine hK181 _ _ ?_
                          refine wp_ret ?_
                          obtain rfl := Option.some.inj H
                          exact fin hk _ [(.bool false)] rfl ⟨rfl, trivial⟩ ⟨rfl, (hs.pick [] rfl).dnil⟩
                        · have hk := hk.lit 132 c180 rfl
                          refine cnd_false hk rfl rfl ?_
                          refine wp_skip ?_
                          refine hK178 _ _ ?_
                          apply wp_seq_k; intro K182 hK182
                          apply wp_region_lit
                          refine sm _ rfl hk rfl rfl rfl fun a hk => ?_
                          refine sm _ rfl hk rfl rfl rfl fun a hk => ?_
                          have hk := hk.re 133 (v' := (.slice A47 y113.2.length p48)) rfl (by rw [lh118])
                          obtain ⟨y183, h184, H⟩ := bind_some H
                          refine sc rfl en21 hk rfl rfl rfl (laws_heldIntS_t _ A47 p48 y113.2 _ o116.view (hs.hasG (k := 9) rfl) y176 _ h184) ?_
                          rintro _ w ⟨rfl, hG⟩ a hk
                          have hs := hs.call0 hG
                          refine sa _ rfl hk rfl rfl rfl fun a hk => ?_
                          show wpList _ _ _ [] _ _
                          refine wpList_nil ?_
                          refine hK182 _ _ ?_
                          apply wp_seq_k; intro K185 hK185
                          apply wp_seq_k; intro K186 hK186
                          apply wp_region_lit
                          refine sm _ rfl hk rfl rfl rfl fun a hk => ?_
                          refine sv (.bool (decide (y183 < 0))) hk rfl rfl rfl fun a hk => ?_
                          show wpList _ _ _ [] _ _
                          refine wpList_nil ?_
                          refine hK186 _ _ ?_
                          rcases cond_some H with ⟨c187, H⟩ | ⟨c187, H⟩
                          · have hk := hk.lit 137 c187 rfl
                            refine cnd_true hk rfl rfl ?_
                            apply wp_seq_k; intro K188 hK188
                            apply wp_region_lit
                            refine sa _ rfl hk rfl rfl rfl fun a hk => ?_
                            show wpList _ _ _ [] _ _
                            refine wpList_nil ?_
                            refine hK188 _ _ ?_
                            refine wp_ret ?_
                            obtain rfl := Option.some.inj H
                            exact fin hk _ [(.bool false)] rfl ⟨rfl, trivial⟩ ⟨rfl, (hs.pick [] rfl).dnil⟩
                          · have hk := hk.lit 137 c187 rfl
                            refine cnd_false hk rfl rfl ?_
                            refine wp_skip ?_
                            refine hK185 _ _ ?_
                            apply wp_seq_k; intro K189 hK189
                            apply wp_seq_k; intro K190 hK190
                            apply wp_region_lit
                            refine sm _ rfl hk rfl rfl rfl fun a hk => ?_
                            refine sm _ rfl hk rfl rfl rfl fun a hk => ?_
                            refine sv (.bool (y183 != y113.1)) hk rfl rfl rfl fun a hk => ?_
                            show wpList _ _ _ [] _ _
                            refine wpList_nil ?_
                            refine hK190 _ _ ?_
                            rcases cond_some H with ⟨c191, H⟩ | ⟨c191, H⟩
                            · have hk := hk.lit 140 c191 rfl
                              refine cnd_true hk rfl rfl ?_
                              apply wp_seq_k; intro K192 hK192
                              apply wp_region_lit
                              refine sa _ rfl hk rfl rfl rfl fun a hk => ?_
                              show wpList _ _ _ [] _ _
                              refine wpList_nil ?_
                              refine hK192 _ _ ?_
                              refine wp_ret ?_
                              obtain rfl := Option.some.inj H
                              exact fin hk _ [(.bool false)] rfl ⟨rfl, trivial⟩ ⟨rfl, (hs.pick [] rfl).dnil⟩
                            · have hk := hk.lit 140 c191 rfl
                              refine cnd_false hk rfl rfl ?_
                              refine wp_skip ?_
                              refine hK189 _ _ ?_
                              apply wp_seq_k; intro K193 hK193
                              apply wp_region_lit
                              refine sa _ rfl hk rfl rfl rfl fun a hk => ?_
                              show wpList _ _ _ [] _ _
                              refine wpList_nil ?_
                              refine hK193 _ _ ?_
                              refine wp_ret ?_
                              obtain rfl := Option.some.inj H
                              exact fin hk _ [(.bool true)] rfl ⟨rfl, trivial⟩ ⟨rfl, (hs.pick [] rfl).dnil⟩

end Go.Proofs.Ytlbbkehdfgjneaa
