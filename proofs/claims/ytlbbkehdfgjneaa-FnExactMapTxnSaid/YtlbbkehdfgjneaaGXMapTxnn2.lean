/- Further functions. -/
import Derived.Test.YtlbbkehdfgjneaaGXMapTxnn1
namespace Go.Proofs.Ytlbbkehdfgjneaa
open Go Go.Z Go.Proofs Go.MuLone Go.ChangeShapes Go.WideShapes Go.ChangeAt Go.RowKit
set_option linter.unusedVariables false
set_option linter.unusedSimpArgs false
noncomputable def laws_markOpS.s0 (l0 : List S_Op) (u6 : List S_Op) (u10 : Int) (u11 : Int) : Option (((List S_Op) × Int × Int) ⊕ Ex ((List S_Op) × Int) (Int × (List S_Op))) :=
  (bif (decide (u11 < (l0.length : Int))) then (if 0 ≤ u11 ∧ u11 < (l0.length : Int) then (if 0 ≤ u11 ∧ u11 < (l0.length : Int) then (if 0 ≤ u11 ∧ u11 < (l0.length : Int) then (some (.inl ((((u6.set u11.toNat (⟨u10, (u6.getD u11.toNat z_Op).Key, (u6.getD u11.toNat z_Op).Value⟩ : S_Op)).set u11.toNat (⟨((u6.set u11.toNat (⟨u10, (u6.getD u11.toNat z_Op).Key, (u6.getD u11.toNat z_Op).Value⟩ : S_Op)).getD u11.toNat z_Op).Kind, (w64 (u10 + 1)), ((u6.set u11.toNat (⟨u10, (u6.getD u11.toNat z_Op).Key, (u6.getD u11.toNat z_Op).Value⟩ : S_Op)).getD u11.toNat z_Op).Value⟩ : S_Op)).set u11.toNat (⟨(((u6.set u11.toNat (⟨u10, (u6.getD u11.toNat z_Op).Key, (u6.getD u11.toNat z_Op).Value⟩ : S_Op)).set u11.toNat (⟨((u6.set u11.toNat (⟨u10, (u6.getD u11.toNat z_Op).Key, (u6.getD u11.toNat z_Op).Value⟩ : S_Op)).getD u11.toNat z_Op).Kind, (w64 (u10 + 1)), ((u6.set u11.toNat (⟨u10, (u6.getD u11.toNat z_Op).Key, (u6.getD u11.toNat z_Op).Value⟩ : S_Op)).getD u11.toNat z_Op).Value⟩ : S_Op)).getD u11.toNat z_Op).Kind, (((u6.set u11.toNat (⟨u10, (u6.getD u11.toNat z_Op).Key, (u6.getD u11.toNat z_Op).Value⟩ : S_Op)).set u11.toNat (⟨((u6.set u11.toNat (⟨u10, (u6.getD u11.toNat z_Op).Key, (u6.getD u11.toNat z_Op).Value⟩ : S_Op)).getD u11.toNat z_Op).Kind, (w64 (u10 + 1)), ((u6.set u11.toNat (⟨u10, (u6.getD u11.toNat z_Op).Key, (u6.getD u11.toNat z_Op).Value⟩ : S_Op)).getD u11.toNat z_Op).Value⟩ : S_Op)).getD u11.toNat z_Op).Key, (w64 ((w64 (u10 + 1)) + 1))⟩ : S_Op)), (w64 ((w64 ((w64 (u10 + 1)) + 1)) + 1)), (w64 (u11 + 1))))) else none) else none) else none) else (some (.inr (.out (u6, u10)))))
noncomputable def laws_markOpS.f (l0 : List S_Op) (x1 : Int) : Option (Int × (List S_Op)) :=
  ((loopO (fun s => laws_markOpS.s0 l0 s.1 s.2.1 s.2.2) (l0, x1, 0)).bind fun o => match o with | .out (u12, u16) => (some (u16, u12)) | .ret r => (some r))
set_option maxRecDepth 100000 in
set_option maxHeartbeats 0 in
theorem laws_markOpS_t (w0 : World) (A0_ : Option Addr) (p0_ : Nat) (l0 : List S_Op) (k0_ : Chunk) (v0_ : Own L_Op 31 A0_ p0_ l0 k0_) (x1 : Int) (hs0 : Sat (blks [(1, k0_)]) w0 w0 [] [(1, k0_)]) (r : Int × (List S_Op)) (H : laws_markOpS.f l0 x1 = some r) :
    Calls Try.prog 78 #[.slice A0_ l0.length p0_, .int .i64 x1] w0 (Ret (fun v w => ∃ (k0 : Chunk), v = .int .i64 r.1 ∧ (Own L_Op 31 A0_ p0_ r.2 k0 ∧ r.2.length = l0.length) ∧ Sat (blks [(1, k0_)]) w0 w [] [(0, k0)])) := by
  have hs := hs0
  unfold laws_markOpS.f at H
  refine enter Try.func78 rfl Try.ntmps78 rfl fun a hk => ?_
  apply wp_seq_k; intro K1 hK1
  apply wp_region_lit
  refine sa _ rfl hk rfl rfl rfl fun a hk => ?_
  show wpList _ _ _ [] _ _
  refine wpList_nil ?_
  refine hK1 _ _ ?_
  apply wp_seq_k; intro K2 hK2
  apply wp_seq_k; intro K3 hK3
  apply wp_region_lit
  refine sa _ rfl hk rfl rfl rfl fun a hk => ?_
  show wpList _ _ _ [] _ _
  refine wpList_nil ?_
  refine hK3 _ _ ?_
  obtain ⟨o17, h18, HL19⟩ := bind_some H
  clear H
  obtain ⟨R20, hR20⟩ : ∃ R : Act → World → Prop, R = fun a w => ∃ (u12 : List S_Op) (u16 : Int) (k13 : Chunk), o17 = .out (u12, u16) ∧ Kn [(0, (.slice A0_ l0.length p0_)), (1, (.int .i64 u16))] 34 a ∧ Sat (blks [(1, k0_)]) w0 w [] [(1, k13)] ∧ Own L_Op 31 A0_ p0_ u12 k13 ∧ u12.length = l0.length := ⟨_, rfl⟩
  refine wp_cutq R20 ?_ ?_
  · refine wp_block ?_
    obtain ⟨fu22, h18⟩ := loopO_some h18
    obtain ⟨I21, hI21⟩ : ∃ I : Nat → Act → World → Prop, I = fun fu a w => ∃ (u6 : List S_Op) (u10 : Int) (u11 : Int) (k7 : Chunk), loopN (fun s => laws_markOpS.s0 l0 s.1 s.2.1 s.2.2) fu (u6, u10, u11) = some o17 ∧ Kn [(0, (.slice A0_ l0.length p0_)), (1, (.int .i64 u10)), (5, (.int .i64 u11))] 34 a ∧ Sat (blks [(1, k0_)]) w0 w [] [(1, k7)] ∧ Own L_Op 31 A0_ p0_ u6 k7 ∧ u6.length = l0.length := ⟨_, rfl⟩
    refine wp_loop_ghost I21 fu22 ?_ ?_
    · rw [hI21]
      exact ⟨l0, x1, 0, _, h18, (hk.c 0 rfl (hk.c 1 rfl (hk.c 5 rfl hk.k))), (hs.pick [(1, 1)] rfl), v0_, rfl⟩
    · clear h18 hk hs
      intro fu22 a w hI0
      rw [hI21] at hI0
      obtain ⟨u6, u10, u11, k7, hi, hk, hs, o8, lh9⟩ := hI0
      obtain ⟨x23, H, h24⟩ := loop_round hi
      try dsimp only at H
      unfold laws_markOpS.s0 at H
      apply wp_seq_k; intro K25 hK25
      apply wp_seq_k; intro K26 hK26
      apply wp_region_lit
      refine sm _ rfl hk rfl rfl rfl fun a hk => ?_
      refine sm _ rfl hk rfl rfl rfl fun a hk => ?_
      refine sle rfl hk rfl rfl rfl un46 fun a hk => ?_
      refine sv (.bool (decide (u11 < (l0.length : Int)))) hk rfl rfl rfl fun a hk => ?_
      show wpList _ _ _ [] _ _
      refine wpList_nil ?_
      refine hK26 _ _ ?_
      rcases cond_some H with ⟨c27, H⟩ | ⟨c27, H⟩
      · have hk := hk.lit 9 c27 rfl
        refine cnd_true hk rfl rfl ?_
        refine wp_skip ?_
        refine hK25 _ _ ?_
        apply wp_seq_k; intro K28 hK28
        refine wp_block ?_
        apply wp_seq_k; intro K29 hK29
        apply wp_region_lit
        refine sm _ rfl hk rfl rfl rfl fun a hk => ?_
        refine sm _ rfl hk rfl rfl rfl fun a hk => ?_
        refine sm _ rfl hk rfl rfl rfl fun a hk => ?_
        rcases ite_some H with ⟨c30, H⟩ | ⟨_, H⟩
        rotate_left
        · cases H
        obtain ⟨b31, q32, hAc30⟩ := (o8.view).some_ u11 c30.1 (by rw [lh9]; exact c30.2)
        refine si rfl hk rfl rfl rfl rfl un46 sz31 c30.1 c30.2 hAc30 fun a hk => ?_
        refine sf (padd A0_ (u11.toNat * 3 + 0)) rfl hk rfl rfl rfl fd31_0 (padd_add _ _ _) fun a hk => ?_
        refine so (j := 0) 1 z_Op (⟨u10, (u6.getD u11.toNat z_Op).Key, (u6.getD u11.toNat z_Op).Value⟩ : S_Op) hs rfl o8 c30.1 (by rw [lh9]; exact c30.2) rfl hk rfl rfl rfl rfl rfl sz3 (by simp [Value.cells, Value.oneCell']) (Nat.le_of_ble_eq_true rfl) (fun _ _ h => ⟨by rw [h.1]; rfl, h.2⟩) fun k33 w a hk o34 hs => ?_
        have lh35 : (u6.set u11.toNat (⟨u10, (u6.getD u11.toNat z_Op).Key, (u6.getD u11.toNat z_Op).Value⟩ : S_Op)).length = l0.length := by rw [List.length_set]; exact lh9
        show wpList _ _ _ [] _ _
        refine wpList_nil ?_
        refine hK29 _ _ ?_
        apply wp_seq_k; intro K36 hK36
        apply wp_region_lit
        refine sm _ rfl hk rfl rfl rfl fun a hk => ?_
        refine sv (.int .i64 (w64 (u10 + 1))) hk rfl rfl rfl fun a hk => ?_
        refine sa _ rfl hk rfl rfl rfl fun a hk => ?_
        show wpList _ _ _ [] _ _
        refine wpList_nil ?_
        refine hK36 _ _ ?_
        apply wp_seq_k; intro K37 hK37
        apply wp_region_lit
        refine sm _ rfl hk rfl rfl rfl fun a hk => ?_
        refine sm _ rfl hk rfl rfl rfl fun a hk => ?_
        refine sm _ rfl hk rfl rfl rfl fun a hk => ?_
        rcases ite_some H with ⟨c38, H⟩ | ⟨_, H⟩
        rotate_left
        · cases H
        obtain ⟨b39, q40, hAc38⟩ := (o34.view).some_ u11 c38.1 (by rw [lh35]; exact c38.2)
        refine si rfl hk rfl rfl rfl rfl un46 sz31 c38.1 c38.2 hAc38 fun a hk => ?_
        refine sf (padd A0_ (u11.toNat * 3 + 1)) rfl hk rfl rfl rfl fd31_1 (padd_add _ _ _) fun a hk => ?_
        refine so (j := 1) 1 z_Op (⟨((u6.set u11.toNat (⟨u10, (u6.getD u11.toNat z_Op).Key, (u6.getD u11.toNat z_Op).Value⟩ : S_Op)).getD u11.toNat z_Op).Kind, (w64 (u10 + 1)), ((u6.set u11.toNat (⟨u10, (u6.getD u11.toNat z_Op).Key, (u6.getD u11.toNat z_Op).Value⟩ : S_Op)).getD u11.toNat z_Op).Value⟩ : S_Op) hs rfl o34 c38.1 (by rw [lh35]; exact c38.2) rfl hk rfl rfl rfl rfl rfl sz3 (by simp [Value.cells, Value.oneCell']) (Nat.le_of_ble_eq_true rfl) (fun _ _ h => ⟨by rw [h.1]; rfl, h.2⟩) fun k41 w a hk o42 hs => ?_
        have lh43 : ((u6.set u11.toNat (⟨u10, (u6.getD u11.toNat z_Op).Key, (u6.getD u11.toNat z_Op).Value⟩ : S_Op)).set u11.toNat (⟨((u6.set u11.toNat (⟨u10, (u6.getD u11.toNat z_Op).Key, (u6.getD u11.toNat z_Op).Value⟩ : S_Op)).getD u11.toNat z_Op).Kind, (w64 (u10 + 1)), ((u6.set u11.toNat (⟨u10, (u6.getD u11.toNat z_Op).Key, (u6.getD u11.toNat z_Op).Value⟩ : S_Op)).getD u11.toNat z_Op).Value⟩ : S_Op)).length = l0.length := by rw [List.length_set]; exact lh35
        show wpList _ _ _ [] _ _
        refine wpList_nil ?_
        refine hK37 _ _ ?_
        apply wp_seq_k; intro K44 hK44
        apply wp_region_lit
        refine sm _ rfl hk rfl rfl rfl fun a hk => ?_
        refine sv (.int .i64 (w64 ((w64 (u10 + 1)) + 1))) hk rfl rfl rfl fun a hk => ?_
        refine sa _ rfl hk rfl rfl rfl fun a hk => ?_
        show wpList _ _ _ [] _ _
        refine wpList_nil ?_
        refine hK44 _ _ ?_
        apply wp_seq_k; intro K45 hK45
        apply wp_region_lit
        refine sm _ rfl hk rfl rfl rfl fun a hk => ?_
        refine sm _ rfl hk rfl rfl rfl fun a hk => ?_
        refine sm _ rfl hk rfl rfl rfl fun a hk => ?_
        rcases ite_some H with ⟨c46, H⟩ | ⟨_, H⟩
        rotate_left
        · cases H
        obtain ⟨b47, q48, hAc46⟩ := (o42.view).some_ u11 c46.1 (by rw [lh43]; exact c46.2)
        refine si rfl hk rfl rfl rfl rfl un46 sz31 c46.1 c46.2 hAc46 fun a hk => ?_
        refine sf (padd A0_ (u11.toNat * 3 + 2)) rfl hk rfl rfl rfl fd31_2 (padd_add _ _ _) fun a hk => ?_
        refine so (j := 2) 1 z_Op (⟨(((u6.set u11.toNat (⟨u10, (u6.getD u11.toNat z_Op).Key, (u6.getD u11.toNat z_Op).Value⟩ : S_Op)).set u11.toNat (⟨((u6.set u11.toNat (⟨u10, (u6.getD u11.toNat z_Op).Key, (u6.getD u11.toNat z_Op).Value⟩ : S_Op)).getD u11.toNat z_Op).Kind, (w64 (u10 + 1)), ((u6.set u11.toNat (⟨u10, (u6.getD u11.toNat z_Op).Key, (u6.getD u11.toNat z_Op).Value⟩ : S_Op)).getD u11.toNat z_Op).Value⟩ : S_Op)).getD u11.toNat z_Op).Kind, (((u6.set u11.toNat (⟨u10, (u6.getD u11.toNat z_Op).Key, (u6.getD u11.toNat z_Op).Value⟩ : S_Op)).set u11.toNat (⟨((u6.set u11.toNat (⟨u10, (u6.getD u11.toNat z_Op).Key, (u6.getD u11.toNat z_Op).Value⟩ : S_Op)).getD u11.toNat z_Op).Kind, (w64 (u10 + 1)), ((u6.set u11.toNat (⟨u10, (u6.getD u11.toNat z_Op).Key, (u6.getD u11.toNat z_Op).Value⟩ : S_Op)).getD u11.toNat z_Op).Value⟩ : S_Op)).getD u11.toNat z_Op).Key, (w64 ((w64 (u10 + 1)) + 1))⟩ : S_Op) hs rfl o42 c46.1 (by rw [lh43]; exact c46.2) rfl hk rfl rfl rfl rfl rfl sz3 (by simp [Value.cells, Value.oneCell']) (Nat.le_of_ble_eq_true rfl) (fun _ _ h => ⟨by rw [h.1]; rfl, h.2⟩) fun k49 w a hk o50 hs => ?_
        have lh51 : (((u6.set u11.toNat (⟨u10, (u6.getD u11.toNat z_Op).Key, (u6.getD u11.toNat z_Op).Value⟩ : S_Op)).set u11.toNat (⟨((u6.set u11.toNat (⟨u10, (u6.getD u11.toNat z_Op).Key, (u6.getD u11.toNat z_Op).Value⟩ : S_Op)).getD u11.toNat z_Op).Kind, (w64 (u10 + 1)), ((u6.set u11.toNat (⟨u10, (u6.getD u11.toNat z_Op).Key, (u6.getD u11.toNat z_Op).Value⟩ : S_Op)).getD u11.toNat z_Op).Value⟩ : S_Op)).set u11.toNat (⟨(((u6.set u11.toNat (⟨u10, (u6.getD u11.toNat z_Op).Key, (u6.getD u11.toNat z_Op).Value⟩ : S_Op)).set u11.toNat (⟨((u6.set u11.toNat (⟨u10, (u6.getD u11.toNat z_Op).Key, (u6.getD u11.toNat z_Op).Value⟩ : S_Op)).getD u11.toNat z_Op).Kind, (w64 (u10 + 1)), ((u6.set u11.toNat (⟨u10, (u6.getD u11.toNat z_Op).Key, (u6.getD u11.toNat z_Op).Value⟩ : S_Op)).getD u11.toNat z_Op).Value⟩ : S_Op)).getD u11.toNat z_Op).Kind, (((u6.set u11.toNat (⟨u10, (u6.getD u11.toNat z_Op).Key, (u6.getD u11.toNat z_Op).Value⟩ : S_Op)).set u11.toNat (⟨((u6.set u11.toNat (⟨u10, (u6.getD u11.toNat z_Op).Key, (u6.getD u11.toNat z_Op).Value⟩ : S_Op)).getD u11.toNat z_Op).Kind, (w64 (u10 + 1)), ((u6.set u11.toNat (⟨u10, (u6.getD u11.toNat z_Op).Key, (u6.getD u11.toNat z_Op).Value⟩ : S_Op)).getD u11.toNat z_Op).Value⟩ : S_Op)).getD u11.toNat z_Op).Key, (w64 ((w64 (u10 + 1)) + 1))⟩ : S_Op)).length = l0.length := by rw [List.length_set]; exact lh43
        show wpList _ _ _ [] _ _
        refine wpList_nil ?_
        refine hK45 _ _ ?_
        apply wp_region_lit
        refine sm _ rfl hk rfl rfl rfl fun a hk => ?_
        refine sv (.int .i64 (w64 ((w64 ((w64 (u10 + 1)) + 1)) + 1))) hk rfl rfl rfl fun a hk => ?_
        refine sa _ rfl hk rfl rfl rfl fun a hk => ?_
        show wpList _ _ _ [] _ _
        refine wpList_nil ?_
        refine hK28 _ _ ?_
        apply wp_region_lit
        refine sm _ rfl hk rfl rfl rfl fun a hk => ?_
        refine sv (.int .i64 (w64 (u11 + 1))) hk rfl rfl rfl fun a hk => ?_
        refine sa _ rfl hk rfl rfl rfl fun a hk => ?_
        show wpList _ _ _ [] _ _
        refine wpList_nil ?_
        obtain rfl := Option.some.inj H
        obtain ⟨m52, hmm52, h24⟩ := h24
        show ∃ n', n' < _ ∧ I21 n' _ _
        refine ⟨m52, hmm52, ?_⟩
        rw [hI21]
        exact ⟨(((u6.set u11.toNat (⟨u10, (u6.getD u11.toNat z_Op).Key, (u6.getD u11.toNat z_Op).Value⟩ : S_Op)).set u11.toNat (⟨((u6.set u11.toNat (⟨u10, (u6.getD u11.toNat z_Op).Key, (u6.getD u11.toNat z_Op).Value⟩ : S_Op)).getD u11.toNat z_Op).Kind, (w64 (u10 + 1)), ((u6.set u11.toNat (⟨u10, (u6.getD u11.toNat z_Op).Key, (u6.getD u11.toNat z_Op).Value⟩ : S_Op)).getD u11.toNat z_Op).Value⟩ : S_Op)).set u11.toNat (⟨(((u6.set u11.toNat (⟨u10, (u6.getD u11.toNat z_Op).Key, (u6.getD u11.toNat z_Op).Value⟩ : S_Op)).set u11.toNat (⟨((u6.set u11.toNat (⟨u10, (u6.getD u11.toNat z_Op).Key, (u6.getD u11.toNat z_Op).Value⟩ : S_Op)).getD u11.toNat z_Op).Kind, (w64 (u10 + 1)), ((u6.set u11.toNat (⟨u10, (u6.getD u11.toNat z_Op).Key, (u6.getD u11.toNat z_Op).Value⟩ : S_Op)).getD u11.toNat z_Op).Value⟩ : S_Op)).getD u11.toNat z_Op).Kind, (((u6.set u11.toNat (⟨u10, (u6.getD u11.toNat z_Op).Key, (u6.getD u11.toNat z_Op).Value⟩ : S_Op)).set u11.toNat (⟨((u6.set u11.toNat (⟨u10, (u6.getD u11.toNat z_Op).Key, (u6.getD u11.toNat z_Op).Value⟩ : S_Op)).getD u11.toNat z_Op).Kind, (w64 (u10 + 1)), ((u6.set u11.toNat (⟨u10, (u6.getD u11.toNat z_Op).Key, (u6.getD u11.toNat z_Op).Value⟩ : S_Op)).getD u11.toNat z_Op).Value⟩ : S_Op)).getD u11.toNat z_Op).Key, (w64 ((w64 (u10 + 1)) + 1))⟩ : S_Op)), (w64 ((w64 ((w64 (u10 + 1)) + 1)) + 1)), (w64 (u11 + 1)), _, h24, (hk.c 0 rfl (hk.c 1 rfl (hk.c 5 rfl hk.k))), (hs.pick [(1, 1)] rfl), o50, lh51⟩
      · have hk := hk.lit 9 c27 rfl
        refine cnd_false hk rfl rfl ?_
        refine wp_exit ?_
        obtain rfl := Option.some.inj H
        show R20 _ _
        rw [hR20]
        exact ⟨u6, u10, _, h24.symm, (hk.c 0 rfl (hk.c 1 rfl hk.k)), (hs.pick [(1, 1)] rfl), o8, lh9⟩
  · intro a w hR0
    rw [hR20] at hR0
    obtain ⟨u12, u16, k13, rfl, hk, hs, o14, lh15⟩ := hR0
    have H := HL19
    try dsimp only at H
    refine hK2 _ _ ?_
    apply wp_seq_k; intro K53 hK53
    apply wp_region_lit
    refine sm _ rfl hk rfl rfl rfl fun a hk => ?_
    refine sa _ rfl hk rfl rfl rfl fun a hk => ?_
    show wpList _ _ _ [] _ _
    refine wpList_nil ?_
    refine hK53 _ _ ?_
    refine wp_ret ?_
    obtain rfl := Option.some.inj H
    exact fin hk _ [(.int .i64 u16)] rfl ⟨rfl, trivial⟩ ⟨_, rfl, ⟨o14, lh15⟩, (hs.pick [(0, 1)] rfl).dnil⟩

noncomputable def laws_markTxn.f (x0 : S_Txn) (x1 : Int) : Option (Int × (List S_Op)) :=
  ((laws_markOpS.f x0.Ops x1).bind fun y4 => (some (y4.1, y4.2)))
set_option maxRecDepth 100000 in
set_option maxHeartbeats 0 in
theorem laws_markTxn_t (w0 : World) (x0 : S_Txn) (A0_0 : Option Addr) (p0_0 : Nat) (k0_0 : Chunk) (v0_0 : Own L_Op 31 A0_0 p0_0 x0.Ops k0_0) (x1 : Int) (hs0 : Sat (blks [(1, k0_0)]) w0 w0 [] [(1, k0_0)]) (r : Int × (List S_Op)) (H : laws_markTxn.f x0 x1 = some r) :
    Calls Try.prog 28 #[.agg #[.slice A0_0 x0.Ops.length p0_0], .int .i64 x1] w0 (Ret (fun v w => ∃ (k0 : Chunk), v = .int .i64 r.1 ∧ (Own L_Op 31 A0_0 p0_0 r.2 k0 ∧ r.2.length = x0.Ops.length) ∧ Sat (blks [(1, k0_0)]) w0 w [] [(0, k0)])) := by
  have hs := hs0
  unfold laws_markTxn.f at H
  refine enter Try.func28 rfl Try.ntmps28 rfl fun a hk => ?_
  apply wp_seq_k; intro K1 hK1
  apply wp_region_lit
  refine sbx 2 hs rfl hk rfl rfl rfl rfl fun b2 w a hk hs => ?_
  refine sa _ rfl hk rfl rfl rfl fun a hk => ?_
  show wpList _ _ _ [] _ _
  refine wpList_nil ?_
  refine hK1 _ _ ?_
  apply wp_seq_k; intro K3 hK3
  apply wp_region_lit
  refine sf ⟨b2, 0, none⟩ rfl hk rfl rfl rfl fd48_0 rfl fun a hk => ?_
  refine sl rfl hk rfl rfl rfl ag46 (box_cell hs (k := 2) rfl rfl) fun a hk => ?_
  refine sm _ rfl hk rfl rfl rfl fun a hk => ?_
  obtain ⟨y4, h5, H⟩ := bind_some H
  refine sc rfl en78 hk rfl rfl rfl (laws_markOpS_t _ A0_0 p0_0 x0.Ops _ v0_0 x1 ((hs.hand [(1, 1)] rfl).dpick [] rfl) _ h5) ?_
  rintro _ w ⟨k6, rfl, ⟨o7, lh8⟩, hG⟩ a hk
  have hs := hs.back [(1, 1)] rfl hG [1] rfl
  have lh9 : y4.2.length = x0.Ops.length := lh8
  refine sa _ rfl hk rfl rfl rfl fun a hk => ?_
  show wpList _ _ _ [] _ _
  refine wpList_nil ?_
  refine hK3 _ _ ?_
  apply wp_seq_k; intro K10 hK10
  apply wp_region_lit
  refine sm _ rfl hk rfl rfl rfl fun a hk => ?_
  refine sa _ rfl hk rfl rfl rfl fun a hk => ?_
  show wpList _ _ _ [] _ _
  refine wpList_nil ?_
  refine hK10 _ _ ?_
  refine wp_ret ?_
  obtain rfl := Option.some.inj H
  exact fin hk _ [(.int .i64 y4.1)] rfl ⟨rfl, trivial⟩ ⟨_, rfl, ⟨o7, lh9⟩, (hs.pick [(0, 1)] rfl).dnil⟩

noncomputable def laws_markIntS.s0 (l0 : List Int) (u6 : List Int) (u10 : Int) (u11 : Int) : Option (((List Int) × Int × Int) ⊕ Ex ((List Int) × Int) (Int × (List Int))) :=
  (bif (decide (u11 < (l0.length : Int))) then (if 0 ≤ u11 ∧ u11 < (l0.length : Int) then (some (.inl ((u6.set u11.toNat u10), (w64 (u10 + 1)), (w64 (u11 + 1))))) else none) else (some (.inr (.out (u6, u10)))))
noncomputable def laws_markIntS.f (l0 : List Int) (x1 : Int) : Option (Int × (List Int)) :=
  ((loopO (fun s => laws_markIntS.s0 l0 s.1 s.2.1 s.2.2) (l0, x1, 0)).bind fun o => match o with | .out (u12, u16) => (some (u16, u12)) | .ret r => (some r))
set_option maxRecDepth 100000 in
set_option maxHeartbeats 0 in
theorem laws_markIntS_t (w0 : World) (A0_ : Option Addr) (p0_ : Nat) (l0 : List Int) (k0_ : Chunk) (v0_ : Own (Lay.int .i64) 3 A0_ p0_ l0 k0_) (x1 : Int) (hs0 : Sat (blks [(1, k0_)]) w0 w0 [] [(1, k0_)]) (r : Int × (List Int)) (H : laws_markIntS.f l0 x1 = some r) :
    Calls Try.prog 19 #[.slice A0_ l0.length p0_, .int .i64 x1] w0 (Ret (fun v w => ∃ (k0 : Chunk), v = .int .i64 r.1 ∧ (Own (Lay.int .i64) 3 A0_ p0_ r.2 k0 ∧ r.2.length = l0.length) ∧ Sat (blks [(1, k0_)]) w0 w [] [(0, k0)])) := by
  have hs := hs0
  unfold laws_markIntS.f at H
  refine enter Try.func19 rfl Try.ntmps19 rfl fun a hk => ?_
  apply wp_seq_k; intro K1 hK1
  apply wp_region_lit
  refine sa _ rfl hk rfl rfl rfl fun a hk => ?_
  show wpList _ _ _ [] _ _
  refine wpList_nil ?_
  refine hK1 _ _ ?_
  apply wp_seq_k; intro K2 hK2
  apply wp_seq_k; intro K3 hK3
  apply wp_region_lit
  refine sa _ rfl hk rfl rfl rfl fun a hk => ?_
  show wpList _ _ _ [] _ _
  refine wpList_nil ?_
  refine hK3 _ _ ?_
  obtain ⟨o17, h18, HL19⟩ := bind_some H
  clear H
  obtain ⟨R20, hR20⟩ : ∃ R : Act → World → Prop, R = fun a w => ∃ (u12 : List Int) (u16 : Int) (k13 : Chunk), o17 = .out (u12, u16) ∧ Kn [(0, (.slice A0_ l0.length p0_)), (1, (.int .i64 u16))] 19 a ∧ Sat (blks [(1, k0_)]) w0 w [] [(1, k13)] ∧ Own (Lay.int .i64) 3 A0_ p0_ u12 k13 ∧ u12.length = l0.length := ⟨_, rfl⟩
  refine wp_cutq R20 ?_ ?_
  · refine wp_block ?_
    obtain ⟨fu22, h18⟩ := loopO_some h18
    obtain ⟨I21, hI21⟩ : ∃ I : Nat → Act → World → Prop, I = fun fu a w => ∃ (u6 : List Int) (u10 : Int) (u11 : Int) (k7 : Chunk), loopN (fun s => laws_markIntS.s0 l0 s.1 s.2.1 s.2.2) fu (u6, u10, u11) = some o17 ∧ Kn [(0, (.slice A0_ l0.length p0_)), (1, (.int .i64 u10)), (5, (.int .i64 u11))] 19 a ∧ Sat (blks [(1, k0_)]) w0 w [] [(1, k7)] ∧ Own (Lay.int .i64) 3 A0_ p0_ u6 k7 ∧ u6.length = l0.length := ⟨_, rfl⟩
    refine wp_loop_ghost I21 fu22 ?_ ?_
    · rw [hI21]
      exact ⟨l0, x1, 0, _, h18, (hk.c 0 rfl (hk.c 1 rfl (hk.c 5 rfl hk.k))), (hs.pick [(1, 1)] rfl), v0_, rfl⟩
    · clear h18 hk hs
      intro fu22 a w hI0
      rw [hI21] at hI0
      obtain ⟨u6, u10, u11, k7, hi, hk, hs, o8, lh9⟩ := hI0
      obtain ⟨x23, H, h24⟩ := loop_round hi
      try dsimp only at H
      unfold laws_markIntS.s0 at H
      apply wp_seq_k; intro K25 hK25
      apply wp_seq_k; intro K26 hK26
      apply wp_region_lit
      refine sm _ rfl hk rfl rfl rfl fun a hk => ?_
      refine sm _ rfl hk rfl rfl rfl fun a hk => ?_
      refine sle rfl hk rfl rfl rfl un27 fun a hk => ?_
      refine sv (.bool (decide (u11 < (l0.length : Int)))) hk rfl rfl rfl fun a hk => ?_
      show wpList _ _ _ [] _ _
      refine wpList_nil ?_
      refine hK26 _ _ ?_
      rcases cond_some H with ⟨c27, H⟩ | ⟨c27, H⟩
      · have hk := hk.lit 9 c27 rfl
        refine cnd_true hk rfl rfl ?_
        refine wp_skip ?_
        refine hK25 _ _ ?_
        apply wp_seq_k; intro K28 hK28
        refine wp_block ?_
        apply wp_seq_k; intro K29 hK29
        apply wp_region_lit
        refine sm _ rfl hk rfl rfl rfl fun a hk => ?_
        refine sm _ rfl hk rfl rfl rfl fun a hk => ?_
        refine sm _ rfl hk rfl rfl rfl fun a hk => ?_
        rcases ite_some H with ⟨c30, H⟩ | ⟨_, H⟩
        rotate_left
        · cases H
        obtain ⟨b31, q32, hAc30⟩ := (o8.view).some_ u11 c30.1 (by rw [lh9]; exact c30.2)
        refine si rfl hk rfl rfl rfl rfl un27 sz3 c30.1 c30.2 hAc30 fun a hk => ?_
        refine so (j := 0) 1 0 u10 hs rfl o8 c30.1 (by rw [lh9]; exact c30.2) rfl hk rfl rfl rfl rfl rfl sz3 (by simp [Value.cells, Value.oneCell']) (Nat.le_of_ble_eq_true rfl) (fun _ _ h => ⟨by rw [h.1]; rfl, h.2⟩) fun k33 w a hk o34 hs => ?_
        have lh35 : (u6.set u11.toNat u10).length = l0.length := by rw [List.length_set]; exact lh9
        show wpList _ _ _ [] _ _
        refine wpList_nil ?_
        refine hK29 _ _ ?_
        apply wp_region_lit
        refine sm _ rfl hk rfl rfl rfl fun a hk => ?_
        refine sv (.int .i64 (w64 (u10 + 1))) hk rfl rfl rfl fun a hk => ?_
        refine sa _ rfl hk rfl rfl rfl fun a hk => ?_
        show wpList _ _ _ [] _ _
        refine wpList_nil ?_
        refine hK28 _ _ ?_
        apply wp_region_lit
        refine sm _ rfl hk rfl rfl rfl fun a hk => ?_
        refine sv (.int .i64 (w64 (u11 + 1))) hk rfl rfl rfl fun a hk => ?_
        refine sa _ rfl hk rfl rfl rfl fun a hk => ?_
        show wpList _ _ _ [] _ _
        refine wpList_nil ?_
        obtain rfl := Option.some.inj H
        obtain ⟨m36, hmm36, h24⟩ := h24
        show ∃ n', n' < _ ∧ I21 n' _ _
        refine ⟨m36, hmm36, ?_⟩
        rw [hI21]
        exact ⟨(u6.set u11.toNat u10), (w64 (u10 + 1)), (w64 (u11 + 1)), _, h24, (hk.c 0 rfl (hk.c 1 rfl (hk.c 5 rfl hk.k))), (hs.pick [(1, 1)] rfl), o34, lh35⟩
      · have hk := hk.lit 9 c27 rfl
        refine cnd_false hk rfl rfl ?_
        refine wp_exit ?_
        obtain rfl := Option.some.inj H
        show R20 _ _
        rw [hR20]
        exact ⟨u6, u10, _, h24.symm, (hk.c 0 rfl (hk.c 1 rfl hk.k)), (hs.pick [(1, 1)] rfl), o8, lh9⟩
  · intro a w hR0
    rw [hR20] at hR0
    obtain ⟨u12, u16, k13, rfl, hk, hs, o14, lh15⟩ := hR0
    have H := HL19
    try dsimp only at H
    refine hK2 _ _ ?_
    apply wp_seq_k; intro K37 hK37
    apply wp_region_lit
    refine sm _ rfl hk rfl rfl rfl fun a hk => ?_
    refine sa _ rfl hk rfl rfl rfl fun a hk => ?_
    show wpList _ _ _ [] _ _
    refine wpList_nil ?_
    refine hK37 _ _ ?_
    refine wp_ret ?_
    obtain rfl := Option.some.inj H
    exact fin hk _ [(.int .i64 u16)] rfl ⟨rfl, trivial⟩ ⟨_, rfl, ⟨o14, lh15⟩, (hs.pick [(0, 1)] rfl).dnil⟩

noncomputable def laws_markResult.f (x0 : S_Result) (x1 : Int) : Option (Int × (List Int)) :=
  ((laws_markIntS.f x0.Values x1).bind fun y4 => (some (y4.1, y4.2)))
set_option maxRecDepth 100000 in
set_option maxHeartbeats 0 in
theorem laws_markResult_t (w0 : World) (x0 : S_Result) (A0_0 : Option Addr) (p0_0 : Nat) (k0_0 : Chunk) (v0_0 : Own (Lay.int .i64) 3 A0_0 p0_0 x0.Values k0_0) (x1 : Int) (hs0 : Sat (blks [(1, k0_0)]) w0 w0 [] [(1, k0_0)]) (r : Int × (List Int)) (H : laws_markResult.f x0 x1 = some r) :
    Calls Try.prog 29 #[.agg #[.int .i64 x0.Code, .slice A0_0 x0.Values.length p0_0], .int .i64 x1] w0 (Ret (fun v w => ∃ (k0 : Chunk), v = .int .i64 r.1 ∧ (Own (Lay.int .i64) 3 A0_0 p0_0 r.2 k0 ∧ r.2.length = x0.Values.length) ∧ Sat (blks [(1, k0_0)]) w0 w [] [(0, k0)])) := by
  have hs := hs0
  unfold laws_markResult.f at H
  refine enter Try.func29 rfl Try.ntmps29 rfl fun a hk => ?_
  apply wp_seq_k; intro K1 hK1
  apply wp_region_lit
  refine sbx 2 hs rfl hk rfl rfl rfl rfl fun b2 w a hk hs => ?_
  refine sa _ rfl hk rfl rfl rfl fun a hk => ?_
  show wpList _ _ _ [] _ _
  refine wpList_nil ?_
  refine hK1 _ _ ?_
  apply wp_seq_k; intro K3 hK3
  apply wp_region_lit
  refine sf ⟨b2, 1, none⟩ rfl hk rfl rfl rfl fd43_1 rfl fun a hk => ?_
  refine sl rfl hk rfl rfl rfl ag27 (box_cell hs (k := 2) rfl rfl) fun a hk => ?_
  refine sm _ rfl hk rfl rfl rfl fun a hk => ?_
  obtain ⟨y4, h5, H⟩ := bind_some H
  refine sc rfl en19 hk rfl rfl rfl (laws_markIntS_t _ A0_0 p0_0 x0.Values _ v0_0 x1 ((hs.hand [(1, 1)] rfl).dpick [] rfl) _ h5) ?_
  rintro _ w ⟨k6, rfl, ⟨o7, lh8⟩, hG⟩ a hk
  have hs := hs.back [(1, 1)] rfl hG [1] rfl
  have lh9 : y4.2.length = x0.Values.length := lh8
  refine sa _ rfl hk rfl rfl rfl fun a hk => ?_
  show wpList _ _ _ [] _ _
  refine wpList_nil ?_
  refine hK3 _ _ ?_
  apply wp_seq_k; intro K10 hK10
  apply wp_region_lit
  refine sm _ rfl hk rfl rfl rfl fun a hk => ?_
  refine sa _ rfl hk rfl rfl rfl fun a hk => ?_
  show wpList _ _ _ [] _ _
  refine wpList_nil ?_
  refine hK10 _ _ ?_
  refine wp_ret ?_
  obtain rfl := Option.some.inj H
  exact fin hk _ [(.int .i64 y4.1)] rfl ⟨rfl, trivial⟩ ⟨_, rfl, ⟨o7, lh9⟩, (hs.pick [(0, 1)] rfl).dnil⟩

noncomputable def laws_heldIntS.s0 (l0 : List Int) (u6 : Int) (u7 : Int) : Option ((Int × Int) ⊕ Ex (Int) (Int)) :=
  (bif (decide (u7 < (l0.length : Int))) then (if 0 ≤ u7 ∧ u7 < (l0.length : Int) then (bif ((l0.getD u7.toNat 0) != u6) then (some (.inr (.ret (-1)))) else (some (.inl ((w64 (u6 + 1)), (w64 (u7 + 1)))))) else none) else (some (.inr (.out u6))))
noncomputable def laws_heldIntS.f (l0 : List Int) (x1 : Int) : Option (Int) :=
  ((loopO (fun s => laws_heldIntS.s0 l0 s.1 s.2) (x1, 0)).bind fun o => match o with | .out u8 => (some u8) | .ret r => (some r))
set_option maxRecDepth 100000 in
set_option maxHeartbeats 0 in
theorem laws_heldIntS_t (w0 : World) (A0_ : Option Addr) (p0_ : Nat) (l0 : List Int) (k0_ : Chunk) (v0_ : View (Lay.int .i64) A0_ p0_ l0 k0_) (w0_ : Has w0 k0_) (x1 : Int) (r : Int) (H : laws_heldIntS.f l0 x1 = some r) :
    Calls Try.prog 21 #[.slice A0_ l0.length p0_, .int .i64 x1] w0 (Ret (fun v w => v = .int .i64 r ∧ Sat [] w0 w [] [])) := by
  have hs : Sat [] w0 w0 [(1, k0_)] [] := Sat.init w0 [(1, k0_)] [] (by simp only [List.mem_cons, List.not_mem_nil, or_false]; rintro x (rfl) <;> assumption) (by simp) List.nodup_nil (by simp [blks])
  unfold laws_heldIntS.f at H
  refine enter Try.func21 rfl Try.ntmps21 rfl fun a hk => ?_
  apply wp_seq_k; intro K1 hK1
  apply wp_region_lit
  refine sa _ rfl hk rfl rfl rfl fun a hk => ?_
  show wpList _ _ _ [] _ _
  refine wpList_nil ?_
  refine hK1 _ _ ?_
  apply wp_seq_k; intro K2 hK2
  apply wp_seq_k; intro K3 hK3
  apply wp_region_lit
  refine sa _ rfl hk rfl rfl rfl fun a hk => ?_
  show wpList _ _ _ [] _ _
  refine wpList_nil ?_
  refine hK3 _ _ ?_
  obtain ⟨o9, h10, HL11⟩ := bind_some H
  clear H
  obtain ⟨R12, hR12⟩ : ∃ R : Act → World → Prop, R = fun a w => ∃ (u8 : Int), o9 = .out u8 ∧ Kn [(1, (.int .i64 u8))] 21 a ∧ Sat [] w0 w [(1, k0_)] [] := ⟨_, rfl⟩
  refine wp_cutq R12 ?_ ?_
  · refine wp_block ?_
    obtain ⟨fu14, h10⟩ := loopO_some h10
    obtain ⟨I13, hI13⟩ : ∃ I : Nat → Act → World → Prop, I = fun fu a w => ∃ (u6 : Int) (u7 : Int), loopN (fun s => laws_heldIntS.s0 l0 s.1 s.2) fu (u6, u7) = some o9 ∧ Kn [(0, (.slice A0_ l0.length p0_)), (1, (.int .i64 u6)), (5, (.int .i64 u7))] 21 a ∧ Sat [] w0 w [(1, k0_)] [] := ⟨_, rfl⟩
    refine wp_loop_ghost I13 fu14 ?_ ?_
    · rw [hI13]
      exact ⟨x1, 0, h10, (hk.c 0 rfl (hk.c 1 rfl (hk.c 5 rfl hk.k))), (hs.pick [] rfl)⟩
    · clear h10 hk hs
      intro fu14 a w hI0
      rw [hI13] at hI0
      obtain ⟨u6, u7, hi, hk, hs⟩ := hI0
      obtain ⟨x15, H, h16⟩ := loop_round hi
      try dsimp only at H
      unfold laws_heldIntS.s0 at H
      apply wp_seq_k; intro K17 hK17
      apply wp_seq_k; intro K18 hK18
      apply wp_region_lit
      refine sm _ rfl hk rfl rfl rfl fun a hk => ?_
      refine sm _ rfl hk rfl rfl rfl fun a hk => ?_
      refine sle rfl hk rfl rfl rfl un27 fun a hk => ?_
      refine sv (.bool (decide (u7 < (l0.length : Int)))) hk rfl rfl rfl fun a hk => ?_
      show wpList _ _ _ [] _ _
      refine wpList_nil ?_
      refine hK18 _ _ ?_
      rcases cond_some H with ⟨c19, H⟩ | ⟨c19, H⟩
      · have hk := hk.lit 9 c19 rfl
        refine cnd_true hk rfl rfl ?_
        refine wp_skip ?_
        refine hK17 _ _ ?_
        apply wp_seq_k; intro K20 hK20
        refine wp_block ?_
        apply wp_seq_k; intro K21 hK21
        apply wp_seq_k; intro K22 hK22
        apply wp_region_lit
        refine sm _ rfl hk rfl rfl rfl fun a hk => ?_
        refine sm _ rfl hk rfl rfl rfl fun a hk => ?_
        rcases ite_some H with ⟨c23, H⟩ | ⟨_, H⟩
        rotate_left
        · cases H
        obtain ⟨b24, q25, hAc23⟩ := (v0_).some_ u7 c23.1 c23.2
        refine si rfl hk rfl rfl rfl rfl un27 sz3 c23.1 c23.2 hAc23 fun a hk => ?_
        obtain ⟨_, rfl, e26⟩ := (v0_).at_ 0 u7 c23.1 c23.2
        refine sl (v := (.int .i64 (l0.getD u7.toNat 0))) rfl hk rfl rfl rfl ag3 ((e26 0 _ rfl).cell (hs.hasD (k := 1) rfl)) fun a hk => ?_
        refine sm _ rfl hk rfl rfl rfl fun a hk => ?_
        refine sv (.bool ((l0.getD u7.toNat 0) != u6)) hk rfl rfl rfl fun a hk => ?_
        show wpList _ _ _ [] _ _
        refine wpList_nil ?_
        refine hK22 _ _ ?_
        rcases cond_some H with ⟨c27, H⟩ | ⟨c27, H⟩
        · have hk := hk.lit 17 c27 rfl
          refine cnd_true hk rfl rfl ?_
          apply wp_seq_k; intro K28 hK28
          apply wp_region_lit
          refine sa _ rfl hk rfl rfl rfl fun a hk => ?_
          show wpList _ _ _ [] _ _
          refine wpList_nil ?_
          refine hK28 _ _ ?_
          refine wp_ret ?_
          obtain rfl := Option.some.inj H
          have ho9 := h16
          try dsimp only at ho9
          subst ho9
          have H := HL11
          try dsimp only at H
          obtain rfl := Option.some.inj H
          exact fin hk _ [(.int .i64 (-1))] rfl ⟨rfl, trivial⟩ ⟨rfl, (hs.pick [] rfl).dnil⟩
        · have hk := hk.lit 17 c27 rfl
          refine cnd_false hk rfl rfl ?_
          refine wp_skip ?_
          refine hK21 _ _ ?_
          apply wp_region_lit
          refine sm _ rfl hk rfl rfl rfl fun a hk => ?_
          refine sv (.int .i64 (w64 (u6 + 1))) hk rfl rfl rfl fun a hk => ?_
          refine sa _ rfl hk rfl rfl rfl fun a hk => ?_
          show wpList _ _ _ [] _ _
          refine wpList_nil ?_
          refine hK20 _ _ ?_
          apply wp_region_lit
          refine sm _ rfl hk rfl rfl rfl fun a hk => ?_
          refine sv (.int .i64 (w64 (u7 + 1))) hk rfl rfl rfl fun a hk => ?_
          refine sa _ rfl hk rfl rfl rfl fun a hk => ?_
          show wpList _ _ _ [] _ _
          refine wpList_nil ?_
          obtain rfl := Option.some.inj H
          obtain ⟨m29, hmm29, h16⟩ := h16
          show ∃ n', n' < _ ∧ I13 n' _ _
          refine ⟨m29, hmm29, ?_⟩
          rw [hI13]
          exact ⟨(w64 (u6 + 1)), (w64 (u7 + 1)), h16, (hk.c 0 rfl (hk.c 1 rfl (hk.c 5 rfl hk.k))), (hs.pick [] rfl)⟩
      · have hk := hk.lit 9 c19 rfl
        refine cnd_false hk rfl rfl ?_
        refine wp_exit ?_
        obtain rfl := Option.some.inj H
        show R12 _ _
        rw [hR12]
        exact ⟨u6, h16.symm, (hk.c 1 rfl hk.k), (hs.pick [] rfl)⟩
  · intro a w hR0
    rw [hR12] at hR0
    obtain ⟨u8, rfl, hk, hs⟩ := hR0
    have H := HL11
    try dsimp only at H
    refine hK2 _ _ ?_
    apply wp_seq_k; intro K30 hK30
    apply wp_region_lit
    refine sm _ rfl hk rfl rfl rfl fun a hk => ?_
    refine sa _ rfl hk rfl rfl rfl fun a hk => ?_
    show wpList _ _ _ [] _ _
    refine wpList_nil ?_
    refine hK30 _ _ ?_
    refine wp_ret ?_
    obtain rfl := Option.some.inj H
    exact fin hk _ [(.int .i64 u8)] rfl ⟨rfl, trivial⟩ ⟨rfl, (hs.pick [] rfl).dnil⟩

noncomputable def laws_heldResult.f (x0 : S_Result) (x1 : Int) : Option (Int) :=
  ((laws_heldIntS.f x0.Values x1).bind fun y4 => (bif (decide (y4 < 0)) then (some (-1)) else (some y4)))
set_option maxRecDepth 100000 in
set_option maxHeartbeats 0 in
theorem laws_heldResult_t (w0 : World) (x0 : S_Result) (A0_0 : Option Addr) (p0_0 : Nat) (k0_0 : Chunk) (v0_0 : View (Lay.int .i64) A0_0 p0_0 x0.Values k0_0) (w0_0 : Has w0 k0_0) (x1 : Int) (r : Int) (H : laws_heldResult.f x0 x1 = some r) :
    Calls Try.prog 30 #[.agg #[.int .i64 x0.Code, .slice A0_0 x0.Values.length p0_0], .int .i64 x1] w0 (Ret (fun v w => v = .int .i64 r ∧ Sat [] w0 w [] [])) := by
  have hs : Sat [] w0 w0 [(1, k0_0)] [] := Sat.init w0 [(1, k0_0)] [] (by simp only [List.mem_cons, List.not_mem_nil, or_false]; rintro x (rfl) <;> assumption) (by simp) List.nodup_nil (by simp [blks])
  unfold laws_heldResult.f at H
  refine enter Try.func30 rfl Try.ntmps30 rfl fun a hk => ?_
  apply wp_seq_k; intro K1 hK1
  apply wp_region_lit
  refine sbx 2 hs rfl hk rfl rfl rfl rfl fun b2 w a hk hs => ?_
  refine sa _ rfl hk rfl rfl rfl fun a hk => ?_
  show wpList _ _ _ [] _ _
  refine wpList_nil ?_
  refine hK1 _ _ ?_
  apply wp_seq_k; intro K3 hK3
  apply wp_region_lit
  refine sf ⟨b2, 1, none⟩ rfl hk rfl rfl rfl fd43_1 rfl fun a hk => ?_
  refine sl rfl hk rfl rfl rfl ag27 (box_cell hs (k := 2) rfl rfl) fun a hk => ?_
  refine sm _ rfl hk rfl rfl rfl fun a hk => ?_
  obtain ⟨y4, h5, H⟩ := bind_some H
  refine sc rfl en21 hk rfl rfl rfl (laws_heldIntS_t _ A0_0 p0_0 x0.Values _ v0_0 (hs.hasD (k := 1) rfl) x1 _ h5) ?_
  rintro _ w ⟨rfl, hG⟩ a hk
  have hs := hs.call0 hG
  refine sa _ rfl hk rfl rfl rfl fun a hk => ?_
  show wpList _ _ _ [] _ _
  refine wpList_nil ?_
  refine hK3 _ _ ?_
  apply wp_seq_k; intro K6 hK6
  apply wp_seq_k; intro K7 hK7
  apply wp_region_lit
  refine sm _ rfl hk rfl rfl rfl fun a hk => ?_
  refine sv (.bool (decide (y4 < 0))) hk rfl rfl rfl fun a hk => ?_
  show wpList _ _ _ [] _ _
  refine wpList_nil ?_
  refine hK7 _ _ ?_
  rcases cond_some H with ⟨c8, H⟩ | ⟨c8, H⟩
  · have hk := hk.lit 10 c8 rfl
    refine cnd_true hk rfl rfl ?_
    apply wp_seq_k; intro K9 hK9
    apply wp_region_lit
    refine sa _ rfl hk rfl rfl rfl fun a hk => ?_
    show wpList _ _ _ [] _ _
    refine wpList_nil ?_
    refine hK9 _ _ ?_
    refine wp_ret ?_
    obtain rfl := Option.some.inj H
    exact fin hk _ [(.int .i64 (-1))] rfl ⟨rfl, trivial⟩ ⟨rfl, (hs.pick [] rfl).dnil⟩
  · have hk := hk.lit 10 c8 rfl
    refine cnd_false hk rfl rfl ?_
    refine wp_skip ?_
    refine hK6 _ _ ?_
    apply wp_seq_k; intro K10 hK10
    apply wp_region_lit
    refine sm _ rfl hk rfl rfl rfl fun a hk => ?_
    refine sa _ rfl hk rfl rfl rfl fun a hk => ?_
    show wpList _ _ _ [] _ _
    refine wpList_nil ?_
    refine hK10 _ _ ?_
    refine wp_ret ?_
    obtain rfl := Option.some.inj H
    exact fin hk _ [(.int .i64 y4)] rfl ⟨rfl, trivial⟩ ⟨rfl, (hs.pick [] rfl).dnil⟩

noncomputable def laws_FnExactMapTxn.f (l0 : List S_Entry) (x1 : S_Txn) : Option (Bool) :=
  ((laws_szEntryS.f l0 1048576).bind fun y5 => (bif (decide (y5 < 0)) then (some true) else ((laws_szTxn.f x1 y5).bind fun y12 => (bif (decide (y12 < 0)) then (some true) else ((laws_toEntryS.f l0).bind fun y_r19_1_1 => ((laws_toTxn.f x1).bind fun y_r19_3_1 => ((spec_MapTxn.f y_r19_1_1 y_r19_3_1).bind fun y_r19_4_1 => ((laws_toEntryS.f l0).bind fun y22 => ((laws_toTxn.f x1).bind fun y29 => ((impl_MapTxn.f y22 y29).bind fun y37 => ((((laws_eqEntryS.f y37.1 y_r19_4_1.1).bind fun y56 => (bif (!y56) then (some true) else ((laws_eqResult.f y37.2.1 (⟨y_r19_4_1.2.1.Code, y_r19_4_1.2.1.Values⟩ : S_Result)).bind fun y59 => (bif (!y59) then (some true) else (some (y37.2.2 != y_r19_4_1.2.2)))))) : Option (Bool)).bind fun u51 => (bif u51 then (some false) else ((laws_toEntryS.f l0).bind fun y66 => ((laws_eqEntryS.f y22 y66).bind fun y72 => (bif (!y72) then (some false) else ((laws_toTxn.f x1).bind fun y79 => ((laws_eqTxn.f y29 y79).bind fun y85 => (bif (!y85) then (some false) else ((laws_markEntryS.f y22 1).bind fun y91 => ((laws_markTxn.f y29 y91.1).bind fun y98 => (((bif (decide (y98.1 < 0)) then (some true) else ((laws_eqEntryS.f y37.1 y_r19_4_1.1).bind fun y113 => (bif (!y113) then (some true) else ((laws_eqResult.f y37.2.1 (⟨y_r19_4_1.2.1.Code, y_r19_4_1.2.1.Values⟩ : S_Result)).bind fun y116 => (bif (!y116) then (some true) else (some (y37.2.2 != y_r19_4_1.2.2))))))) : Option (Bool)).bind fun u107 => (bif u107 then (some false) else ((laws_markEntryS.f y37.1 1).bind fun y123 => ((laws_markResult.f y37.2.1 y123.1).bind fun y130 => ((laws_heldEntryS.f y123.2 1).bind fun y138 => (bif (decide (y138 < 0)) then (some false) else ((laws_heldResult.f (⟨y37.2.1.Code, y130.2⟩ : S_Result) y138).bind fun y145 => (bif (decide (y145 < 0)) then (some false) else (bif (y145 != y130.1) then (some false) else ((laws_toEntryS.f l0).bind fun y_r156_1_1 => ((laws_toTxn.f x1).bind fun y_r156_3_1 => ((impl_MapTxn.f y_r156_1_1 y_r156_3_1).bind fun y_r156_4_1 => ((((laws_eqEntryS.f y_r156_4_1.1 y_r19_4_1.1).bind fun y166 => (bif (!y166) then (some true) else ((laws_eqResult.f (⟨y_r156_4_1.2.1.Code, y_r156_4_1.2.1.Values⟩ : S_Result) (⟨y_r19_4_1.2.1.Code, y_r19_4_1.2.1.Values⟩ : S_Result)).bind fun y169 => (bif (!y169) then (some true) else (some (y_r156_4_1.2.2 != y_r19_4_1.2.2)))))) : Option (Bool)).bind fun u161 => (bif u161 then (some false) else ((laws_heldEntryS.f y123.2 1).bind fun y176 => (bif (decide (y176 < 0)) then (some false) else ((laws_heldResult.f (⟨y37.2.1.Code, y130.2⟩ : S_Result) y176).bind fun y183 => (bif (decide (y183 < 0)) then (some false) else (bif (y183 != y130.1) then (some false) else (some true))))))))))))))))))))))))))))))))))))))))
set_option maxRecDepth 100000 in
set_option maxHeartbeats 0 in
theorem laws_FnExactMapTxn_t (w0 : World) (A0_ : Option Addr) (p0_ : Nat) (l0 : List S_Entry) (k0_ : Chunk) (v0_ : View L_Entry A0_ p0_ l0 k0_) (w0_ : Has w0 k0_) (x1 : S_Txn) (A1_0 : Option Addr) (p1_0 : Nat) (k1_0 : Chunk) (v1_0 : View L_Op A1_0 p1_0 x1.Ops k1_0) (w1_0 : Has w0 k1_0) (r : Bool) (H : laws_FnExactMapTxn.f l0 x1 = some r) :
    Calls Try.prog 4 #[.slice A0_ l0.length p0_, .agg #[.slice A1_0 x1.Ops.length p1_0]] w0 (Ret (fun v w => v = .bool r ∧ Sat [] w0 w [] [])) := by
  have hs : Sat [] w0 w0 [(1, k0_), (2, k1_0)] [] := Sat.init w0 [(1, k0_), (2, k1_0)] [] (by simp only [List.mem_cons, List.not_mem_nil, or_false]; rintro x (rfl | rfl) <;> assumption) (by simp) List.nodup_nil (by simp [blks])
  unfold laws_FnExactMapTxn.f at H
  refine enter Try.func4 rfl Try.ntmps4 rfl fun a hk => ?_
  apply wp_seq_k; intro K1 hK1
  apply wp_region_lit
  refine sbx 3 hs rfl hk rfl rfl rfl rfl fun b2 w a hk hs => ?_
  refine sa _ rfl hk rfl rfl rfl fun a hk => ?_
  show wpList _ _ _ [] _ _
  refine wpList_nil ?_
  refine hK1 _ _ ?_
  apply wp_seq_k; intro K3 hK3
  apply wp_region_lit
  refine sa _ rfl hk rfl rfl rfl fun a hk => ?_
  show wpList _ _ _ [] _ _
  refine wpList_nil ?_
  refine hK3 _ _ ?_
  apply wp_seq_k; intro K4 hK4
  apply wp_region_lit
  refine sm _ rfl hk rfl rfl rfl fun a hk => ?_
  refine sm _ rfl hk rfl rfl rfl fun a hk => ?_
  obtain ⟨y5, h6, H⟩ := bind_some H
  refine sc rfl en11 hk rfl rfl rfl (laws_szEntryS_t _ A0_ p0_ l0 _ v0_ (hs.hasD (k := 1) rfl) 1048576 _ h6) ?_
  rintro _ w ⟨rfl, hG⟩ a hk
  have hs := hs.call0 hG
  refine sa _ rfl hk rfl rfl rfl fun a hk => ?_
  show wpList _ _ _ [] _ _
  refine wpList_nil ?_
  refine hK4 _ _ ?_
  apply wp_seq_k; intro K7 hK7
  apply wp_seq_k; intro K8 hK8
  apply wp_region_lit
  refine sm _ rfl hk rfl rfl rfl fun a hk => ?_
  refine sv (.bool (decide (y5 < 0))) hk rfl rfl rfl fun a hk => ?_
  show wpList _ _ _ [] _ _
  refine wpList_nil ?_
  refine hK8 _ _ ?_
  rcases cond_some H with ⟨c9, H⟩ | ⟨c9, H⟩
  · have hk := hk.lit 24 c9 rfl
    refine cnd_true hk rfl rfl ?_
    apply wp_seq_k; intro K10 hK10
    apply wp_region_lit
    refine sa _ rfl hk rfl rfl rfl fun a hk => ?_
    show wpList _ _ _ [] _ _
    refine wpList_nil ?_
    refine hK10 _ _ ?_
    refine wp_ret ?_
    obtain rfl := Option.some.inj H
    exact fin hk _ [(.bool true)] rfl ⟨rfl, trivial⟩ ⟨rfl, (hs.pick [] rfl).dnil⟩
  · have hk := hk.lit 24 c9 rfl
    refine cnd_false hk rfl rfl ?_
    refine wp_skip ?_
    refine hK7 _ _ ?_
    apply wp_seq_k; intro K11 hK11
    apply wp_region_lit
    refine sln [.slice A1_0 x1.Ops.length p1_0] rfl hk rfl rfl rfl ag40 sz40 (box_cells hs (k := 3) rfl) fun a hk => ?_
    refine sm _ rfl hk rfl rfl rfl fun a hk => ?_
    obtain ⟨y12, h13, H⟩ := bind_some H
    refine sc rfl en22 hk rfl rfl rfl (laws_szTxn_t _ x1 A1_0 p1_0 _ v1_0 (hs.hasD (k := 2) rfl) y5 _ h13) ?_
    rintro _ w ⟨rfl, hG⟩ a hk
    have hs := hs.call0 hG
    refine sa _ rfl hk rfl rfl rfl fun a hk => ?_
    show wpList _ _ _ [] _ _
    refine wpList_nil ?_
    refine hK11 _ _ ?_
    apply wp_seq_k; intro K14 hK14
    apply wp_seq_k; intro K15 hK15
    apply wp_region_lit
    refine sm _ rfl hk rfl rfl rfl fun a hk => ?_
    refine sv (.bool (decide (y12 < 0))) hk rfl rfl rfl fun a hk => ?_
    show wpList _ _ _ [] _ _
    refine wpList_nil ?_
    refine hK15 _ _ ?_
    rcases cond_some H with ⟨c16, H⟩ | ⟨c16, H⟩
    · have hk := hk.lit 29 c16 rfl
      refine cnd_true hk rfl rfl ?_
      apply wp_seq_k; intro K17 hK17
      apply wp_region_lit
      refine sa _ rfl hk rfl rfl rfl fun a hk => ?_
      show wpList _ _ _ [] _ _
      refine wpList_nil ?_
      refine hK17 _ _ ?_
      refine wp_ret ?_
      obtain rfl := Option.some.inj H
      exact fin hk _ [(.bool true)] rfl ⟨rfl, trivial⟩ ⟨rfl, (hs.pick [] rfl).dnil⟩
    · have hk := hk.lit 29 c16 rfl
      refine cnd_false hk rfl rfl ?_
      refine wp_skip ?_
      refine hK14 _ _ ?_
      apply wp_seq_k; intro K18 hK18
      obtain ⟨y_r19_1_1, h_r19_1_2, H⟩ := bind_some H
      obtain ⟨y_r19_3_1, h_r19_3_2, H⟩ := bind_some H
      obtain ⟨y_r19_4_1, h_r19_4_2, H⟩ := bind_some H
      obtain ⟨R20, hR20⟩ : ∃ R : Act → World → Prop, R = fun a w => ∃ (A_r19_4_3 : Option Addr) (p_r19_4_4 : Nat) (b_r19_9_1 : Nat) (k_r19_4_5 : Chunk) (A_r19_4_7 : Option Addr) (p_r19_4_8 : Nat) (k_r19_4_9 : Chunk), Kn [(0, (.slice A0_ l0.length p0_)), (3, (.pointer (some ⟨b2, 0, none⟩))), (6, (.slice A_r19_4_3 y_r19_4_1.1.length p_r19_4_4)), (7, (.pointer (some ⟨b_r19_9_1, 0, none⟩))), (8, (.int .i64 y_r19_4_1.2.2))] 156 a ∧ Sat [] w0 w [(1, k0_), (2, k1_0)] [(104081, k_r19_4_5), (3, [(b2, .cells #[.slice A1_0 x1.Ops.length p1_0] 40 (0, 0))]), (104181, [(b_r19_9_1, .cells #[.int .i64 y_r19_4_1.2.1.Code, .slice A_r19_4_7 y_r19_4_1.2.1.Values.length p_r19_4_8] 43 (0, 0))]), (104082, k_r19_4_9)] ∧ Own L_Entry 62 A_r19_4_3 p_r19_4_4 y_r19_4_1.1 k_r19_4_5 ∧ Own (Lay.int .i64) 3 A_r19_4_7 p_r19_4_8 y_r19_4_1.2.1.Values k_r19_4_9 := ⟨_, rfl⟩
      refine wp_cutq R20 ?_ ?_
      · skip
        refine wp_region_tree (.q 0 (.q 2 (.alt 1 (.alt 3 (.alt 4 (.q 5 (.q 6 (.q 7 (.q 8 (.alt 9 (.alt 10 (.alt 11 (.last 12) .stop) .stop) .stop))))) (.alt 9 (.alt 4 (.alt 5 (.q 6 (.q 7 (.q 8 (.alt 10 (.alt 11 (.last 12) .stop) .stop)))) .stop) .stop) .stop)) (.alt 9 (.alt 3 (.alt 4 (.alt 5 (.q 6 (.q 7 (.q 8 (.alt 10 (.alt 11 (.last 12) .stop) .stop)))) .stop) .stop) .stop) .stop)) (.alt 9 (.alt 1 (.alt 3 (.alt 4 (.alt 5 (.q 6 (.q 7 (.q 8 (.alt 10 (.alt 11 (.last 12) .stop) .stop)))) .stop) .stop) .stop) .stop) .stop)))) mo (by kernel_rfl) (hs.pick [(3, 3)] rfl) fun _ => ?_
        have hs := hs.drew
        refine tqst (.slice A0_ l0.length p0_) hk rfl rfl rfl rfl (fun w hs => sm _ rfl hk rfl rfl rfl fun a hk => qe hk) fun a hk => ?_
        refine tqst (.agg #[.slice A1_0 x1.Ops.length p1_0]) hk rfl rfl rfl rfl (fun w hs => sln [.slice A1_0 x1.Ops.length p1_0] rfl hk rfl rfl rfl ag40 sz40 (box_cells hs (k := 3) rfl) fun a hk => qe hk) fun a hk => ?_
        refine tsst hk rfl rfl (fun K_r19_1 hK_r19_1 w hF => ?_) ?_
        · skip
          have hs := hs.f hF
          refine sc rfl en13 hk rfl rfl rfl (laws_toEntryS_t _ A0_ p0_ l0 _ v0_ (hs.hasD (k := 1) rfl) _ h_r19_1_2) ?_
          rintro _ w ⟨A_r19_1_3, p_r19_1_4, k_r19_1_5, rfl, o_r19_1_6, hG⟩ a hk
          have hs := hs.call0k hG [104021] rfl
          refine se (hs.pick [(3, 3)] rfl) hk (hK_r19_1 _ _ ?_)
          refine tsst hk rfl rfl (fun K_r19_3 hK_r19_3 w hF => ?_) ?_
          · skip
            have hs := hs.f hF
            refine sc rfl en24 hk rfl rfl rfl (laws_toTxn_t _ x1 A1_0 p1_0 _ v1_0 (hs.hasD (k := 2) rfl) _ h_r19_3_2) ?_
            rintro _ w ⟨A_r19_3_3, p_r19_3_4, k_r19_3_5, rfl, o_r19_3_6, hG⟩ a hk
            have hs := hs.call0k hG [104061] rfl
            refine se (hs.pick [(3, 3)] rfl) hk (hK_r19_3 _ _ ?_)
            refine tsst hk rfl rfl (fun K_r19_4 hK_r19_4 w hF => ?_) ?_
            · skip
              have hs := hs.f hF
              refine sc rfl en23 hk rfl rfl rfl (spec_MapTxn_t _ A_r19_1_3 p_r19_1_4 y_r19_1_1 _ o_r19_1_6.view (hs.hasG (k := 104021) rfl) y_r19_3_1 A_r19_3_3 p_r19_3_4 _ o_r19_3_6.view (hs.hasG (k := 104061) rfl) _ h_r19_4_2) ?_
              rintro _ w ⟨A_r19_4_3, p_r19_4_4, k_r19_4_5, A_r19_4_7, p_r19_4_8, k_r19_4_9, rfl, o_r19_4_6, o_r19_4_10, hG⟩ a hk
              have hs := hs.call0k hG [104081, 104082] rfl
              refine se (hs.pick [(3, 3)] rfl) hk (hK_r19_4 _ _ ?_)
              refine tqst (.tuple #[(.slice A_r19_4_3 y_r19_4_1.1.length p_r19_4_4), (.agg #[.int .i64 y_r19_4_1.2.1.Code, .slice A_r19_4_7 y_r19_4_1.2.1.Values.length p_r19_4_8]), (.int .i64 y_r19_4_1.2.2)]) hk rfl rfl rfl rfl (fun w hs => sm _ rfl hk rfl rfl rfl fun a hk => qe hk) fun a hk => ?_
              refine tqst (.slice A_r19_4_3 y_r19_4_1.1.length p_r19_4_4) hk rfl rfl rfl rfl (fun w hs => sv (.slice A_r19_4_3 y_r19_4_1.1.length p_r19_4_4) hk rfl rfl rfl fun a hk => qe hk) fun a hk => ?_
              refine tqst (.agg #[.int .i64 y_r19_4_1.2.1.Code, .slice A_r19_4_7 y_r19_4_1.2.1.Values.length p_r19_4_8]) hk rfl rfl rfl rfl (fun w hs => sv (.agg #[.int .i64 y_r19_4_1.2.1.Code, .slice A_r19_4_7 y_r19_4_1.2.1.Values.length p_r19_4_8]) hk rfl rfl rfl fun a hk => qe hk) fun a hk => ?_
              refine tqst (.int .i64 y_r19_4_1.2.2) hk rfl rfl rfl rfl (fun w hs => sv (.int .i64 y_r19_4_1.2.2) hk rfl rfl rfl fun a hk => qe hk) fun a hk => ?_
              refine tsst hk rfl rfl (fun K_r19_9 hK_r19_9 w hF => ?_) wt_stop
              have hs := hs.f hF
              refine salx 104181 hs rfl hk rfl rfl ze43 rfl fun b_r19_9_1 w a hk hs => ?_
              refine se (hs.pick [(3, 3)] rfl) hk (hK_r19_9 _ _ ?_)
              refine tsst hk rfl rfl (fun K_r19_10 hK_r19_10 w hF => ?_) wt_stop
              have hs := hs.f hF
              refine sa _ rfl hk rfl rfl rfl fun a hk => ?_
              refine se (hs.pick [(3, 3)] rfl) hk (hK_r19_10 _ _ ?_)
              refine tsst hk rfl rfl (fun K_r19_11 hK_r19_11 w hF => ?_) wt_stop
              have hs := hs.f hF
              refine ssw 104181 hs rfl rfl hk rfl rfl rfl rfl sz43 (by simp [Value.oneCell']) rfl fun w a hk hs => ?_
              refine se (hs.pick [(3, 3)] rfl) hk (hK_r19_11 _ _ ?_)
              refine tlst hk rfl rfl fun K_r19_12 hK_r19_12 w hF => ?_
              have hs := hs.f hF
              refine sa _ rfl hk rfl rfl rfl fun a hk => ?_
              refine se trivial hk (hK_r19_12 _ _ fun w hF => ?_)
              have hs := hs.f hF
              show R20 _ _
              rw [hR20]
              exact ⟨A_r19_4_3, p_r19_4_4, b_r19_9_1, k_r19_4_5, A_r19_4_7, p_r19_4_8, k_r19_4_9, (hk.c 0 rfl (hk.c 3 rfl (hk.c 6 rfl (hk.c 7 rfl (hk.c 8 rfl hk.k))))), (hs.pick [(104081, 104081), (3, 3), (104181, 104181), (104082, 104082)] rfl), o_r19_4_6, o_r19_4_10⟩
            refine tsst hk rfl rfl (fun K_r19_9 hK_r19_9 w hF => ?_) wt_stop
            have hs := hs.f hF
            refine salx 104181 hs rfl hk rfl rfl ze43 rfl fun b_r19_9_1 w a hk hs => ?_
            refine se (hs.pick [(3, 3)] rfl) hk (hK_r19_9 _ _ ?_)
            refine tsst hk rfl rfl (fun K_r19_4 hK_r19_4 w hF => ?_) wt_stop
            have hs := hs.f hF
            refine sc rfl en23 hk rfl rfl rfl (spec_MapTxn_t _ A_r19_1_3 p_r19_1_4 y_r19_1_1 _ o_r19_1_6.view (hs.hasG (k := 104021) rfl) y_r19_3_1 A_r19_3_3 p_r19_3_4 _ o_r19_3_6.view (hs.hasG (k := 104061) rfl) _ h_r19_4_2) ?_
            rintro _ w ⟨A_r19_4_3, p_r19_4_4, k_r19_4_5, A_r19_4_7, p_r19_4_8, k_r19_4_9, rfl, o_r19_4_6, o_r19_4_10, hG⟩ a hk
            have hs := hs.call0k hG [104081, 104082] rfl
            refine se (hs.pick [(3, 3)] rfl) hk (hK_r19_4 _ _ ?_)
            refine tsst hk rfl rfl (fun K_r19_5 hK_r19_5 w hF => ?_) wt_stop
            have hs := hs.f hF
            refine sm _ rfl hk rfl rfl rfl fun a hk => ?_
            refine se (hs.pick [(3, 3)] rfl) hk (hK_r19_5 _ _ ?_)
            refine tqst (.slice A_r19_4_3 y_r19_4_1.1.length p_r19_4_4) hk rfl rfl rfl rfl (fun w hs => sv (.slice A_r19_4_3 y_r19_4_1.1.length p_r19_4_4) hk rfl rfl rfl fun a hk => qe hk) fun a hk => ?_
            refine tqst (.agg #[.int .i64 y_r19_4_1.2.1.Code, .slice A_r19_4_7 y_r19_4_1.2.1.Values.length p_r19_4_8]) hk rfl rfl rfl rfl (fun w hs => sv (.agg #[.int .i64 y_r19_4_1.2.1.Code, .slice A_r19_4_7 y_r19_4_1.2.1.Values.length p_r19_4_8]) hk rfl rfl rfl fun a hk => qe hk) fun a hk => ?_
            refine tqst (.int .i64 y_r19_4_1.2.2) hk rfl rfl rfl rfl (fun w hs => sv (.int .i64 y_r19_4_1.2.2) hk rfl rfl rfl fun a hk => qe hk) fun a hk => ?_
            refine tsst hk rfl rfl (fun K_r19_10 hK_r19_10 w hF => ?_) wt_stop
            have hs := hs.f hF
            refine sa _ rfl hk rfl rfl rfl fun a hk => ?_
            refine se (hs.pick [(3, 3)] rfl) hk (hK_r19_10 _ _ ?_)
            refine tsst hk rfl rfl (fun K_r19_11 hK_r19_11 w hF => ?_) wt_stop
            have hs := hs.f hF
            refine ssw 104181 hs rfl rfl hk rfl rfl rfl rfl sz43 (by simp [Value.oneCell']) rfl fun w a hk hs => ?_
            refine se (hs.pick [(3, 3)] rfl) hk (hK_r19_11 _ _ ?_)
            refine tlst hk rfl rfl fun K_r19_12 hK_r19_12 w hF => ?_
            have hs := hs.f hF
            refine sa _ rfl hk rfl rfl rfl fun a hk => ?_
            refine se trivial hk (hK_r19_12 _ _ fun w hF => ?_)
            have hs := hs.f hF
            show R20 _ _
            rw [hR20]
            exact ⟨A_r19_4_3, p_r19_4_4, b_r19_9_1, k_r19_4_5, A_r19_4_7, p_r19_4_8, k_r19_4_9, (hk.c 0 rfl (hk.c 3 rfl (hk.c 6 rfl (hk.c 7 rfl (hk.c 8 rfl hk.k))))), (hs.pick [(104081, 104081), (3, 3), (104181, 104181), (104082, 104082)] rfl), o_r19_4_6, o_r19_4_10⟩
          refine tsst hk rfl rfl (fun K_r19_9 hK_r19_9 w hF => ?_) wt_stop
          have hs := hs.f hF
          refine salx 104181 hs rfl hk rfl rfl ze43 rfl fun b_r19_9_1 w a hk hs => ?_
          refine se (hs.pick [(3, 3)] rfl) hk (hK_r19_9 _ _ ?_)
          refine tsst hk rfl rfl (fun K_r19_3 hK_r19_3 w hF => ?_) wt_stop
          have hs := hs.f hF
          refine sc rfl en24 hk rfl rfl rfl (laws_toTxn_t _ x1 A1_0 p1_0 _ v1_0 (hs.hasD (k := 2) rfl) _ h_r19_3_2) ?_
          rintro _ w ⟨A_r19_3_3, p_r19_3_4, k_r19_3_5, rfl, o_r19_3_6, hG⟩ a hk
          have hs := hs.call0k hG [104061] rfl
          refine se (hs.pick [(3, 3)] rfl) hk (hK_r19_3 _ _ ?_)
          refine tsst hk rfl rfl (fun K_r19_4 hK_r19_4 w hF => ?_) wt_stop
          have hs := hs.f hF
          refine sc rfl en23 hk rfl rfl rfl (spec_MapTxn_t _ A_r19_1_3 p_r19_1_4 y_r19_1_1 _ o_r19_1_6.view (hs.hasG (k := 104021) rfl) y_r19_3_1 A_r19_3_3 p_r19_3_4 _ o_r19_3_6.view (hs.hasG (k := 104061) rfl) _ h_r19_4_2) ?_
          rintro _ w ⟨A_r19_4_3, p_r19_4_4, k_r19_4_5, A_r19_4_7, p_r19_4_8, k_r19_4_9, rfl, o_r19_4_6, o_r19_4_10, hG⟩ a hk
          have hs := hs.call0k hG [104081, 104082] rfl
          refine se (hs.pick [(3, 3)] rfl) hk (hK_r19_4 _ _ ?_)
          refine tsst hk rfl rfl (fun K_r19_5 hK_r19_5 w hF => ?_) wt_stop
          have hs := hs.f hF
          refine sm _ rfl hk rfl rfl rfl fun a hk => ?_
          refine se (hs.pick [(3, 3)] rfl) hk (hK_r19_5 _ _ ?_)
          refine tqst (.slice A_r19_4_3 y_r19_4_1.1.length p_r19_4_4) hk rfl rfl rfl rfl (fun w hs => sv (.slice A_r19_4_3 y_r19_4_1.1.length p_r19_4_4) hk rfl rfl rfl fun a hk => qe hk) fun a hk => ?_
          refine tqst (.agg #[.int .i64 y_r19_4_1.2.1.Code, .slice A_r19_4_7 y_r19_4_1.2.1.Values.length p_r19_4_8]) hk rfl rfl rfl rfl (fun w hs => sv (.agg #[.int .i64 y_r19_4_1.2.1.Code, .slice A_r19_4_7 y_r19_4_1.2.1.Values.length p_r19_4_8]) hk rfl rfl rfl fun a hk => qe hk) fun a hk => ?_
          refine tqst (.int .i64 y_r19_4_1.2.2) hk rfl rfl rfl rfl (fun w hs => sv (.int .i64 y_r19_4_1.2.2) hk rfl rfl rfl fun a hk => qe hk) fun a hk => ?_
          refine tsst hk rfl rfl (fun K_r19_10 hK_r19_10 w hF => ?_) wt_stop
          have hs := hs.f hF
          refine sa _ rfl hk rfl rfl rfl fun a hk => ?_
          refine se (hs.pick [(3, 3)] rfl) hk (hK_r19_10 _ _ ?_)
          refine tsst hk rfl rfl (fun K_r19_11 hK_r19_11 w hF => ?_) wt_stop
          have hs := hs.f hF
          refine ssw 104181 hs rfl rfl hk rfl rfl rfl rfl sz43 (by simp [Value.oneCell']) rfl fun w a hk hs => ?_
          refine se (hs.pick [(3, 3)] rfl) hk (hK_r19_11 _ _ ?_)
          refine tlst hk rfl rfl fun K_r19_12 hK_r19_12 w hF => ?_
          have hs := hs.f hF
          refine sa _ rfl hk rfl rfl rfl fun a hk => ?_
          refine se trivial hk (hK_r19_12 _ _ fun w hF => ?_)
          have hs := hs.f hF
          show R20 _ _
          rw [hR20]
          exact ⟨A_r19_4_3, p_r19_4_4, b_r19_9_1, k_r19_4_5, A_r19_4_7, p_r19_4_8, k_r19_4_9, (hk.c 0 rfl (hk.c 3 rfl (hk.c 6 rfl (hk.c 7 rfl (hk.c 8 rfl hk.k))))), (hs.pick [(104081, 104081), (3, 3), (104181, 104181), (104082, 104082)] rfl), o_r19_4_6, o_r19_4_10⟩
        refine tsst hk rfl rfl (fun K_r19_9 hK_r19_9 w hF => ?_) wt_stop
        have hs := hs.f hF
        refine salx 104181 hs rfl hk rfl rfl ze43 rfl fun b_r19_9_1 w a hk hs => ?_
        refine se (hs.pick [(3, 3)] rfl) hk (hK_r19_9 _ _ ?_)
        refine tsst hk rfl rfl (fun K_r19_1 hK_r19_1 w hF => ?_) wt_stop
        have hs := hs.f hF
        refine sc rfl en13 hk rfl rfl rfl (laws_toEntryS_t _ A0_ p0_ l0 _ v0_ (hs.hasD (k := 1) rfl) _ h_r19_1_2) ?_
        rintro _ w ⟨A_r19_1_3, p_r19_1_4, k_r19_1_5, rfl, o_r19_1_6, hG⟩ a hk
        have hs := hs.call0k hG [104021] rfl
        refine se (hs.pick [(3, 3)] rfl) hk (hK_r19_1 _ _ ?_)
        refine tsst hk rfl rfl (fun K_r19_3 hK_r19_3 w hF => ?_) wt_stop
        have hs := hs.f hF
        refine sc rfl en24 hk rfl rfl rfl (laws_toTxn_t _ x1 A1_0 p1_0 _ v1_0 (hs.hasD (k := 2) rfl) _ h_r19_3_2) ?_
        rintro _ w ⟨A_r19_3_3, p_r19_3_4, k_r19_3_5, rfl, o_r19_3_6, hG⟩ a hk
        have hs := hs.call0k hG [104061] rfl
        refine se (hs.pick [(3, 3)] rfl) hk (hK_r19_3 _ _ ?_)
        refine tsst hk rfl rfl (fun K_r19_4 hK_r19_4 w hF => ?_) wt_stop
        have hs := hs.f hF
        refine sc rfl en23 hk rfl rfl rfl (spec_MapTxn_t _ A_r19_1_3 p_r19_1_4 y_r19_1_1 _ o_r19_1_6.view (hs.hasG (k := 104021) rfl) y_r19_3_1 A_r19_3_3 p_r19_3_4 _ o_r19_3_6.view (hs.hasG (k := 104061) rfl) _ h_r19_4_2) ?_
        rintro _ w ⟨A_r19_4_3, p_r19_4_4, k_r19_4_5, A_r19_4_7, p_r19_4_8, k_r19_4_9, rfl, o_r19_4_6, o_r19_4_10, hG⟩ a hk
        have hs := hs.call0k hG [104081, 104082] rfl
        refine se (hs.pick [(3, 3)] rfl) hk (hK_r19_4 _ _ ?_)
        refine tsst hk rfl rfl (fun K_r19_5 hK_r19_5 w hF => ?_) wt_stop
        have hs := hs.f hF
        refine sm _ rfl hk rfl rfl rfl fun a hk => ?_
        refine se (hs.pick [(3, 3)] rfl) hk (hK_r19_5 _ _ ?_)
        refine tqst (.slice A_r19_4_3 y_r19_4_1.1.length p_r19_4_4) hk rfl rfl rfl rfl (fun w hs => sv (.slice A_r19_4_3 y_r19_4_1.1.length p_r19_4_4) hk rfl rfl rfl fun a hk => qe hk) fun a hk => ?_
        refine tqst (.agg #[.int .i64 y_r19_4_1.2.1.Code, .slice A_r19_4_7 y_r19_4_1.2.1.Values.length p_r19_4_8]) hk rfl rfl rfl rfl (fun w hs => sv (.agg #[.int .i64 y_r19_4_1.2.1.Code, .slice A_r19_4_7 y_r19_4_1.2.1.Values.length p_r19_4_8]) hk rfl rfl rfl fun a hk => qe hk) fun a hk => ?_
        refine tqst (.int .i64 y_r19_4_1.2.2) hk rfl rfl rfl rfl (fun w hs => sv (.int .i64 y_r19_4_1.2.2) hk rfl rfl rfl fun a hk => qe hk) fun a hk => ?_
        refine tsst hk rfl rfl (fun K_r19_10 hK_r19_10 w hF => ?_) wt_stop
        have hs := hs.f hF
        refine sa _ rfl hk rfl rfl rfl fun a hk => ?_
        refine se (hs.pick [(3, 3)] rfl) hk (hK_r19_10 _ _ ?_)
        refine tsst hk rfl rfl (fun K_r19_11 hK_r19_11 w hF => ?_) wt_stop
        have hs := hs.f hF
        refine ssw 104181 hs rfl rfl hk rfl rfl rfl rfl sz43 (by simp [Value.oneCell']) rfl fun w a hk hs => ?_
        refine se (hs.pick [(3, 3)] rfl) hk (hK_r19_11 _ _ ?_)
        refine tlst hk rfl rfl fun K_r19_12 hK_r19_12 w hF => ?_
        have hs := hs.f hF
        refine sa _ rfl hk rfl rfl rfl fun a hk => ?_
        refine se trivial hk (hK_r19_12 _ _ fun w hF => ?_)
        have hs := hs.f hF
        show R20 _ _
        rw [hR20]
        exact ⟨A_r19_4_3, p_r19_4_4, b_r19_9_1, k_r19_4_5, A_r19_4_7, p_r19_4_8, k_r19_4_9, (hk.c 0 rfl (hk.c 3 rfl (hk.c 6 rfl (hk.c 7 rfl (hk.c 8 rfl hk.k))))), (hs.pick [(104081, 104081), (3, 3), (104181, 104181), (104082, 104082)] rfl), o_r19_4_6, o_r19_4_10⟩
      · intro a w hR0
        rw [hR20] at hR0
        obtain ⟨A_r19_4_3, p_r19_4_4, b_r19_9_1, k_r19_4_5, A_r19_4_7, p_r19_4_8, k_r19_4_9, hk, hs, o_r19_4_6, o_r19_4_10⟩ := hR0
        refine hK18 _ _ ?_
        apply wp_seq_k; intro K21 hK21
        apply wp_region_lit
        refine sm _ rfl hk rfl rfl rfl fun a hk => ?_
        obtain ⟨y22, h23, H⟩ := bind_some H
        refine sc rfl en13 hk rfl rfl rfl (laws_toEntryS_t _ A0_ p0_ l0 _ v0_ (hs.hasD (k := 1) rfl) _ h23) ?_
        rintro _ w ⟨A24, p25, k26, rfl, o27, hG⟩ a hk
        have hs := hs.call0k hG [5] rfl
        refine sa _ rfl hk rfl rfl rfl fun a hk => ?_
        show wpList _ _ _ [] _ _
        refine wpList_nil ?_
        refine hK21 _ _ ?_
        apply wp_seq_k; intro K28 hK28
        apply wp_region_lit
        refine sln [.slice A1_0 x1.Ops.length p1_0] rfl hk rfl rfl rfl ag40 sz40 (box_cells hs (k := 3) rfl) fun a hk => ?_
        obtain ⟨y29, h30, H⟩ := bind_some H
        refine sc rfl en24 hk rfl rfl rfl (laws_toTxn_t _ x1 A1_0 p1_0 _ v1_0 (hs.hasD (k := 2) rfl) _ h30) ?_
        rintro _ w ⟨A31, p32, k33, rfl, o34, hG⟩ a hk
        have hs := hs.call0k hG [6] rfl
        refine salx 7 hs rfl hk rfl rfl ze48 rfl fun b35 w a hk hs => ?_
        refine ssw 7 hs rfl rfl hk rfl rfl rfl rfl sz48 (by simp [Value.oneCell']) rfl fun w a hk hs => ?_
        show wpList _ _ _ [] _ _
        refine wpList_nil ?_
        refine hK28 _ _ ?_
        apply wp_seq_k; intro K36 hK36
        apply wp_region_lit
        refine sm _ rfl hk rfl rfl rfl fun a hk => ?_
        refine sln [.slice A31 y29.Ops.length p32] rfl hk rfl rfl rfl ag48 sz48 (box_cells hs (k := 7) rfl) fun a hk => ?_
        obtain ⟨y37, h38, H⟩ := bind_some H
        refine sc rfl en25 hk rfl rfl rfl (impl_MapTxn_t _ A24 p25 y22 _ o27.view (hs.hasG (k := 5) rfl) y29 A31 p32 _ o34.view (hs.hasG (k := 6) rfl) _ h38) ?_
        rintro _ w ⟨A39, p40, k41, A43, p44, k45, rfl, o42, o46, hG⟩ a hk
        have hs := hs.call0k hG [8, 9] rfl
        refine sm _ rfl hk rfl rfl rfl fun a hk => ?_
        refine sv (.slice A39 y37.1.length p40) hk rfl rfl rfl fun a hk => ?_
        refine sv (.agg #[.int .i64 y37.2.1.Code, .slice A43 y37.2.1.Values.length p44]) hk rfl rfl rfl fun a hk => ?_
        refine sv (.int .i64 y37.2.2) hk rfl rfl rfl fun a hk => ?_
        refine salx 10 hs rfl hk rfl rfl ze43 rfl fun b47 w a hk hs => ?_
        refine sa _ rfl hk rfl rfl rfl fun a hk => ?_
        refine ssw 10 hs rfl rfl hk rfl rfl rfl rfl sz43 (by simp [Value.oneCell']) rfl fun w a hk hs => ?_
        refine sa _ rfl hk rfl rfl rfl fun a hk => ?_
        show wpList _ _ _ [] _ _
        refine wpList_nil ?_
        refine hK36 _ _ ?_
        apply wp_seq_k; intro K48 hK48
        apply wp_seq_k; intro K49 hK49
        obtain ⟨o52, h53, HL54⟩ := bind_some H
        clear H
        obtain ⟨R55, hR55⟩ : ∃ R : Act → World → Prop, R = fun a w => ∃ (u51 : Bool), u51 = o52 ∧ Kn [(0, (.slice A0_ l0.length p0_)), (3, (.pointer (some ⟨b2, 0, none⟩))), (6, (.slice A_r19_4_3 y_r19_4_1.1.length p_r19_4_4)), (7, (.pointer (some ⟨b_r19_9_1, 0, none⟩))), (8, (.int .i64 y_r19_4_1.2.2)), (9, (.slice A24 y22.length p25)), (10, (.pointer (some ⟨b35, 0, none⟩))), (11, (.slice A39 y37.1.length p40)), (12, (.pointer (some ⟨b47, 0, none⟩))), (13, (.int .i64 y37.2.2)), (64, (.bool u51))] 156 a ∧ Sat [] w0 w [(1, k0_), (2, k1_0)] [(104081, k_r19_4_5), (5, k26), (8, k41), (3, [(b2, .cells #[.slice A1_0 x1.Ops.length p1_0] 40 (0, 0))]), (7, [(b35, .cells #[.slice A31 y29.Ops.length p32] 48 (0, 0))]), (6, k33), (10, [(b47, .cells #[.int .i64 y37.2.1.Code, .slice A43 y37.2.1.Values.length p44] 43 (0, 0))]), (9, k45), (104181, [(b_r19_9_1, .cells #[.int .i64 y_r19_4_1.2.1.Code, .slice A_r19_4_7 y_r19_4_1.2.1.Values.length p_r19_4_8] 43 (0, 0))]), (104082, k_r19_4_9)] := ⟨_, rfl⟩
        refine wp_cutq R55 ?_ ?_
        · have H := h53
          apply wp_region_lit
          refine sm _ rfl hk rfl rfl rfl fun a hk => ?_
          refine sm _ rfl hk rfl rfl rfl fun a hk => ?_
          obtain ⟨y56, h57, H⟩ := bind_some H
          refine sc rfl en16 hk rfl rfl rfl (laws_eqEntryS_t _ A39 p40 y37.1 _ o42.view (hs.hasG (k := 8) rfl) A_r19_4_3 p_r19_4_4 y_r19_4_1.1 _ o_r19_4_6.view (hs.hasG (k := 104081) rfl) _ h57) ?_
          rintro _ w ⟨rfl, hG⟩ a hk
          have hs := hs.call0 hG
          refine sv (.bool (!y56)) hk rfl rfl rfl fun a hk => ?_
          refine sm _ rfl hk rfl rfl rfl fun a hk => ?_
          rcases cond_some H with ⟨c58, H⟩ | ⟨c58, H⟩
          · have hk := hk.lit 54 c58 rfl
            refine sk hk rfl rfl rfl fun a hk => ?_
            refine sk hk rfl rfl rfl fun a hk => ?_
            refine sk hk rfl rfl rfl fun a hk => ?_
            refine sk hk rfl rfl rfl fun a hk => ?_
            refine sv (.bool true) hk rfl rfl rfl fun a hk => ?_
            refine sm _ rfl hk rfl rfl rfl fun a hk => ?_
            refine sk hk rfl rfl rfl fun a hk => ?_
            refine sk hk rfl rfl rfl fun a hk => ?_
            refine sk hk rfl rfl rfl fun a hk => ?_
            refine sv (.bool true) hk rfl rfl rfl fun a hk => ?_
            show wpList _ _ _ [] _ _
            refine wpList_nil ?_
            obtain rfl := Option.some.inj H
            show R55 _ _
            rw [hR55]
            exact ⟨true, rfl, (hk.c 0 rfl (hk.c 3 rfl (hk.c 6 rfl (hk.c 7 rfl (hk.c 8 rfl (hk.c 9 rfl (hk.c 10 rfl (hk.c 11 rfl (hk.c 12 rfl (hk.c 13 rfl (hk.c 64 rfl hk.k))))))))))), (hs.pick [(104081, 104081), (5, 5), (8, 8), (3, 3), (7, 7), (6, 6), (10, 10), (9, 9), (104181, 104181), (104082, 104082)] rfl)⟩
          · have hk := hk.lit 54 c58 rfl
            refine sln [.int .i64 y37.2.1.Code, .slice A43 y37.2.1.Values.length p44] rfl hk rfl rfl rfl ag43 sz43 (box_cells hs (k := 10) rfl) fun a hk => ?_
            refine sln [.int .i64 y_r19_4_1.2.1.Code, .slice A_r19_4_7 y_r19_4_1.2.1.Values.length p_r19_4_8] rfl hk rfl rfl rfl ag43 sz43 (box_cells hs (k := 104181) rfl) fun a hk => ?_
            obtain ⟨y59, h60, H⟩ := bind_some H
            refine sc rfl en26 hk rfl rfl rfl (laws_eqResult_t _ y37.2.1 A43 p44 _ o46.view (hs.hasG (k := 9) rfl) (⟨y_r19_4_1.2.1.Code, y_r19_4_1.2.1.Values⟩ : S_Result) A_r19_4_7 p_r19_4_8 _ o_r19_4_10.view (hs.hasG (k := 104082) rfl) _ h60) ?_
            rintro _ w ⟨rfl, hG⟩ a hk
            have hs := hs.call0 hG
            refine sv (.bool (!y59)) hk rfl rfl rfl fun a hk => ?_
            refine sv (.bool (!y59)) hk rfl rfl rfl fun a hk => ?_
            refine sm _ rfl hk rfl rfl rfl fun a hk => ?_
            rcases cond_some H with ⟨c61, H⟩ | ⟨c61, H⟩
            · have hk := hk.lit 60 c61 rfl
              refine sk hk rfl rfl rfl fun a hk => ?_
              refine sk hk rfl rfl rfl fun a hk => ?_
              refine sk hk rfl rfl rfl fun a hk => ?_
              refine sv (.bool true) hk rfl rfl rfl fun a hk => ?_
              show wpList _ _ _ [] _ _
              refine wpList_nil ?_
              obtain rfl := Option.some.inj H
              show R55 _ _
              rw [hR55]
              exact ⟨true, rfl, (hk.c 0 rfl (hk.c 3 rfl (hk.c 6 rfl (hk.c 7 rfl (hk.c 8 rfl (hk.c 9 rfl (hk.c 10 rfl (hk.c 11 rfl (hk.c 12 rfl (hk.c 13 rfl (hk.c 64 rfl hk.k))))))))))), (hs.pick [(104081, 104081), (5, 5), (8, 8), (3, 3), (7, 7), (6, 6), (10, 10), (9, 9), (104181, 104181), (104082, 104082)] rfl)⟩
            · have hk := hk.lit 60 c61 rfl
              refine sm _ rfl hk rfl rfl rfl fun a hk => ?_
              refine sm _ rfl hk rfl rfl rfl fun a hk => ?_
              refine sv (.bool (y37.2.2 != y_r19_4_1.2.2)) hk rfl rfl rfl fun a hk => ?_
              refine sv (.bool (y37.2.2 != y_r19_4_1.2.2)) hk rfl rfl rfl fun a hk => ?_
              show wpList _ _ _ [] _ _
              refine wpList_nil ?_
              obtain rfl := Option.some.inj H
              show R55 _ _
              rw [hR55]
              exact ⟨(y37.2.2 != y_r19_4_1.2.2), rfl, (hk.c 0 rfl (hk.c 3 rfl (hk.c 6 rfl (hk.c 7 rfl (hk.c 8 rfl (hk.c 9 rfl (hk.c 10 rfl (hk.c 11 rfl (hk.c 12 rfl (hk.c 13 rfl (hk.c 64 rfl hk.k))))))))))), (hs.pick [(104081, 104081), (5, 5), (8, 8), (3, 3), (7, 7), (6, 6), (10, 10), (9, 9), (104181, 104181), (104082, 104082)] rfl)⟩
        · intro a w hR0
          rw [hR55] at hR0
          obtain ⟨u51, rfl, hk, hs⟩ := hR0
          have H := HL54
          try dsimp only at H
          refine hK49 _ _ ?_
          rcases cond_some H with ⟨c62, H⟩ | ⟨c62, H⟩
          · have hk := hk.lit 64 c62 rfl
            refine cnd_true hk rfl rfl ?_
            apply wp_seq_k; intro K63 hK63
            apply wp_region_lit
            refine sa _ rfl hk rfl rfl rfl fun a hk => ?_
            show wpList _ _ _ [] _ _
            refine wpList_nil ?_
            refine hK63 _ _ ?_
            refine wp_ret ?_
            obtain rfl := Option.some.inj H
            exact fin hk _ [(.bool false)] rfl ⟨rfl, trivial⟩ ⟨rfl, (hs.pick [] rfl).dnil⟩
          · have hk := hk.lit 64 c62 rfl
            refine cnd_false hk rfl rfl ?_
            refine wp_skip ?_
            refine hK48 _ _ ?_
            apply wp_seq_k; intro K64 hK64
            apply wp_seq_k; intro K65 hK65
            apply wp_region_lit
            refine sm _ rfl hk rfl rfl rfl fun a hk => ?_
            refine sm _ rfl hk rfl rfl rfl fun a hk => ?_
            obtain ⟨y66, h67, H⟩ := bind_some H
            refine sc rfl en13 hk rfl rfl rfl (laws_toEntryS_t _ A0_ p0_ l0 _ v0_ (hs.hasD (k := 1) rfl) _ h67) ?_
            rintro _ w ⟨A68, p69, k70, rfl, o71, hG⟩ a hk
            have hs := hs.call0k hG [12] rfl
            obtain ⟨y72, h73, H⟩ := bind_some H
            refine sc rfl en16 hk rfl rfl rfl (laws_eqEntryS_t _ A24 p25 y22 _ o27.view (hs.hasG (k := 5) rfl) A68 p69 y66 _ o71.view (hs.hasG (k := 12) rfl) _ h73) ?_
            rintro _ w ⟨rfl, hG⟩ a hk
            have hs := hs.call0 hG
            refine sv (.bool (!y72)) hk rfl rfl rfl fun a hk => ?_
            show wpList _ _ _ [] _ _
            refine wpList_nil ?_
            refine hK65 _ _ ?_
            rcases cond_some H with ⟨c74, H⟩ | ⟨c74, H⟩
            · have hk := hk.lit 69 c74 rfl
              refine cnd_true hk rfl rfl ?_
              apply wp_seq_k; intro K75 hK75
              apply wp_region_lit
              refine sa _ rfl hk rfl rfl rfl fun a hk => ?_
              show wpList _ _ _ [] _ _
              refine wpList_nil ?_
              refine hK75 _ _ ?_
              refine wp_ret ?_
              obtain rfl := Option.some.inj H
              exact fin hk _ [(.bool false)] rfl ⟨rfl, trivial⟩ ⟨rfl, (hs.pick [] rfl).dnil⟩
            · have hk := hk.lit 69 c74 rfl
              refine cnd_false hk rfl rfl ?_
              refine wp_skip ?_
              refine hK64 _ _ ?_
              apply wp_seq_k; intro K76 hK76
              apply wp_seq_k; intro K77 hK77
              refine wp_region_tree (.q 0 (.alt 1 (.alt 2 (.alt 3 (.alt 4 .done .stop) .stop) .stop) .stop)) mo (by kernel_rfl) (hs.pick [(12, 12), (104081, 104081), (5, 5), (8, 8), (3, 3), (7, 7), (6, 6), (10, 10), (9, 9), (104181, 104181), (104082, 104082)] rfl) fun _ => ?_
              have hs := hs.drew
              refine tqst (.agg #[.slice A31 y29.Ops.length p32]) hk rfl rfl rfl rfl (fun w hs => sln [.slice A31 y29.Ops.length p32] rfl hk rfl rfl rfl ag48 sz48 (box_cells hs (k := 7) rfl) fun a hk => qe hk) fun a hk => ?_
              refine tsst hk rfl rfl (fun K_r78_1 hK_r78_1 w hF => ?_) wt_stop
              have hs := hs.f hF
              refine sln [.slice A1_0 x1.Ops.length p1_0] rfl hk rfl rfl rfl ag40 sz40 (box_cells hs (k := 3) rfl) fun a hk => ?_
              refine se (hs.pick [(12, 12), (104081, 104081), (5, 5), (8, 8), (3, 3), (7, 7), (6, 6), (10, 10), (9, 9), (104181, 104181), (104082, 104082)] rfl) hk (hK_r78_1 _ _ ?_)
              refine tsst hk rfl rfl (fun K_r78_2 hK_r78_2 w hF => ?_) wt_stop
              have hs := hs.f hF
              obtain ⟨y79, h80, H⟩ := bind_some H
              refine sc rfl en24 hk rfl rfl rfl (laws_toTxn_t _ x1 A1_0 p1_0 _ v1_0 (hs.hasD (k := 2) rfl) _ h80) ?_
              rintro _ w ⟨A81, p82, k83, rfl, o84, hG⟩ a hk
              have hs := hs.call0k hG [14] rfl
              refine se (hs.pick [(12, 12), (104081, 104081), (5, 5), (8, 8), (3, 3), (7, 7), (6, 6), (10, 10), (9, 9), (104181, 104181), (104082, 104082)] rfl) hk (hK_r78_2 _ _ ?_)
              refine tsst hk rfl rfl (fun K_r78_3 hK_r78_3 w hF => ?_) wt_stop
              have hs := hs.f hF
              obtain ⟨y85, h86, H⟩ := bind_some H
              refine sc rfl en27 hk rfl rfl rfl (laws_eqTxn_t _ y29 A31 p32 _ o34.view (hs.hasG (k := 6) rfl) y79 A81 p82 _ o84.view (hs.hasG (k := 14) rfl) _ h86) ?_
              rintro _ w ⟨rfl, hG⟩ a hk
              have hs := hs.call0 hG
              refine se (hs.pick [(12, 12), (104081, 104081), (5, 5), (8, 8), (3, 3), (7, 7), (6, 6), (10, 10), (9, 9), (104181, 104181), (104082, 104082)] rfl) hk (hK_r78_3 _ _ ?_)
              refine tsst hk rfl rfl (fun K_r78_4 hK_r78_4 w hF => ?_) wt_stop
              have hs := hs.f hF
              refine sv (.bool (!y85)) hk rfl rfl rfl fun a hk => ?_
              refine se (hs.pick [(12, 12), (104081, 104081), (5, 5), (8, 8), (3, 3), (7, 7), (6, 6), (10, 10), (9, 9), (104181, 104181), (104082, 104082)] rfl) hk (hK_r78_4 _ _ ?_)
              refine wtl_nil fun w hF _ => ?_
              have hs := hs.f hF
              refine hK77 _ _ ?_
              rcases cond_some H with ⟨c87, H⟩ | ⟨c87, H⟩
              · have hk := hk.lit 74 c87 rfl
                refine cnd_true hk rfl rfl ?_
                apply wp_seq_k; intro K88 hK88
                apply wp_region_lit
                refine sa _ rfl hk rfl rfl rfl fun a hk => ?_
                show wpList _ _ _ [] _ _
                refine wpList_nil ?_
                refine hK88 _ _ ?_
                refine wp_ret ?_
                obtain rfl := Option.some.inj H
                exact fin hk _ [(.bool false)] rfl ⟨rfl, trivial⟩ ⟨rfl, (hs.pick [] rfl).dnil⟩
              · have hk := hk.lit 74 c87 rfl
                refine cnd_false hk rfl rfl ?_
                refine wp_skip ?_
                refine hK76 _ _ ?_
                apply wp_seq_k; intro K89 hK89
                apply wp_region_lit
                refine sa _ rfl hk rfl rfl rfl fun a hk => ?_
                show wpList _ _ _ [] _ _
                refine wpList_nil ?_
                refine hK89 _ _ ?_
                apply wp_seq_k; intro K90 hK90
                apply wp_region_lit
                refine sm _ rfl hk rfl rfl rfl fun a hk => ?_
                refine sm _ rfl hk rfl rfl rfl fun a hk => ?_
                obtain ⟨y91, h92, H⟩ := bind_some H
                refine sc rfl en18 hk rfl rfl rfl (laws_markEntryS_t _ A24 p25 y22 _ o27 1 ((hs.hand [(1, 5)] rfl).dpick [] rfl) _ h92) ?_
                rintro _ w ⟨k93, rfl, ⟨o94, lh95⟩, hG⟩ a hk
                have hs := hs.back [(1, 5)] rfl hG [5] rfl
                have lh96 : y91.2.length = y22.length := lh95
                refine sa _ rfl hk rfl rfl rfl fun a hk => ?_
                show wpList _ _ _ [] _ _
                refine wpList_nil ?_
                refine hK90 _ _ ?_
                apply wp_seq_k; intro K97 hK97
                apply wp_region_lit
                refine sln [.slice A31 y29.Ops.length p32] rfl hk rfl rfl rfl ag48 sz48 (box_cells hs (k := 7) rfl) fun a hk => ?_
                refine sm _ rfl hk rfl rfl rfl fun a hk => ?_
                obtain ⟨y98, h99, H⟩ := bind_some H
                refine sc rfl en28 hk rfl rfl rfl (laws_markTxn_t _ y29 A31 p32 _ o34 y91.1 ((hs.hand [(1, 6)] rfl).dpick [] rfl) _ h99) ?_
                rintro _ w ⟨k100, rfl, ⟨o101, lh102⟩, hG⟩ a hk
                have hs := hs.back [(1, 6)] rfl hG [6] rfl
                have lh103 : y98.2.length = y29.Ops.length := lh102
                refine sa _ rfl hk rfl rfl rfl fun a hk => ?_
                show wpList _ _ _ [] _ _
                refine wpList_nil ?_
                refine hK97 _ _ ?_
                apply wp_seq_k; intro K104 hK104
                apply wp_seq_k; intro K105 hK105
                obtain ⟨o108, h109, HL110⟩ := bind_some H
                clear H
                obtain ⟨R111, hR111⟩ : ∃ R : Act → World → Prop, R = fun a w => ∃ (u107 : Bool), u107 = o108 ∧ Kn [(0, (.slice A0_ l0.length p0_)), (3, (.pointer (some ⟨b2, 0, none⟩))), (6, (.slice A_r19_4_3 y_r19_4_1.1.length p_r19_4_4)), (7, (.pointer (some ⟨b_r19_9_1, 0, none⟩))), (8, (.int .i64 y_r19_4_1.2.2)), (11, (.slice A39 y37.1.length p40)), (12, (.pointer (some ⟨b47, 0, none⟩))), (99, (.bool u107))] 156 a ∧ Sat [] w0 w [(1, k0_), (2, k1_0)] [(104081, k_r19_4_5), (8, k41), (3, [(b2, .cells #[.slice A1_0 x1.Ops.length p1_0] 40 (0, 0))]), (10, [(b47, .cells #[.int .i64 y37.2.1.Code, .slice A43 y37.2.1.Values.length p44] 43 (0, 0))]), (9, k45), (104181, [(b_r19_9_1, .cells #[.int .i64 y_r19_4_1.2.1.Code, .slice A_r19_4_7 y_r19_4_1.2.1.Values.length p_r19_4_8] 43 (0, 0))]), (104082, k_r19_4_9)] := ⟨_, rfl⟩
                refine wp_cutq R111 ?_ ?_
                · have H := h109
                  apply wp_region_lit
                  refine sm _ rfl hk rfl rfl rfl fun a hk => ?_
                  refine sv (.bool (decide (y98.1 < 0))) hk rfl rfl rfl fun a hk => ?_
                  refine sm _ rfl hk rfl rfl rfl fun a hk => ?_
                  rcases cond_some H with ⟨c112, H⟩ | ⟨c112, H⟩
                  · have hk := hk.lit 83 c112 rfl
                    refine sk hk rfl rfl rfl fun a hk => ?_
                    refine sk hk rfl rfl rfl fun a hk => ?_
                    refine sk hk rfl rfl rfl fun a hk => ?_
                    refine sk hk rfl rfl rfl fun a hk => ?_
                    refine sv (.bool true) hk rfl rfl rfl fun a hk => ?_
                    refine sm _ rfl hk rfl rfl rfl fun a hk => ?_
                    refine sk hk rfl rfl rfl fun a hk => ?_
                    refine sk hk rfl rfl rfl fun a hk => ?_
                    refine sk hk rfl rfl rfl fun a hk => ?_
                    refine sk hk rfl rfl rfl fun a hk => ?_
                    refine sv (.bool true) hk rfl rfl rfl fun a hk => ?_
                    refine sm _ rfl hk rfl rfl rfl fun a hk => ?_
                    refine sk hk rfl rfl rfl fun a hk => ?_
                    refine sk hk rfl rfl rfl fun a hk => ?_
                    refine sk hk rfl rfl rfl fun a hk => ?_
                    refine sv (.bool true) hk rfl rfl rfl fun a hk => ?_
                    show wpList _ _ _ [] _ _
                    refine wpList_nil ?_
                    obtain rfl := Option.some.inj H
                    show R111 _ _
                    rw [hR111]
                    exact ⟨true, rfl, (hk.c 0 rfl (hk.c 3 rfl (hk.c 6 rfl (hk.c 7 rfl (hk.c 8 rfl (hk.c 11 rfl (hk.c 12 rfl (hk.c 99 rfl hk.k)))))))), (hs.pick [(104081, 104081), (8, 8), (3, 3), (10, 10), (9, 9), (104181, 104181), (104082, 104082)] rfl)⟩
                  · have hk := hk.lit 83 c112 rfl
                    refine sm _ rfl hk rfl rfl rfl fun a hk => ?_
                    refine sm _ rfl hk rfl rfl rfl fun a hk => ?_
                    obtain ⟨y113, h114, H⟩ := bind_some H
                    refine sc rfl en16 hk rfl rfl rfl (laws_eqEntryS_t _ A39 p40 y37.1 _ o42.view (hs.hasG (k := 8) rfl) A_r19_4_3 p_r19_4_4 y_r19_4_1.1 _ o_r19_4_6.view (hs.hasG (k := 104081) rfl) _ h114) ?_
                    rintro _ w ⟨rfl, hG⟩ a hk
                    have hs := hs.call0 hG
                    refine sv (.bool (!y113)) hk rfl rfl rfl fun a hk => ?_
                    refine sv (.bool (!y113)) hk rfl rfl rfl fun a hk => ?_
                    refine sm _ rfl hk rfl rfl rfl fun a hk => ?_
                    rcases cond_some H with ⟨c115, H⟩ | ⟨c115, H⟩
                    · have hk := hk.lit 89 c115 rfl
                      refine sk hk rfl rfl rfl fun a hk => ?_
                      refine sk hk rfl rfl rfl fun a hk => ?_
                      refine sk hk rfl rfl rfl fun a hk => ?_
                      refine sk hk rfl rfl rfl fun a hk => ?_
                      refine sv (.bool true) hk rfl rfl rfl fun a hk => ?_
                      refine sm _ rfl hk rfl rfl rfl fun a hk => ?_
                      refine sk hk rfl rfl rfl fun a hk => ?_
                      refine sk hk rfl rfl rfl fun a hk => ?_
                      refine sk hk rfl rfl rfl fun a hk => ?_
                      refine sv (.bool true) hk rfl rfl rfl fun a hk => ?_
                      show wpList _ _ _ [] _ _
                      refine wpList_nil ?_
                      obtain rfl := Option.some.inj H
                      show R111 _ _
                      rw [hR111]
                      exact ⟨true, rfl, (hk.c 0 rfl (hk.c 3 rfl (hk.c 6 rfl (hk.c 7 rfl (hk.c 8 rfl (hk.c 11 rfl (hk.c 12 rfl (hk.c 99 rfl hk.k)))))))), (hs.pick [(104081, 104081), (8, 8), (3, 3), (10, 10), (9, 9), (104181, 104181), (104082, 104082)] rfl)⟩
                    · have hk := hk.lit 89 c115 rfl
                      refine sln [.int .i64 y37.2.1.Code, .slice A43 y37.2.1.Values.length p44] rfl hk rfl rfl rfl ag43 sz43 (box_cells hs (k := 10) rfl) fun a hk => ?_
                      refine sln [.int .i64 y_r19_4_1.2.1.Code, .slice A_r19_4_7 y_r19_4_1.2.1.Values.length p_r19_4_8] rfl hk rfl rfl rfl ag43 sz43 (box_cells hs (k := 104181) rfl) fun a hk => ?_
                      obtain ⟨y116, h117, H⟩ := bind_some H
                      refine sc rfl en26 hk rfl rfl rfl (laws_eqResult_t _ y37.2.1 A43 p44 _ o46.view (hs.hasG (k := 9) rfl) (⟨y_r19_4_1.2.1.Code, y_r19_4_1.2.1.Values⟩ : S_Result) A_r19_4_7 p_r19_4_8 _ o_r19_4_10.view (hs.hasG (k := 104082) rfl) _ h117) ?_
                      rintro _ w ⟨rfl, hG⟩ a hk
                      have hs := hs.call0 hG
                      refine sv (.bool (!y116)) hk rfl rfl rfl fun a hk => ?_
                      refine sv (.bool (!y116)) hk rfl rfl rfl fun a hk => ?_
                      refine sm _ rfl hk rfl rfl rfl fun a hk => ?_
                      rcases cond_some H with ⟨c118, H⟩ | ⟨c118, H⟩
                      · have hk := hk.lit 95 c118 rfl
                        refine sk hk rfl rfl rfl fun a hk => ?_
                        refine sk hk rfl rfl rfl fun a hk => ?_
                        refine sk hk rfl rfl rfl fun a hk => ?_
                        refine sv (.bool true) hk rfl rfl rfl fun a hk => ?_
                        show wpList _ _ _ [] _ _
                        refine wpList_nil ?_
                        obtain rfl := Option.some.inj H
                        show R111 _ _
                        rw [hR111]
                        exact ⟨true, rfl, (hk.c 0 rfl (hk.c 3 rfl (hk.c 6 rfl (hk.c 7 rfl (hk.c 8 rfl (hk.c 11 rfl (hk.c 12 rfl (hk.c 99 rfl hk.k)))))))), (hs.pick [(104081, 104081), (8, 8), (3, 3), (10, 10), (9, 9), (104181, 104181), (104082, 104082)] rfl)⟩
                      · have hk := hk.lit 95 c118 rfl
                        refine sm _ rfl hk rfl rfl rfl fun a hk => ?_
                        refine sm _ rfl hk rfl rfl rfl fun a hk => ?_
                        refine sv (.bool (y37.2.2 != y_r19_4_1.2.2)) hk rfl rfl rfl fun a hk => ?_
                        refine sv (.bool (y37.2.2 != y_r19_4_1.2.2)) hk rfl rfl rfl fun a hk => ?_
                        show wpList _ _ _ [] _ _
                        refine wpList_nil ?_
                        obtain rfl := Option.some.inj H
                        show R111 _ _
                        rw [hR111]
                        exact ⟨(y37.2.2 != y_r19_4_1.2.2), rfl, (hk.c 0 rfl (hk.c 3 rfl (hk.c 6 rfl (hk.c 7 rfl (hk.c 8 rfl (hk.c 11 rfl (hk.c 12 rfl (hk.c 99 rfl hk.k)))))))), (hs.pick [(104081, 104081), (8, 8), (3, 3), (10, 10), (9, 9), (104181, 104181), (104082, 104082)] rfl)⟩
                · intro a w hR0
                  rw [hR111] at hR0
                  obtain ⟨u107, rfl, hk, hs⟩ := hR0
                  have H := HL110
                  try dsimp only at H
                  refine hK105 _ _ ?_
                  rcases cond_some H with ⟨c119, H⟩ | ⟨c119, H⟩
                  · have hk := hk.lit 99 c119 rfl
                    refine cnd_true hk rfl rfl ?_
                    apply wp_seq_k; intro K120 hK120
                    apply wp_region_lit
                    refine sa _ rfl hk rfl rfl rfl fun a hk => ?_
                    show wpList _ _ _ [] _ _
                    refine wpList_nil ?_
                    refine hK120 _ _ ?_
                    refine wp_ret ?_
                    obtain rfl := Option.some.inj H
                    exact fin hk _ [(.bool false)] rfl ⟨rfl, trivial⟩ ⟨rfl, (hs.pick [] rfl).dnil⟩
                  · have hk := hk.lit 99 c119 rfl
                    refine cnd_false hk rfl rfl ?_
                    refine wp_skip ?_
                    refine hK104 _ _ ?_
                    apply wp_seq_k; intro K121 hK121
                    apply wp_region_lit
                    refine sa _ rfl hk rfl rfl rfl fun a hk => ?_
                    show wpList _ _ _ [] _ _
                    refine wpList_nil ?_
                    refine hK121 _ _ ?_
                    apply wp_seq_k; intro K122 hK122
                    apply wp_region_lit
                    refine sm _ rfl hk rfl rfl rfl fun a hk => ?_
                    refine sm _ rfl hk rfl rfl rfl fun a hk => ?_
                    obtain ⟨y123, h124, H⟩ := bind_some H
                    refine sc rfl en18 hk rfl rfl rfl (laws_markEntryS_t _ A39 p40 y37.1 _ o42 1 ((hs.hand [(1, 8)] rfl).dpick [] rfl) _ h124) ?_
                    rintro _ w ⟨k125, rfl, ⟨o126, lh127⟩, hG⟩ a hk
                    have hs := hs.back [(1, 8)] rfl hG [8] rfl
                    have lh128 : y123.2.length = y37.1.length := lh127
                    refine sa _ rfl hk rfl rfl rfl fun a hk => ?_
                    show wpList _ _ _ [] _ _
                    refine wpList_nil ?_
                    refine hK122 _ _ ?_
                    apply wp_seq_k; intro K129 hK129
                    apply wp_region_lit
                    refine sln [.int .i64 y37.2.1.Code, .slice A43 y37.2.1.Values.length p44] rfl hk rfl rfl rfl ag43 sz43 (box_cells hs (k := 10) rfl) fun a hk => ?_
                    refine sm _ rfl hk rfl rfl rfl fun a hk => ?_
                    obtain ⟨y130, h131, H⟩ := bind_some H
                    refine sc rfl en29 hk rfl rfl rfl (laws_markResult_t _ y37.2.1 A43 p44 _ o46 y123.1 ((hs.hand [(1, 9)] rfl).dpick [] rfl) _ h131) ?_
                    rintro _ w ⟨k132, rfl, ⟨o133, lh134⟩, hG⟩ a hk
                    have hs := hs.back [(1, 9)] rfl hG [9] rfl
                    have lh135 : y130.2.length = y37.2.1.Values.length := lh134
                    refine sa _ rfl hk rfl rfl rfl fun a hk => ?_
                    show wpList _ _ _ [] _ _
                    refine wpList_nil ?_
                    refine hK129 _ _ ?_
                    apply wp_seq_k; intro K136 hK136
                    apply wp_region_lit
                    refine sa _ rfl hk rfl rfl rfl fun a hk => ?_
                    show wpList _ _ _ [] _ _
                    refine wpList_nil ?_
                    refine hK136 _ _ ?_
                    apply wp_seq_k; intro K137 hK137
                    apply wp_region_lit
                    refine sm _ rfl hk rfl rfl rfl fun a hk => ?_
                    refine sm _ rfl hk rfl rfl rfl fun a hk => ?_
                    have hk := hk.re 106 (v' := (.slice A39 y123.2.length p40)) rfl (by rw [lh128])
                    obtain ⟨y138, h139, H⟩ := bind_some H
                    refine sc rfl en20 hk rfl rfl rfl (laws_heldEntryS_t _ A39 p40 y123.2 _ o126.view (hs.hasG (k := 8) rfl) 1 _ h139) ?_
                    rintro _ w ⟨rfl, hG⟩ a hk
                    have hs := hs.call0 hG
                    refine sa _ rfl hk rfl rfl rfl fun a hk => ?_
                    show wpList _ _ _ [] _ _
                    refine wpList_nil ?_
                    refine hK137 _ _ ?_
                    apply wp_seq_k; intro K140 hK140
                    apply wp_seq_k; intro K141 hK141
                    apply wp_region_lit
                    refine sm _ rfl hk rfl rfl rfl fun a hk => ?_
                    refine sv (.bool (decide (y138 < 0))) hk rfl rfl rfl fun a hk => ?_
                    show wpList _ _ _ [] _ _
                    refine wpList_nil ?_
                    refine hK141 _ _ ?_
                    rcases cond_some H with ⟨c142, H⟩ | ⟨c142, H⟩
                    · have hk := hk.lit 110 c142 rfl
                      refine cnd_true hk rfl rfl ?_
                      apply wp_seq_k; intro K143 hK143
                      apply wp_region_lit
                      refine sa _ rfl hk rfl rfl rfl fun a hk => ?_
                      show wpList _ _ _ [] _ _
                      refine wpList_nil ?_
                      refine hK143 _ _ ?_
                      refine wp_ret ?_
                      obtain rfl := Option.some.inj H
                      exact fin hk _ [(.bool false)] rfl ⟨rfl, trivial⟩ ⟨rfl, (hs.pick [] rfl).dnil⟩
                    · have hk := hk.lit 110 c142 rfl
                      refine cnd_false hk rfl rfl ?_
                      refine wp_skip ?_
                      refine hK140 _ _ ?_
                      apply wp_seq_k; intro K144 hK144
                      apply wp_region_lit
                      refine sln [.int .i64 y37.2.1.Code, .slice A43 y37.2.1.Values.length p44] rfl hk rfl rfl rfl ag43 sz43 (box_cells hs (k := 10) rfl) fun a hk => ?_
                      refine sm _ rfl hk rfl rfl rfl fun a hk => ?_
                      have hk := hk.re 111 (v' := (.agg #[.int .i64 y37.2.1.Code, .slice A43 y130.2.length p44])) rfl (by rw [lh135])
                      obtain ⟨y145, h146, H⟩ := bind_some H
                      refine sc rfl en30 hk rfl rfl rfl (laws_heldResult_t _ (⟨y37.2.1.Code, y130.2⟩ : S_Result) A43 p44 _ o133.view (hs.hasG (k := 9) rfl) y138 _ h146) ?_
                      rintro _ w ⟨rfl, hG⟩ a hk
                      have hs := hs.call0 hG
                      refine sa _ rfl hk rfl rfl rfl fun a hk => ?_
                      show wpList _ _ _ [] _ _
                      refine wpList_nil ?_
                      refine hK144 _ _ ?_
                      apply wp_seq_k; intro K147 hK147
                      apply wp_seq_k; intro K148 hK148
                      apply wp_region_lit
                      refine sm _ rfl hk rfl rfl rfl fun a hk => ?_
                      refine sv (.bool (decide (y145 < 0))) hk rfl rfl rfl fun a hk => ?_
                      show wpList _ _ _ [] _ _
                      refine wpList_nil ?_
                      refine hK148 _ _ ?_
                      rcases cond_some H with ⟨c149, H⟩ | ⟨c149, H⟩
                      · have hk := hk.lit 115 c149 rfl
                        refine cnd_true hk rfl rfl ?_
                        apply wp_seq_k; intro K150 hK150
                        apply wp_region_lit
                        refine sa _ rfl hk rfl rfl rfl fun a hk => ?_
                        show wpList _ _ _ [] _ _
                        refine wpList_nil ?_
                        refine hK150 _ _ ?_
                        refine wp_ret ?_
                        obtain rfl := Option.some.inj H
                        exact fin hk _ [(.bool false)] rfl ⟨rfl, trivial⟩ ⟨rfl, (hs.pick [] rfl).dnil⟩
                      · have hk := hk.lit 115 c149 rfl
                        refine cnd_false hk rfl rfl ?_
                        refine wp_skip ?_
                        refine hK147 _ _ ?_
                        apply wp_seq_k; intro K151 hK151
                        apply wp_seq_k; intro K152 hK152
                        apply wp_region_lit
                        refine sm _ rfl hk rfl rfl rfl fun a hk => ?_
                        refine sm _ rfl hk rfl rfl rfl fun a hk => ?_
                        refine sv (.bool (y145 != y130.1)) hk rfl rfl rfl fun a hk => ?_
                        show wpList _ _ _ [] _ _
                        refine wpList_nil ?_
                        refine hK152 _ _ ?_
                        rcases cond_some H with ⟨c153, H⟩ | ⟨c153, H⟩
                        · have hk := hk.lit 118 c153 rfl
                          refine cnd_true hk rfl rfl ?_
                          apply wp_seq_k; intro K154 hK154
                          apply wp_region_lit
                          refine sa _ rfl hk rfl rfl rfl fun a hk => ?_
                          show wpList _ _ _ [] _ _
                          refine wpList_nil ?_
                          refine hK154 _ _ ?_
                          refine wp_ret ?_
                          obtain rfl := Option.some.inj H
                          exact fin hk _ [(.bool false)] rfl ⟨rfl, trivial⟩ ⟨rfl, (hs.pick [] rfl).dnil⟩
                        · have hk := hk.lit 118 c153 rfl
                          refine cnd_false hk rfl rfl ?_
                          refine wp_skip ?_
                          refine hK151 _ _ ?_
                          apply wp_seq_k; intro K155 hK155
                          obtain ⟨y_r156_1_1, h_r156_1_2, H⟩ := bind_some H
                          obtain ⟨y_r156_3_1, h_r156_3_2, H⟩ := bind_some H
                          obtain ⟨y_r156_4_1, h_r156_4_2, H⟩ := bind_some H
                          obtain ⟨R157, hR157⟩ : ∃ R : Act → World → Prop, R = fun a w => ∃ (A_r156_4_3 : Option Addr) (p_r156_4_4 : Nat) (b_r156_9_1 : Nat) (k_r156_4_5 : Chunk) (A_r156_4_7 : Option Addr) (p_r156_4_8 : Nat) (k_r156_4_9 : Chunk), Kn [(6, (.slice A_r19_4_3 y_r19_4_1.1.length p_r19_4_4)), (7, (.pointer (some ⟨b_r19_9_1, 0, none⟩))), (8, (.int .i64 y_r19_4_1.2.2)), (11, (.slice A39 y37.1.length p40)), (12, (.pointer (some ⟨b47, 0, none⟩))), (15, (.int .i64 y130.1)), (17, (.slice A_r156_4_3 y_r156_4_1.1.length p_r156_4_4)), (18, (.pointer (some ⟨b_r156_9_1, 0, none⟩))), (19, (.int .i64 y_r156_4_1.2.2))] 156 a ∧ Sat [] w0 w [(1, k0_), (2, k1_0)] [(104081, k_r19_4_5), (8, k125), (116081, k_r156_4_5), (10, [(b47, .cells #[.int .i64 y37.2.1.Code, .slice A43 y37.2.1.Values.length p44] 43 (0, 0))]), (9, k132), (104181, [(b_r19_9_1, .cells #[.int .i64 y_r19_4_1.2.1.Code, .slice A_r19_4_7 y_r19_4_1.2.1.Values.length p_r19_4_8] 43 (0, 0))]), (104082, k_r19_4_9), (116181, [(b_r156_9_1, .cells #[.int .i64 y_r156_4_1.2.1.Code, .slice A_r156_4_7 y_r156_4_1.2.1.Values.length p_r156_4_8] 43 (0, 0))]), (116082, k_r156_4_9)] ∧ Own L_Entry 62 A_r156_4_3 p_r156_4_4 y_r156_4_1.1 k_r156_4_5 ∧ Own (Lay.int .i64) 3 A_r156_4_7 p_r156_4_8 y_r156_4_1.2.1.Values k_r156_4_9 := ⟨_, rfl⟩
                          refine wp_cutq R157 ?_ ?_
                          · skip
                            refine wp_region_tree (.q 0 (.q 2 (.alt 1 (.alt 3 (.alt 4 (.q 5 (.q 6 (.q 7 (.q 8 (.alt 9 (.alt 10 (.alt 11 (.last 12) .stop) .stop) .stop))))) (.alt 9 (.alt 4 (.alt 5 (.q 6 (.q 7 (.q 8 (.alt 10 (.alt 11 (.last 12) .stop) .stop)))) .stop) .stop) .stop)) (.alt 9 (.alt 3 (.alt 4 (.alt 5 (.q 6 (.q 7 (.q 8 (.alt 10 (.alt 11 (.last 12) .stop) .stop)))) .stop) .stop) .stop) .stop)) (.alt 9 (.alt 1 (.alt 3 (.alt 4 (.alt 5 (.q 6 (.q 7 (.q 8 (.alt 10 (.alt 11 (.last 12) .stop) .stop)))) .stop) .stop) .stop) .stop) .stop)))) mo (by kernel_rfl) (hs.pick [(104081, 104081), (8, 8), (3, 3), (10, 10), (9, 9), (104181, 104181), (104082, 104082)] rfl) fun _ => ?_
                            have hs := hs.drew
                            refine tqst (.slice A0_ l0.length p0_) hk rfl rfl rfl rfl (fun w hs => sm _ rfl hk rfl rfl rfl fun a hk => qe hk) fun a hk => ?_
                            refine tqst (.agg #[.slice A1_0 x1.Ops.length p1_0]) hk rfl rfl rfl rfl (fun w hs => sln [.slice A1_0 x1.Ops.length p1_0] rfl hk rfl rfl rfl ag40 sz40 (box_cells hs (k := 3) rfl) fun a hk => qe hk) fun a hk => ?_
                            refine tsst hk rfl rfl (fun K_r156_1 hK_r156_1 w hF => ?_) ?_
                            · skip
                              have hs := hs.f hF
                              refine sc rfl en13 hk rfl rfl rfl (laws_toEntryS_t _ A0_ p0_ l0 _ v0_ (hs.hasD (k := 1) rfl) _ h_r156_1_2) ?_
                              rintro _ w ⟨A_r156_1_3, p_r156_1_4, k_r156_1_5, rfl, o_r156_1_6, hG⟩ a hk
                              have hs := hs.call0k hG [116021] rfl
                              refine se (hs.pick [(104081, 104081), (8, 8), (3, 3), (10, 10), (9, 9), (104181, 104181), (104082, 104082)] rfl) hk (hK_r156_1 _ _ ?_)
                              refine tsst hk rfl rfl (fun K_r156_3 hK_r156_3 w hF => ?_) ?_
                              · skip
                                have hs := hs.f hF
                                refine sc rfl en24 hk rfl rfl rfl (laws_toTxn_t _ x1 A1_0 p1_0 _ v1_0 (hs.hasD (k := 2) rfl) _ h_r156_3_2) ?_
                                rintro _ w ⟨A_r156_3_3, p_r156_3_4, k_r156_3_5, rfl, o_r156_3_6, hG⟩ a hk
                                have hs := hs.call0k hG [116061] rfl
                                refine se (hs.pick [(104081, 104081), (8, 8), (3, 3), (10, 10), (9, 9), (104181, 104181), (104082, 104082)] rfl) hk (hK_r156_3 _ _ ?_)
                                refine tsst hk rfl rfl (fun K_r156_4 hK_r156_4 w hF => ?_) ?_
                                · skip
                                  have hs := hs.f hF
                                  refine sc rfl en25 hk rfl rfl rfl (impl_MapTxn_t _ A_r156_1_3 p_r156_1_4 y_r156_1_1 _ o_r156_1_6.view (hs.hasG (k := 116021) rfl) y_r156_3_1 A_r156_3_3 p_r156_3_4 _ o_r156_3_6.view (hs.hasG (k := 116061) rfl) _ h_r156_4_2) ?_
                                  rintro _ w ⟨A_r156_4_3, p_r156_4_4, k_r156_4_5, A_r156_4_7, p_r156_4_8, k_r156_4_9, rfl, o_r156_4_6, o_r156_4_10, hG⟩ a hk
                                  have hs := hs.call0k hG [116081, 116082] rfl
                                  refine se (hs.pick [(104081, 104081), (8, 8), (3, 3), (10, 10), (9, 9), (104181, 104181), (104082, 104082)] rfl) hk (hK_r156_4 _ _ ?_)
                                  refine tqst (.tuple #[(.slice A_r156_4_3 y_r156_4_1.1.length p_r156_4_4), (.agg #[.int .i64 y_r156_4_1.2.1.Code, .slice A_r156_4_7 y_r156_4_1.2.1.Values.length p_r156_4_8]), (.int .i64 y_r156_4_1.2.2)]) hk rfl rfl rfl rfl (fun w hs => sm _ rfl hk rfl rfl rfl fun a hk => qe hk) fun a hk => ?_
                                  refine tqst (.slice A_r156_4_3 y_r156_4_1.1.length p_r156_4_4) hk rfl rfl rfl rfl (fun w hs => sv (.slice A_r156_4_3 y_r156_4_1.1.length p_r156_4_4) hk rfl rfl rfl fun a hk => qe hk) fun a hk => ?_
                                  refine tqst (.agg #[.int .i64 y_r156_4_1.2.1.Code, .slice A_r156_4_7 y_r156_4_1.2.1.Values.length p_r156_4_8]) hk rfl rfl rfl rfl (fun w hs => sv (.agg #[.int .i64 y_r156_4_1.2.1.Code, .slice A_r156_4_7 y_r156_4_1.2.1.Values.length p_r156_4_8]) hk rfl rfl rfl fun a hk => qe hk) fun a hk => ?_
                                  refine tqst (.int .i64 y_r156_4_1.2.2) hk rfl rfl rfl rfl (fun w hs => sv (.int .i64 y_r156_4_1.2.2) hk rfl rfl rfl fun a hk => qe hk) fun a hk => ?_
                                  refine tsst hk rfl rfl (fun K_r156_9 hK_r156_9 w hF => ?_) wt_stop
                                  have hs := hs.f hF
                                  refine salx 116181 hs rfl hk rfl rfl ze43 rfl fun b_r156_9_1 w a hk hs => ?_
                                  refine se (hs.pick [(104081, 104081), (8, 8), (3, 3), (10, 10), (9, 9), (104181, 104181), (104082, 104082)] rfl) hk (hK_r156_9 _ _ ?_)
                                  refine tsst hk rfl rfl (fun K_r156_10 hK_r156_10 w hF => ?_) wt_stop
                                  have hs := hs.f hF
                                  refine sa _ rfl hk rfl rfl rfl fun a hk => ?_
                                  refine se (hs.pick [(104081, 104081), (8, 8), (3, 3), (10, 10), (9, 9), (104181, 104181), (104082, 104082)] rfl) hk (hK_r156_10 _ _ ?_)
                                  refine tsst hk rfl rfl (fun K_r156_11 hK_r156_11 w hF => ?_) wt_stop
                                  have hs := hs.f hF
                                  refine ssw 116181 hs rfl rfl hk rfl rfl rfl rfl sz43 (by simp [Value.oneCell']) rfl fun w a hk hs => ?_
                                  refine se (hs.pick [(104081, 104081), (8, 8), (3, 3), (10, 10), (9, 9), (104181, 104181), (104082, 104082)] rfl) hk (hK_r156_11 _ _ ?_)
                                  refine tlst hk rfl rfl fun K_r156_12 hK_r156_12 w hF => ?_
                                  have hs := hs.f hF
                                  refine sa _ rfl hk rfl rfl rfl fun a hk => ?_
                                  refine se trivial hk (hK_r156_12 _ _ fun w hF => ?_)
                                  have hs := hs.f hF
                                  show R157 _ _
                                  rw [hR157]
                                  exact ⟨A_r156_4_3, p_r156_4_4, b_r156_9_1, k_r156_4_5, A_r156_4_7, p_r156_4_8, k_r156_4_9, (hk.c 6 rfl (hk.c 7 rfl (hk.c 8 rfl (hk.c 11 rfl (hk.c 12 rfl (hk.c 15 rfl (hk.c 17 rfl (hk.c 18 rfl (hk.c 19 rfl hk.k))))))))), (hs.pick [(104081, 104081), (8, 8), (116081, 116081), (10, 10), (9, 9), (104181, 104181), (104082, 104082), (116181, 116181), (116082, 116082)] rfl), o_r156_4_6, o_r156_4_10⟩
                                refine tsst hk rfl rfl (fun K_r156_9 hK_r156_9 w hF => ?_) wt_stop
                                have hs := hs.f hF
                                refine salx 116181 hs rfl hk rfl rfl ze43 rfl fun b_r156_9_1 w a hk hs => ?_
                                refine se (hs.pick [(104081, 104081), (8, 8), (3, 3), (10, 10), (9, 9), (104181, 104181), (104082, 104082)] rfl) hk (hK_r156_9 _ _ ?_)
                                refine tsst hk rfl rfl (fun K_r156_4 hK_r156_4 w hF => ?_) wt_stop
                                have hs := hs.f hF
                                refine sc rfl en25 hk rfl rfl rfl (impl_MapTxn_t _ A_r156_1_3 p_r156_1_4 y_r156_1_1 _ o_r156_1_6.view (hs.hasG (k := 116021) rfl) y_r156_3_1 A_r156_3_3 p_r156_3_4 _ o_r156_3_6.view (hs.hasG (k := 116061) rfl) _ h_r156_4_2) ?_
                                rintro _ w ⟨A_r156_4_3, p_r156_4_4, k_r156_4_5, A_r156_4_7, p_r156_4_8, k_r156_4_9, rfl, o_r156_4_6, o_r156_4_10, hG⟩ a hk
                                have hs := hs.call0k hG [116081, 116082] rfl
                                refine se (hs.pick [(104081, 104081), (8, 8), (3, 3), (10, 10), (9, 9), (104181, 104181), (104082, 104082)] rfl) hk (hK_r156_4 _ _ ?_)
                                refine tsst hk rfl rfl (fun K_r156_5 hK_r156_5 w hF => ?_) wt_stop
                                have hs := hs.f hF
                                refine sm _ rfl hk rfl rfl rfl fun a hk => ?_
                                refine se (hs.pick [(104081, 104081), (8, 8), (3, 3), (10, 10), (9, 9), (104181, 104181), (104082, 104082)] rfl) hk (hK_r156_5 _ _ ?_)
                                refine tqst (.slice A_r156_4_3 y_r156_4_1.1.length p_r156_4_4) hk rfl rfl rfl rfl (fun w hs => sv (.slice A_r156_4_3 y_r156_4_1.1.length p_r156_4_4) hk rfl rfl rfl fun a hk => qe hk) fun a hk => ?_
                                refine tqst (.agg #[.int .i64 y_r156_4_1.2.1.Code, .slice A_r156_4_7 y_r156_4_1.2.1.Values.length p_r156_4_8]) hk rfl rfl rfl rfl (fun w hs => sv (.agg #[.int .i64 y_r156_4_1.2.1.Code, .slice A_r156_4_7 y_r156_4_1.2.1.Values.length p_r156_4_8]) hk rfl rfl rfl fun a hk => qe hk) fun a hk => ?_
                                refine tqst (.int .i64 y_r156_4_1.2.2) hk rfl rfl rfl rfl (fun w hs => sv (.int .i64 y_r156_4_1.2.2) hk rfl rfl rfl fun a hk => qe hk) fun a hk => ?_
                                refine tsst hk rfl rfl (fun K_r156_10 hK_r156_10 w hF => ?_) wt_stop
                                have hs := hs.f hF
                                refine sa _ rfl hk rfl rfl rfl fun a hk => ?_
                                refine se (hs.pick [(104081, 104081), (8, 8), (3, 3), (10, 10), (9, 9), (104181, 104181), (104082, 104082)] rfl) hk (hK_r156_10 _ _ ?_)
                                refine tsst hk rfl rfl (fun K_r156_11 hK_r156_11 w hF => ?_) wt_stop
                                have hs := hs.f hF
                                refine ssw 116181 hs rfl rfl hk rfl rfl rfl rfl sz43 (by simp [Value.oneCell']) rfl fun w a hk hs => ?_
                                refine se (hs.pick [(104081, 104081), (8, 8), (3, 3), (10, 10), (9, 9), (104181, 104181), (104082, 104082)] rfl) hk (hK_r156_11 _ _ ?_)
                                refine tlst hk rfl rfl fun K_r156_12 hK_r156_12 w hF => ?_
                                have hs := hs.f hF
                                refine sa _ rfl hk rfl rfl rfl fun a hk => ?_
                                refine se trivial hk (hK_r156_12 _ _ fun w hF => ?_)
                                have hs := hs.f hF
                                show R157 _ _
                                rw [hR157]
                                exact ⟨A_r156_4_3, p_r156_4_4, b_r156_9_1, k_r156_4_5, A_r156_4_7, p_r156_4_8, k_r156_4_9, (hk.c 6 rfl (hk.c 7 rfl (hk.c 8 rfl (hk.c 11 rfl (hk.c 12 rfl (hk.c 15 rfl (hk.c 17 rfl (hk.c 18 rfl (hk.c 19 rfl hk.k))))))))), (hs.pick [(104081, 104081), (8, 8), (116081, 116081), (10, 10), (9, 9), (104181, 104181), (104082, 104082), (116181, 116181), (116082, 116082)] rfl), o_r156_4_6, o_r156_4_10⟩
                              refine tsst hk rfl rfl (fun K_r156_9 hK_r156_9 w hF => ?_) wt_stop
                              have hs := hs.f hF
                              refine salx 116181 hs rfl hk rfl rfl ze43 rfl fun b_r156_9_1 w a hk hs => ?_
                              refine se (hs.pick [(104081, 104081), (8, 8), (3, 3), (10, 10), (9, 9), (104181, 104181), (104082, 104082)] rfl) hk (hK_r156_9 _ _ ?_)
                              refine tsst hk rfl rfl (fun K_r156_3 hK_r156_3 w hF => ?_) wt_stop
                              have hs := hs.f hF
                              refine sc rfl en24 hk rfl rfl rfl (laws_toTxn_t _ x1 A1_0 p1_0 _ v1_0 (hs.hasD (k := 2) rfl) _ h_r156_3_2) ?_
                              rintro _ w ⟨A_r156_3_3, p_r156_3_4, k_r156_3_5, rfl, o_r156_3_6, hG⟩ a hk
                              have hs := hs.call0k hG [116061] rfl
                              refine se (hs.pick [(104081, 104081), (8, 8), (3, 3), (10, 10), (9, 9), (104181, 104181), (104082, 104082)] rfl) hk (hK_r156_3 _ _ ?_)
                              refine tsst hk rfl rfl (fun K_r156_4 hK_r156_4 w hF => ?_) wt_stop
                              have hs := hs.f hF
                              refine sc rfl en25 hk rfl rfl rfl (impl_MapTxn_t _ A_r156_1_3 p_r156_1_4 y_r156_1_1 _ o_r156_1_6.view (hs.hasG (k := 116021) rfl) y_r156_3_1 A_r156_3_3 p_r156_3_4 _ o_r156_3_6.view (hs.hasG (k := 116061) rfl) _ h_r156_4_2) ?_
                              rintro _ w ⟨A_r156_4_3, p_r156_4_4, k_r156_4_5, A_r156_4_7, p_r156_4_8, k_r156_4_9, rfl, o_r156_4_6, o_r156_4_10, hG⟩ a hk
                              have hs := hs.call0k hG [116081, 116082] rfl
                              refine se (hs.pick [(104081, 104081), (8, 8), (3, 3), (10, 10), (9, 9), (104181, 104181), (104082, 104082)] rfl) hk (hK_r156_4 _ _ ?_)
                              refine tsst hk rfl rfl (fun K_r156_5 hK_r156_5 w hF => ?_) wt_stop
                              have hs := hs.f hF
                              refine sm _ rfl hk rfl rfl rfl fun a hk => ?_
                              refine se (hs.pick [(104081, 104081), (8, 8), (3, 3), (10, 10), (9, 9), (104181, 104181), (104082, 104082)] rfl) hk (hK_r156_5 _ _ ?_)
                              refine tqst (.slice A_r156_4_3 y_r156_4_1.1.length p_r156_4_4) hk rfl rfl rfl rfl (fun w hs => sv (.slice A_r156_4_3 y_r156_4_1.1.length p_r156_4_4) hk rfl rfl rfl fun a hk => qe hk) fun a hk => ?_
                              refine tqst (.agg #[.int .i64 y_r156_4_1.2.1.Code, .slice A_r156_4_7 y_r156_4_1.2.1.Values.length p_r156_4_8]) hk rfl rfl rfl rfl (fun w hs => sv (.agg #[.int .i64 y_r156_4_1.2.1.Code, .slice A_r156_4_7 y_r156_4_1.2.1.Values.length p_r156_4_8]) hk rfl rfl rfl fun a hk => qe hk) fun a hk => ?_
                              refine tqst (.int .i64 y_r156_4_1.2.2) hk rfl rfl rfl rfl (fun w hs => sv (.int .i64 y_r156_4_1.2.2) hk rfl rfl rfl fun a hk => qe hk) fun a hk => ?_
                              refine tsst hk rfl rfl (fun K_r156_10 hK_r156_10 w hF => ?_) wt_stop
                              have hs := hs.f hF
                              refine sa _ rfl hk rfl rfl rfl fun a hk => ?_
                              refine se (hs.pick [(104081, 104081), (8, 8), (3, 3), (10, 10), (9, 9), (104181, 104181), (104082, 104082)] rfl) hk (hK_r156_10 _ _ ?_)
                              refine tsst hk rfl rfl (fun K_r156_11 hK_r156_11 w hF => ?_) wt_stop
                              have hs := hs.f hF
                              refine ssw 116181 hs rfl rfl hk rfl rfl rfl rfl sz43 (by simp [Value.oneCell']) rfl fun w a hk hs => ?_
                              refine se (hs.pick [(104081, 104081), (8, 8), (3, 3), (10, 10), (9, 9), (104181, 104181), (104082, 104082)] rfl) hk (hK_r156_11 _ _ ?_)
                              refine tlst hk rfl rfl fun K_r156_12 hK_r156_12 w hF => ?_
                              have hs := hs.f hF
                              refine sa _ rfl hk rfl rfl rfl fun a hk => ?_
                              refine se trivial hk (hK_r156_12 _ _ fun w hF => ?_)
                              have hs := hs.f hF
                              show R157 _ _
                              rw [hR157]
                              exact ⟨A_r156_4_3, p_r156_4_4, b_r156_9_1, k_r156_4_5, A_r156_4_7, p_r156_4_8, k_r156_4_9, (hk.c 6 rfl (hk.c 7 rfl (hk.c 8 rfl (hk.c 11 rfl (hk.c 12 rfl (hk.c 15 rfl (hk.c 17 rfl (hk.c 18 rfl (hk.c 19 rfl hk.k))))))))), (hs.pick [(104081, 104081), (8, 8), (116081, 116081), (10, 10), (9, 9), (104181, 104181), (104082, 104082), (116181, 116181), (116082, 116082)] rfl), o_r156_4_6, o_r156_4_10⟩
                            refine tsst hk rfl rfl (fun K_r156_9 hK_r156_9 w hF => ?_) wt_stop
                            have hs := hs.f hF
                            refine salx 116181 hs rfl hk rfl rfl ze43 rfl fun b_r156_9_1 w a hk hs => ?_
                            refine se (hs.pick [(104081, 104081), (8, 8), (3, 3), (10, 10), (9, 9), (104181, 104181), (104082, 104082)] rfl) hk (hK_r156_9 _ _ ?_)
                            refine tsst hk rfl rfl (fun K_r156_1 hK_r156_1 w hF => ?_) wt_stop
                            have hs := hs.f hF
                            refine sc rfl en13 hk rfl rfl rfl (laws_toEntryS_t _ A0_ p0_ l0 _ v0_ (hs.hasD (k := 1) rfl) _ h_r156_1_2) ?_
                            rintro _ w ⟨A_r156_1_3, p_r156_1_4, k_r156_1_5, rfl, o_r156_1_6, hG⟩ a hk
                            have hs := hs.call0k hG [116021] rfl
                            refine se (hs.pick [(104081, 104081), (8, 8), (3, 3), (10, 10), (9, 9), (104181, 104181), (104082, 104082)] rfl) hk (hK_r156_1 _ _ ?_)
                            refine tsst hk rfl rfl (fun K_r156_3 hK_r156_3 w hF => ?_) wt_stop
                            have hs := hs.f hF
                            refine sc rfl en24 hk rfl rfl rfl (laws_toTxn_t _ x1 A1_0 p1_0 _ v1_0 (hs.hasD (k := 2) rfl) _ h_r156_3_2) ?_
                            rintro _ w ⟨A_r156_3_3, p_r156_3_4, k_r156_3_5, rfl, o_r156_3_6, hG⟩ a hk
                            have hs := hs.call0k hG [116061] rfl
                            refine se (hs.pick [(104081, 104081), (8, 8), (3, 3), (10, 10), (9, 9), (104181, 104181), (104082, 104082)] rfl) hk (hK_r156_3 _ _ ?_)
                            refine tsst hk rfl rfl (fun K_r156_4 hK_r156_4 w hF => ?_) wt_stop
                            have hs := hs.f hF
                            refine sc rfl en25 hk rfl rfl rfl (impl_MapTxn_t _ A_r156_1_3 p_r156_1_4 y_r156_1_1 _ o_r156_1_6.view (hs.hasG (k := 116021) rfl) y_r156_3_1 A_r156_3_3 p_r156_3_4 _ o_r156_3_6.view (hs.hasG (k := 116061) rfl) _ h_r156_4_2) ?_
                            rintro _ w ⟨A_r156_4_3, p_r156_4_4, k_r156_4_5, A_r156_4_7, p_r156_4_8, k_r156_4_9, rfl, o_r156_4_6, o_r156_4_10, hG⟩ a hk
                            have hs := hs.call0k hG [116081, 116082] rfl
                            refine se (hs.pick [(104081, 104081), (8, 8), (3, 3), (10, 10), (9, 9), (104181, 104181), (104082, 104082)] rfl) hk (hK_r156_4 _ _ ?_)
                            refine tsst hk rfl rfl (fun K_r156_5 hK_r156_5 w hF => ?_) wt_stop
                            have hs := hs.f hF
                            refine sm _ rfl hk rfl rfl rfl fun a hk => ?_
                            refine se (hs.pick [(104081, 104081), (8, 8), (3, 3), (10, 10), (9, 9), (104181, 104181), (104082, 104082)] rfl) hk (hK_r156_5 _ _ ?_)
                            refine tqst (.slice A_r156_4_3 y_r156_4_1.1.length p_r156_4_4) hk rfl rfl rfl rfl (fun w hs => sv (.slice A_r156_4_3 y_r156_4_1.1.length p_r156_4_4) hk rfl rfl rfl fun a hk => qe hk) fun a hk => ?_
                            refine tqst (.agg #[.int .i64 y_r156_4_1.2.1.Code, .slice A_r156_4_7 y_r156_4_1.2.1.Values.length p_r156_4_8]) hk rfl rfl rfl rfl (fun w hs => sv (.agg #[.int .i64 y_r156_4_1.2.1.Code, .slice A_r156_4_7 y_r156_4_1.2.1.Values.length p_r156_4_8]) hk rfl rfl rfl fun a hk => qe hk) fun a hk => ?_
                            refine tqst (.int .i64 y_r156_4_1.2.2) hk rfl rfl rfl rfl (fun w hs => sv (.int .i64 y_r156_4_1.2.2) hk rfl rfl rfl fun a hk => qe hk) fun a hk => ?_
                            refine tsst hk rfl rfl (fun K_r156_10 hK_r156_10 w hF => ?_) wt_stop
                            have hs := hs.f hF
                            refine sa _ rfl hk rfl rfl rfl fun a hk => ?_
                            refine se (hs.pick [(104081, 104081), (8, 8), (3, 3), (10, 10), (9, 9), (104181, 104181), (104082, 104082)] rfl) hk (hK_r156_10 _ _ ?_)
                            refine tsst hk rfl rfl (fun K_r156_11 hK_r156_11 w hF => ?_) wt_stop
                            have hs := hs.f hF
                            refine ssw 116181 hs rfl rfl hk rfl rfl rfl rfl sz43 (by simp [Value.oneCell']) rfl fun w a hk hs => ?_
                            refine se (hs.pick [(104081, 104081), (8, 8), (3, 3), (10, 10), (9, 9), (104181, 104181), (104082, 104082)] rfl) hk (hK_r156_11 _ _ ?_)
                            refine tlst hk rfl rfl fun K_r156_12 hK_r156_12 w hF => ?_
                            have hs := hs.f hF
                            refine sa _ rfl hk rfl rfl rfl fun a hk => ?_
                            refine se trivial hk (hK_r156_12 _ _ fun w hF => ?_)
                            have hs := hs.f hF
                            show R157 _ _
                            rw [hR157]
                            exact ⟨A_r156_4_3, p_r156_4_4, b_r156_9_1, k_r156_4_5, A_r156_4_7, p_r156_4_8, k_r156_4_9, (hk.c 6 rfl (hk.c 7 rfl (hk.c 8 rfl (hk.c 11 rfl (hk.c 12 rfl (hk.c 15 rfl (hk.c 17 rfl (hk.c 18 rfl (hk.c 19 rfl hk.k))))))))), (hs.pick [(104081, 104081), (8, 8), (116081, 116081), (10, 10), (9, 9), (104181, 104181), (104082, 104082), (116181, 116181), (116082, 116082)] rfl), o_r156_4_6, o_r156_4_10⟩
                          · intro a w hR0
                            rw [hR157] at hR0
                            obtain ⟨A_r156_4_3, p_r156_4_4, b_r156_9_1, k_r156_4_5, A_r156_4_7, p_r156_4_8, k_r156_4_9, hk, hs, o_r156_4_6, o_r156_4_10⟩ := hR0
                            refine hK155 _ _ ?_
                            apply wp_seq_k; intro K158 hK158
                            apply wp_seq_k; intro K159 hK159
                            obtain ⟨o162, h163, HL164⟩ := bind_some H
                            clear H
                            obtain ⟨R165, hR165⟩ : ∃ R : Act → World → Prop, R = fun a w => ∃ (u161 : Bool), u161 = o162 ∧ Kn [(11, (.slice A39 y37.1.length p40)), (12, (.pointer (some ⟨b47, 0, none⟩))), (15, (.int .i64 y130.1)), (142, (.bool u161))] 156 a ∧ Sat [] w0 w [(1, k0_), (2, k1_0)] [(8, k125), (10, [(b47, .cells #[.int .i64 y37.2.1.Code, .slice A43 y37.2.1.Values.length p44] 43 (0, 0))]), (9, k132)] := ⟨_, rfl⟩
                            refine wp_cutq R165 ?_ ?_
                            · have H := h163
                              apply wp_region_lit
                              refine sm _ rfl hk rfl rfl rfl fun a hk => ?_
                              refine sm _ rfl hk rfl rfl rfl fun a hk => ?_
                              obtain ⟨y166, h167, H⟩ := bind_some H
                              refine sc rfl en16 hk rfl rfl rfl (laws_eqEntryS_t _ A_r156_4_3 p_r156_4_4 y_r156_4_1.1 _ o_r156_4_6.view (hs.hasG (k := 116081) rfl) A_r19_4_3 p_r19_4_4 y_r19_4_1.1 _ o_r19_4_6.view (hs.hasG (k := 104081) rfl) _ h167) ?_
                              rintro _ w ⟨rfl, hG⟩ a hk
                              have hs := hs.call0 hG
                              refine sv (.bool (!y166)) hk rfl rfl rfl fun a hk => ?_
                              refine sm _ rfl hk rfl rfl rfl fun a hk => ?_
                              rcases cond_some H with ⟨c168, H⟩ | ⟨c168, H⟩
                              · have hk := hk.lit 132 c168 rfl
                                refine sk hk rfl rfl rfl fun a hk => ?_
                                refine sk hk rfl rfl rfl fun a hk => ?_
                                refine sk hk rfl rfl rfl fun a hk => ?_
                                refine sk hk rfl rfl rfl fun a hk => ?_
                                refine sv (.bool true) hk rfl rfl rfl fun a hk => ?_
                                refine sm _ rfl hk rfl rfl rfl fun a hk => ?_
                                refine sk hk rfl rfl rfl fun a hk => ?_
                                refine sk hk rfl rfl rfl fun a hk => ?_
                                refine sk hk rfl rfl rfl fun a hk => ?_
                                refine sv (.bool true) hk rfl rfl rfl fun a hk => ?_
                                show wpList _ _ _ [] _ _
                                refine wpList_nil ?_
                                obtain rfl := Option.some.inj H
                                show R165 _ _
                                rw [hR165]
                                exact ⟨true, rfl, (hk.c 11 rfl (hk.c 12 rfl (hk.c 15 rfl (hk.c 142 rfl hk.k)))), (hs.pick [(8, 8), (10, 10), (9, 9)] rfl)⟩
                              · have hk := hk.lit 132 c168 rfl
                                refine sln [.int .i64 y_r156_4_1.2.1.Code, .slice A_r156_4_7 y_r156_4_1.2.1.Values.length p_r156_4_8] rfl hk rfl rfl rfl ag43 sz43 (box_cells hs (k := 116181) rfl) fun a hk => ?_
                                refine sln [.int .i64 y_r19_4_1.2.1.Code, .slice A_r19_4_7 y_r19_4_1.2.1.Values.length p_r19_4_8] rfl hk rfl rfl rfl ag43 sz43 (box_cells hs (k := 104181) rfl) fun a hk => ?_
                                obtain ⟨y169, h170, H⟩ := bind_some H
                                refine sc rfl en26 hk rfl rfl rfl (laws_eqResult_t _ (⟨y_r156_4_1.2.1.Code, y_r156_4_1.2.1.Values⟩ : S_Result) A_r156_4_7 p_r156_4_8 _ o_r156_4_10.view (hs.hasG (k := 116082) rfl) (⟨y_r19_4_1.2.1.Code, y_r19_4_1.2.1.Values⟩ : S_Result) A_r19_4_7 p_r19_4_8 _ o_r19_4_10.view (hs.hasG (k := 104082) rfl) _ h170) ?_
                                rintro _ w ⟨rfl, hG⟩ a hk
                                have hs := hs.call0 hG
                                refine sv (.bool (!y169)) hk rfl rfl rfl fun a hk => ?_
                                refine sv (.bool (!y169)) hk rfl rfl rfl fun a hk => ?_
                                refine sm _ rfl hk rfl rfl rfl fun a hk => ?_
                                rcases cond_some H with ⟨c171, H⟩ | ⟨c171, H⟩
                                · have hk := hk.lit 138 c171 rfl
                                  refine sk hk rfl rfl rfl fun a hk => ?_
                                  refine sk hk rfl rfl rfl fun a hk => ?_
                                  refine sk hk rfl rfl rfl fun a hk => ?_
                                  refine sv (.bool true) hk rfl rfl rfl fun a hk => ?_
                                  show wpList _ _ _ [] _ _
                                  refine wpList_nil ?_
                                  obtain rfl := Option.some.inj H
                                  show R165 _ _
                                  rw [hR165]
                                  exact ⟨true, rfl, (hk.c 11 rfl (hk.c 12 rfl (hk.c 15 rfl (hk.c 142 rfl hk.k)))), (hs.pick [(8, 8), (10, 10), (9, 9)] rfl)⟩
                                · have hk := hk.lit 138 c171 rfl
                                  refine sm _ rfl hk rfl rfl rfl fun a hk => ?_
                                  refine sm _ rfl hk rfl rfl rfl fun a hk => ?_
                                  refine sv (.bool (y_r156_4_1.2.2 != y_r19_4_1.2.2)) hk rfl rfl rfl fun a hk => ?_
                                  refine sv (.bool (y_r156_4_1.2.2 != y_r19_4_1.2.2)) hk rfl rfl rfl fun a hk => ?_
                                  show wpList _ _ _ [] _ _
                                  refine wpList_nil ?_
                                  obtain rfl := Option.some.inj H
                                  show R165 _ _
                                  rw [hR165]
                                  exact ⟨(y_r156_4_1.2.2 != y_r19_4_1.2.2), rfl, (hk.c 11 rfl (hk.c 12 rfl (hk.c 15 rfl (hk.c 142 rfl hk.k)))), (hs.pick [(8, 8), (10, 10), (9, 9)] rfl)⟩
                            · intro a w hR0
                              rw [hR165] at hR0
                              obtain ⟨u161, rfl, hk, hs⟩ := hR0
                              have H := HL164
                              try dsimp only at H
                              refine hK159 _ _ ?_
                              rcases cond_some H with ⟨c172, H⟩ | ⟨c172, H⟩
                              · have hk := hk.lit 142 c172 rfl
                                refine cnd_true hk rfl rfl ?_
                                apply wp_seq_k; intro K173 hK173
                                apply wp_region_lit
                                refine sa _ rfl hk rfl rfl rfl fun a hk => ?_
                                show wpList _ _ _ [] _ _
                                refine wpList_nil ?_
                                refine hK173 _ _ ?_
                                refine wp_ret ?_
                                obtain rfl := Option.some.inj H
                                exact fin hk _ [(.bool false)] rfl ⟨rfl, trivial⟩ ⟨rfl, (hs.pick [] rfl).dnil⟩
                              · have hk := hk.lit 142 c172 rfl
                                refine cnd_false hk rfl rfl ?_
                                refine wp_skip ?_
                                refine hK158 _ _ ?_
                                apply wp_seq_k; intro K174 hK174
                                apply wp_region_lit
                                refine sa _ rfl hk rfl rfl rfl fun a hk => ?_
                                show wpList _ _ _ [] _ _
                                refine wpList_nil ?_
                                refine hK174 _ _ ?_
                                apply wp_seq_k; intro K175 hK175
                                apply wp_region_lit
                                refine sm _ rfl hk rfl rfl rfl fun a hk => ?_
                                refine sm _ rfl hk rfl rfl rfl fun a hk => ?_
                                have hk := hk.re 143 (v' := (.slice A39 y123.2.length p40)) rfl (by rw [lh128])
                                obtain ⟨y176, h177, H⟩ := bind_some H
                                refine sc rfl en20 hk rfl rfl rfl (laws_heldEntryS_t _ A39 p40 y123.2 _ o126.view (hs.hasG (k := 8) rfl) 1 _ h177) ?_
                                rintro _ w ⟨rfl, hG⟩ a hk
                                have hs := hs.call0 hG
                                refine sa _ rfl hk rfl rfl rfl fun a hk => ?_
                                show wpList _ _ _ [] _ _
                                refine wpList_nil ?_
                                refine hK175 _ _ ?_
                                apply wp_seq_k; intro K178 hK178
                                apply wp_seq_k; intro K179 hK179
                                apply wp_region_lit
                                refine sm _ rfl hk rfl rfl rfl fun a hk => ?_
                                refine sv (.bool (decide (y176 < 0))) hk rfl rfl rfl fun a hk => ?_
                                show wpList _ _ _ [] _ _
                                refine wpList_nil ?_
                                refine hK179 _ _ ?_
                                rcases cond_some H with ⟨c180, H⟩ | ⟨c180, H⟩
                                · have hk := hk.lit 147 c180 rfl
                                  refine cnd_true hk rfl rfl ?_
                                  apply wp_seq_k; intro K181 hK181
                                  apply wp_region_lit
                                  refine sa _ rfl hk rfl rfl rfl fun a hk => ?_
                                  show wpList _ _ _ [] _ _
                                  refine wpList_nil ?_
                                  refine hK181 _ _ ?_
                                  refine wp_ret ?_
                                  obtain rfl := Option.some.inj H
                                  exact fin hk _ [(.bool false)] rfl ⟨rfl, trivial⟩ ⟨rfl, (hs.pick [] rfl).dnil⟩
                                · have hk := hk.lit 147 c180 rfl
                                  refine cnd_false hk rfl rfl ?_
                                  refine wp_skip ?_
                                  refine hK178 _ _ ?_
                                  apply wp_seq_k; intro K182 hK182
                                  apply wp_region_lit
                                  refine sln [.int .i64 y37.2.1.Code, .slice A43 y37.2.1.Values.length p44] rfl hk rfl rfl rfl ag43 sz43 (box_cells hs (k := 10) rfl) fun a hk => ?_
                                  refine sm _ rfl hk rfl rfl rfl fun a hk => ?_
                                  have hk := hk.re 148 (v' := (.agg #[.int .i64 y37.2.1.Code, .slice A43 y130.2.length p44])) rfl (by rw [lh135])
                                  obtain ⟨y183, h184, H⟩ := bind_some H
                                  refine sc rfl en30 hk rfl rfl rfl (laws_heldResult_t _ (⟨y37.2.1.Code, y130.2⟩ : S_Result) A43 p44 _ o133.view (hs.hasG (k := 9) rfl) y176 _ h184) ?_
                                  rintro _ w ⟨rfl, hG⟩ a hk
                                  have hs := hs.call0 hG
                                  refine sa _ rfl hk rfl rfl rfl fun a hk => ?_
                                  show wpList _ _ _ [] _ _
                                  refine wpList_nil ?_
                                  refine hK182 _ _ ?_
                                  apply wp_seq_k; intro K185 hK185
                                  apply wp_seq_k; intro K186 hK186
                                  apply wp_region_lit
                                  refine sm _ rfl hk rfl rfl rfl fun a hk => ?_
                                  refine sv (.bool (decide (y183 < 0))) hk rfl rfl rfl fun a hk => ?_
                                  show wpList _ _ _ [] _ _
                                  refine wpList_nil ?_
                                  refine hK186 _ _ ?_
                                  rcases cond_some H with ⟨c187, H⟩ | ⟨c187, H⟩
                                  · have hk := hk.lit 152 c187 rfl
                                    refine cnd_true hk rfl rfl ?_
                                    apply wp_seq_k; intro K188 hK188
                                    apply wp_region_lit
                                    refine sa _ rfl hk rfl rfl rfl fun a hk => ?_
                                    show wpList _ _ _ [] _ _
                                    refine wpList_nil ?_
                                    refine hK188 _ _ ?_
                                    refine wp_ret ?_
                                    obtain rfl := Option.some.inj H
                                    exact fin hk _ [(.bool false)] rfl ⟨rfl, trivial⟩ ⟨rfl, (hs.pick [] rfl).dnil⟩
                                  · have hk := hk.lit 152 c187 rfl
                                    refine cnd_false hk rfl rfl ?_
                                    refine wp_skip ?_
                                    refine hK185 _ _ ?_
                                    apply wp_seq_k; intro K189 hK189
                                    apply wp_seq_k; intro K190 hK190
                                    apply wp_region_lit
                                    refine sm _ rfl hk rfl rfl rfl fun a hk => ?_
                                    refine sm _ rfl hk rfl rfl rfl fun a hk => ?_
                                    refine sv (.bool (y183 != y130.1)) hk rfl rfl rfl fun a hk => ?_
                                    show wpList _ _ _ [] _ _
                                    refine wpList_nil ?_
                                    refine hK190 _ _ ?_
                                    rcases cond_some H with ⟨c191, H⟩ | ⟨c191, H⟩
                                    · have hk := hk.lit 155 c191 rfl
                                      refine cnd_true hk rfl rfl ?_
                                      apply wp_seq_k; intro K192 hK192
                                      apply wp_region_lit
                                      refine sa _ rfl hk rfl rfl rfl fun a hk => ?_
                                      show wpList _ _ _ [] _ _
                                      refine wpList_nil ?_
                                      refine hK192 _ _ ?_
                                      refine wp_ret ?_
                                      obtain rfl := Option.some.inj H
                                      exact fin hk _ [(.bool false)] rfl ⟨rfl, trivial⟩ ⟨rfl, (hs.pick [] rfl).dnil⟩
                                    · have hk := hk.lit 155 c191 rfl
                                      refine cnd_false hk rfl rfl ?_
                                      refine wp_skip ?_
                                      refine hK189 _ _ ?_
                                      apply wp_seq_k; intro K193 hK193
                                      apply wp_region_lit
                                      refine sa _ rfl hk rfl rfl rfl fun a hk => ?_
                                      show wpList _ _ _ [] _ _
                                      refine wpList_nil ?_
                                      refine hK193 _ _ ?_
                                      refine wp_ret ?_
                                      obtain rfl := Option.some.inj H
                                      exact fin hk _ [(.bool true)] rfl ⟨rfl, trivial⟩ ⟨rfl, (hs.pick [] rfl).dnil⟩

end Go.Proofs.Ytlbbkehdfgjneaa
