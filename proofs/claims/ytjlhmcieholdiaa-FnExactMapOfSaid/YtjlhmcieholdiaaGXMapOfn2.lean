/- Further functions. -/
import Derived.Test.YtjlhmcieholdiaaGXMapOfn1
namespace Go.Proofs.Ytjlhmcieholdiaa
open Go Go.Z Go.Proofs Go.MuLone Go.ChangeShapes Go.WideShapes Go.ChangeAt Go.RowKit
set_option linter.unusedVariables false
set_option linter.unusedSimpArgs false
noncomputable def laws_eqIntS.s0 (l0 : List Int) (l1 : List Int) (u10 : Int) : Option ((Int) ⊕ Ex (Unit) (Bool)) :=
  (bif (decide (u10 < (l0.length : Int))) then (if 0 ≤ u10 ∧ u10 < (l0.length : Int) then (if 0 ≤ u10 ∧ u10 < (l1.length : Int) then (bif ((l0.getD u10.toNat 0) != (l1.getD u10.toNat 0)) then (some (.inr (.ret false))) else (some (.inl (w64 (u10 + 1))))) else none) else none) else (some (.inr (.out ()))))
noncomputable def laws_eqIntS.f (l0 : List Int) (l1 : List Int) : Option (Bool) :=
  (bif ((l0.length : Int) != (l1.length : Int)) then (some false) else ((loopO (fun s => laws_eqIntS.s0 l0 l1 s) 0).bind fun o => match o with | .out _ => (some true) | .ret r => (some r)))
set_option maxRecDepth 100000 in
set_option maxHeartbeats 0 in
theorem laws_eqIntS_t (w0 : World) (A0_ : Option Addr) (p0_ : Nat) (l0 : List Int) (k0_ : Chunk) (v0_ : View (Lay.int .i64) A0_ p0_ l0 k0_) (w0_ : Has w0 k0_) (A1_ : Option Addr) (p1_ : Nat) (l1 : List Int) (k1_ : Chunk) (v1_ : View (Lay.int .i64) A1_ p1_ l1 k1_) (w1_ : Has w0 k1_) (r : Bool) (H : laws_eqIntS.f l0 l1 = some r) :
    Calls Try.prog 67 #[.slice A0_ l0.length p0_, .slice A1_ l1.length p1_] w0 (Ret (fun v w => v = .bool r ∧ Sat [] w0 w [] [])) := by
  have hs : Sat [] w0 w0 [(1, k0_), (2, k1_)] [] := Sat.init w0 [(1, k0_), (2, k1_)] [] (by simp only [List.mem_cons, List.not_mem_nil, or_false]; rintro x (rfl | rfl) <;> assumption) (by simp) List.nodup_nil (by simp [blks])
  unfold laws_eqIntS.f at H
  refine enter Try.func67 rfl Try.ntmps67 rfl fun a hk => ?_
  apply wp_seq_k; intro K1 hK1
  apply wp_region_lit
  refine sa _ rfl hk rfl rfl rfl fun a hk => ?_
  show wpList _ _ _ [] _ _
  refine wpList_nil ?_
  refine hK1 _ _ ?_
  apply wp_seq_k; intro K2 hK2
  apply wp_seq_k; intro K3 hK3
  apply wp_region_lit
  refine sm _ rfl hk rfl rfl rfl fun a hk => ?_
  refine sle rfl hk rfl rfl rfl un22 fun a hk => ?_
  refine sm _ rfl hk rfl rfl rfl fun a hk => ?_
  refine sle rfl hk rfl rfl rfl un22 fun a hk => ?_
  refine sv (.bool ((l0.length : Int) != (l1.length : Int))) hk rfl rfl rfl fun a hk => ?_
  show wpList _ _ _ [] _ _
  refine wpList_nil ?_
  refine hK3 _ _ ?_
  rcases cond_some H with ⟨c4, H⟩ | ⟨c4, H⟩
  · have hk := hk.lit 10 c4 rfl
    refine cnd_true hk rfl rfl ?_
    apply wp_seq_k; intro K5 hK5
    apply wp_region_lit
    refine sa _ rfl hk rfl rfl rfl fun a hk => ?_
    show wpList _ _ _ [] _ _
    refine wpList_nil ?_
    refine hK5 _ _ ?_
    refine wp_ret ?_
    obtain rfl := Option.some.inj H
    exact fin hk _ [(.bool false)] rfl ⟨rfl, trivial⟩ ⟨rfl, (hs.pick [] rfl).dnil⟩
  · have hk := hk.lit 10 c4 rfl
    refine cnd_false hk rfl rfl ?_
    refine wp_skip ?_
    refine hK2 _ _ ?_
    apply wp_seq_k; intro K6 hK6
    apply wp_seq_k; intro K7 hK7
    apply wp_region_lit
    refine sa _ rfl hk rfl rfl rfl fun a hk => ?_
    show wpList _ _ _ [] _ _
    refine wpList_nil ?_
    refine hK7 _ _ ?_
    obtain ⟨o11, h12, HL13⟩ := bind_some H
    clear H
    obtain ⟨R14, hR14⟩ : ∃ R : Act → World → Prop, R = fun a w => o11 = .out () ∧ Kn [] 26 a ∧ Sat [] w0 w [(1, k0_), (2, k1_)] [] := ⟨_, rfl⟩
    refine wp_cutq R14 ?_ ?_
    · refine wp_block ?_
      obtain ⟨fu16, h12⟩ := loopO_some h12
      obtain ⟨I15, hI15⟩ : ∃ I : Nat → Act → World → Prop, I = fun fu a w => ∃ (u10 : Int), loopN (fun s => laws_eqIntS.s0 l0 l1 s) fu u10 = some o11 ∧ Kn [(0, (.slice A0_ l0.length p0_)), (1, (.slice A1_ l1.length p1_)), (5, (.int .i64 u10))] 26 a ∧ Sat [] w0 w [(1, k0_), (2, k1_)] [] := ⟨_, rfl⟩
      refine wp_loop_ghost I15 fu16 ?_ ?_
      · rw [hI15]
        exact ⟨0, h12, (hk.c 0 rfl (hk.c 1 rfl (hk.c 5 rfl hk.k))), (hs.pick [] rfl)⟩
      · clear h12 hk hs
        intro fu16 a w hI0
        rw [hI15] at hI0
        obtain ⟨u10, hi, hk, hs⟩ := hI0
        obtain ⟨x17, H, h18⟩ := loop_round hi
        try dsimp only at H
        unfold laws_eqIntS.s0 at H
        apply wp_seq_k; intro K19 hK19
        apply wp_seq_k; intro K20 hK20
        apply wp_region_lit
        refine sm _ rfl hk rfl rfl rfl fun a hk => ?_
        refine sm _ rfl hk rfl rfl rfl fun a hk => ?_
        refine sle rfl hk rfl rfl rfl un22 fun a hk => ?_
        refine sv (.bool (decide (u10 < (l0.length : Int)))) hk rfl rfl rfl fun a hk => ?_
        show wpList _ _ _ [] _ _
        refine wpList_nil ?_
        refine hK20 _ _ ?_
        rcases cond_some H with ⟨c21, H⟩ | ⟨c21, H⟩
        · have hk := hk.lit 14 c21 rfl
          refine cnd_true hk rfl rfl ?_
          refine wp_skip ?_
          refine hK19 _ _ ?_
          apply wp_seq_k; intro K22 hK22
          refine wp_block ?_
          apply wp_seq_k; intro K23 hK23
          refine wp_region_tree (.q 0 (.q 1 (.q 2 (.q 3 (.q 4 (.alt 5 (.alt 6 (.alt 7 (.alt 8 .done .stop) .stop) .stop) .stop)))))) mo (by kernel_rfl) (hs.pick [] rfl) fun _ => ?_
          have hs := hs.drew
          refine tqst (.slice A0_ l0.length p0_) hk rfl rfl rfl rfl (fun w hs => sm _ rfl hk rfl rfl rfl fun a hk => qe hk) fun a hk => ?_
          refine tqst (.int .i64 u10) hk rfl rfl rfl rfl (fun w hs => sm _ rfl hk rfl rfl rfl fun a hk => qe hk) fun a hk => ?_
          rcases ite_some H with ⟨c25, H⟩ | ⟨_, H⟩
          rotate_left
          · cases H
          obtain ⟨b26, q27, hAc25⟩ := (v0_).some_ u10 c25.1 c25.2
          refine tqst (.pointer (some (padd A0_ (u10.toNat * 1)))) hk rfl rfl rfl rfl (fun w hs => si rfl hk rfl rfl rfl rfl un22 sz3 c25.1 c25.2 hAc25 fun a hk => qe hk) fun a hk => ?_
          obtain ⟨_, rfl, e28⟩ := (v0_).at_ 0 u10 c25.1 c25.2
          refine tqst (.int .i64 (l0.getD u10.toNat 0)) hk rfl rfl rfl rfl (fun w hs => sl (v := (.int .i64 (l0.getD u10.toNat 0))) rfl hk rfl rfl rfl ag3 ((e28 0 _ rfl).cell (hs.hasD (k := 1) rfl)) fun a hk => qe hk) fun a hk => ?_
          refine tqst (.slice A1_ l1.length p1_) hk rfl rfl rfl rfl (fun w hs => sm _ rfl hk rfl rfl rfl fun a hk => qe hk) fun a hk => ?_
          refine tsst hk rfl rfl (fun K_r24_5 hK_r24_5 w hF => ?_) wt_stop
          have hs := hs.f hF
          refine sm _ rfl hk rfl rfl rfl fun a hk => ?_
          refine se (hs.pick [] rfl) hk (hK_r24_5 _ _ ?_)
          refine tsst hk rfl rfl (fun K_r24_6 hK_r24_6 w hF => ?_) wt_stop
          have hs := hs.f hF
          rcases ite_some H with ⟨c29, H⟩ | ⟨_, H⟩
          rotate_left
          · cases H
          obtain ⟨b30, q31, hAc29⟩ := (v1_).some_ u10 c29.1 c29.2
          refine si rfl hk rfl rfl rfl rfl un22 sz3 c29.1 c29.2 hAc29 fun a hk => ?_
          refine se (hs.pick [] rfl) hk (hK_r24_6 _ _ ?_)
          refine tsst hk rfl rfl (fun K_r24_7 hK_r24_7 w hF => ?_) wt_stop
          have hs := hs.f hF
          obtain ⟨_, rfl, e32⟩ := (v1_).at_ 0 u10 c29.1 c29.2
          refine sl (v := (.int .i64 (l1.getD u10.toNat 0))) rfl hk rfl rfl rfl ag3 ((e32 0 _ rfl).cell (hs.hasD (k := 2) rfl)) fun a hk => ?_
          refine se (hs.pick [] rfl) hk (hK_r24_7 _ _ ?_)
          refine tsst hk rfl rfl (fun K_r24_8 hK_r24_8 w hF => ?_) wt_stop
          have hs := hs.f hF
          refine sv (.bool ((l0.getD u10.toNat 0) != (l1.getD u10.toNat 0))) hk rfl rfl rfl fun a hk => ?_
          refine se (hs.pick [] rfl) hk (hK_r24_8 _ _ ?_)
          refine wtl_nil fun w hF _ => ?_
          have hs := hs.f hF
          refine hK23 _ _ ?_
          rcases cond_some H with ⟨c33, H⟩ | ⟨c33, H⟩
          · have hk := hk.lit 25 c33 rfl
            refine cnd_true hk rfl rfl ?_
            apply wp_seq_k; intro K34 hK34
            apply wp_region_lit
            refine sa _ rfl hk rfl rfl rfl fun a hk => ?_
            show wpList _ _ _ [] _ _
            refine wpList_nil ?_
            refine hK34 _ _ ?_
            refine wp_ret ?_
            obtain rfl := Option.some.inj H
            have ho11 := h18
            try dsimp only at ho11
            subst ho11
            have H := HL13
            try dsimp only at H
            obtain rfl := Option.some.inj H
            exact fin hk _ [(.bool false)] rfl ⟨rfl, trivial⟩ ⟨rfl, (hs.pick [] rfl).dnil⟩
          · have hk := hk.lit 25 c33 rfl
            refine cnd_false hk rfl rfl ?_
            refine wp_skip ?_
            refine hK22 _ _ ?_
            apply wp_region_lit
            refine sm _ rfl hk rfl rfl rfl fun a hk => ?_
            refine sv (.int .i64 (w64 (u10 + 1))) hk rfl rfl rfl fun a hk => ?_
            refine sa _ rfl hk rfl rfl rfl fun a hk => ?_
            show wpList _ _ _ [] _ _
            refine wpList_nil ?_
            obtain rfl := Option.some.inj H
            obtain ⟨m35, hmm35, h18⟩ := h18
            show ∃ n', n' < _ ∧ I15 n' _ _
            refine ⟨m35, hmm35, ?_⟩
            rw [hI15]
            exact ⟨(w64 (u10 + 1)), h18, (hk.c 0 rfl (hk.c 1 rfl (hk.c 5 rfl hk.k))), (hs.pick [] rfl)⟩
        · have hk := hk.lit 14 c21 rfl
          refine cnd_false hk rfl rfl ?_
          refine wp_exit ?_
          obtain rfl := Option.some.inj H
          show R14 _ _
          rw [hR14]
          exact ⟨h18.symm, hk.k, (hs.pick [] rfl)⟩
    · intro a w hR0
      rw [hR14] at hR0
      obtain ⟨rfl, hk, hs⟩ := hR0
      have H := HL13
      try dsimp only at H
      refine hK6 _ _ ?_
      apply wp_seq_k; intro K36 hK36
      apply wp_region_lit
      refine sa _ rfl hk rfl rfl rfl fun a hk => ?_
      show wpList _ _ _ [] _ _
      refine wpList_nil ?_
      refine hK36 _ _ ?_
      refine wp_ret ?_
      obtain rfl := Option.some.inj H
      exact fin hk _ [(.bool true)] rfl ⟨rfl, trivial⟩ ⟨rfl, (hs.pick [] rfl).dnil⟩

noncomputable def laws_eqBlock.f (x0 : S_Block) (x1 : S_Block) : Option (Bool) :=
  (bif (x0.Id != x1.Id) then (some false) else (bif (x0.Leaf != x1.Leaf) then (some false) else (bif (x0.Value != x1.Value) then (some false) else (some true))))
set_option maxRecDepth 100000 in
set_option maxHeartbeats 0 in
theorem laws_eqBlock_t (w0 : World) (x0 : S_Block) (x1 : S_Block) (r : Bool) (H : laws_eqBlock.f x0 x1 = some r) :
    Calls Try.prog 135 #[.agg #[.int .i64 x0.Id, .int .i64 x0.Leaf, .int .i64 x0.Value], .agg #[.int .i64 x1.Id, .int .i64 x1.Leaf, .int .i64 x1.Value]] w0 (Ret (fun v w => v = .bool r ∧ Sat [] w0 w [] [])) := by
  have hs : Sat [] w0 w0 [] [] := Sat.init w0 [] [] (by simp) (by simp) List.nodup_nil (by simp [blks])
  unfold laws_eqBlock.f at H
  refine enter Try.func135 rfl Try.ntmps135 rfl fun a hk => ?_
  apply wp_seq_k; intro K1 hK1
  apply wp_region_lit
  refine sbx 1 hs rfl hk rfl rfl rfl rfl fun b2 w a hk hs => ?_
  refine sbx 2 hs rfl hk rfl rfl rfl rfl fun b3 w a hk hs => ?_
  refine sa _ rfl hk rfl rfl rfl fun a hk => ?_
  show wpList _ _ _ [] _ _
  refine wpList_nil ?_
  refine hK1 _ _ ?_
  apply wp_seq_k; intro K4 hK4
  apply wp_seq_k; intro K5 hK5
  apply wp_region_lit
  refine sf ⟨b2, 0, none⟩ rfl hk rfl rfl rfl fd102_0 rfl fun a hk => ?_
  refine sl rfl hk rfl rfl rfl ag3 (box_cell hs (k := 1) rfl rfl) fun a hk => ?_
  refine sf ⟨b3, 0, none⟩ rfl hk rfl rfl rfl fd102_0 rfl fun a hk => ?_
  refine sl rfl hk rfl rfl rfl ag3 (box_cell hs (k := 2) rfl rfl) fun a hk => ?_
  refine sv (.bool (x0.Id != x1.Id)) hk rfl rfl rfl fun a hk => ?_
  show wpList _ _ _ [] _ _
  refine wpList_nil ?_
  refine hK5 _ _ ?_
  rcases cond_some H with ⟨c6, H⟩ | ⟨c6, H⟩
  · have hk := hk.lit 9 c6 rfl
    refine cnd_true hk rfl rfl ?_
    apply wp_seq_k; intro K7 hK7
    apply wp_region_lit
    refine sa _ rfl hk rfl rfl rfl fun a hk => ?_
    show wpList _ _ _ [] _ _
    refine wpList_nil ?_
    refine hK7 _ _ ?_
    refine wp_ret ?_
    obtain rfl := Option.some.inj H
    exact fin hk _ [(.bool false)] rfl ⟨rfl, trivial⟩ ⟨rfl, (hs.pick [] rfl).dnil⟩
  · have hk := hk.lit 9 c6 rfl
    refine cnd_false hk rfl rfl ?_
    refine wp_skip ?_
    refine hK4 _ _ ?_
    apply wp_seq_k; intro K8 hK8
    apply wp_seq_k; intro K9 hK9
    apply wp_region_lit
    refine sf ⟨b2, 1, none⟩ rfl hk rfl rfl rfl fd102_1 rfl fun a hk => ?_
    refine sl rfl hk rfl rfl rfl ag3 (box_cell hs (k := 1) rfl rfl) fun a hk => ?_
    refine sf ⟨b3, 1, none⟩ rfl hk rfl rfl rfl fd102_1 rfl fun a hk => ?_
    refine sl rfl hk rfl rfl rfl ag3 (box_cell hs (k := 2) rfl rfl) fun a hk => ?_
    refine sv (.bool (x0.Leaf != x1.Leaf)) hk rfl rfl rfl fun a hk => ?_
    show wpList _ _ _ [] _ _
    refine wpList_nil ?_
    refine hK9 _ _ ?_
    rcases cond_some H with ⟨c10, H⟩ | ⟨c10, H⟩
    · have hk := hk.lit 14 c10 rfl
      refine cnd_true hk rfl rfl ?_
      apply wp_seq_k; intro K11 hK11
      apply wp_region_lit
      refine sa _ rfl hk rfl rfl rfl fun a hk => ?_
      show wpList _ _ _ [] _ _
      refine wpList_nil ?_
      refine hK11 _ _ ?_
      refine wp_ret ?_
      obtain rfl := Option.some.inj H
      exact fin hk _ [(.bool false)] rfl ⟨rfl, trivial⟩ ⟨rfl, (hs.pick [] rfl).dnil⟩
    · have hk := hk.lit 14 c10 rfl
      refine cnd_false hk rfl rfl ?_
      refine wp_skip ?_
      refine hK8 _ _ ?_
      apply wp_seq_k; intro K12 hK12
      apply wp_seq_k; intro K13 hK13
      apply wp_region_lit
      refine sf ⟨b2, 2, none⟩ rfl hk rfl rfl rfl fd102_2 rfl fun a hk => ?_
      refine sl rfl hk rfl rfl rfl ag3 (box_cell hs (k := 1) rfl rfl) fun a hk => ?_
      refine sf ⟨b3, 2, none⟩ rfl hk rfl rfl rfl fd102_2 rfl fun a hk => ?_
      refine sl rfl hk rfl rfl rfl ag3 (box_cell hs (k := 2) rfl rfl) fun a hk => ?_
      refine sv (.bool (x0.Value != x1.Value)) hk rfl rfl rfl fun a hk => ?_
      show wpList _ _ _ [] _ _
      refine wpList_nil ?_
      refine hK13 _ _ ?_
      rcases cond_some H with ⟨c14, H⟩ | ⟨c14, H⟩
      · have hk := hk.lit 19 c14 rfl
        refine cnd_true hk rfl rfl ?_
        apply wp_seq_k; intro K15 hK15
        apply wp_region_lit
        refine sa _ rfl hk rfl rfl rfl fun a hk => ?_
        show wpList _ _ _ [] _ _
        refine wpList_nil ?_
        refine hK15 _ _ ?_
        refine wp_ret ?_
        obtain rfl := Option.some.inj H
        exact fin hk _ [(.bool false)] rfl ⟨rfl, trivial⟩ ⟨rfl, (hs.pick [] rfl).dnil⟩
      · have hk := hk.lit 19 c14 rfl
        refine cnd_false hk rfl rfl ?_
        refine wp_skip ?_
        refine hK12 _ _ ?_
        apply wp_seq_k; intro K16 hK16
        apply wp_region_lit
        refine sa _ rfl hk rfl rfl rfl fun a hk => ?_
        show wpList _ _ _ [] _ _
        refine wpList_nil ?_
        refine hK16 _ _ ?_
        refine wp_ret ?_
        obtain rfl := Option.some.inj H
        exact fin hk _ [(.bool true)] rfl ⟨rfl, trivial⟩ ⟨rfl, (hs.pick [] rfl).dnil⟩

noncomputable def laws_eqBlockS.s0 (l0 : List S_Block) (l1 : List S_Block) (u10 : Int) : Option ((Int) ⊕ Ex (Unit) (Bool)) :=
  (bif (decide (u10 < (l0.length : Int))) then (if 0 ≤ u10 ∧ u10 < (l0.length : Int) then (if 0 ≤ u10 ∧ u10 < (l1.length : Int) then ((laws_eqBlock.f (l0.getD u10.toNat z_Block) (l1.getD u10.toNat z_Block)).bind fun y33 => (bif (!y33) then (some (.inr (.ret false))) else (some (.inl (w64 (u10 + 1)))))) else none) else none) else (some (.inr (.out ()))))
noncomputable def laws_eqBlockS.f (l0 : List S_Block) (l1 : List S_Block) : Option (Bool) :=
  (bif ((l0.length : Int) != (l1.length : Int)) then (some false) else ((loopO (fun s => laws_eqBlockS.s0 l0 l1 s) 0).bind fun o => match o with | .out _ => (some true) | .ret r => (some r)))
set_option maxRecDepth 100000 in
set_option maxHeartbeats 0 in
theorem laws_eqBlockS_t (w0 : World) (A0_ : Option Addr) (p0_ : Nat) (l0 : List S_Block) (k0_ : Chunk) (v0_ : View L_Block A0_ p0_ l0 k0_) (w0_ : Has w0 k0_) (A1_ : Option Addr) (p1_ : Nat) (l1 : List S_Block) (k1_ : Chunk) (v1_ : View L_Block A1_ p1_ l1 k1_) (w1_ : Has w0 k1_) (r : Bool) (H : laws_eqBlockS.f l0 l1 = some r) :
    Calls Try.prog 68 #[.slice A0_ l0.length p0_, .slice A1_ l1.length p1_] w0 (Ret (fun v w => v = .bool r ∧ Sat [] w0 w [] [])) := by
  have hs : Sat [] w0 w0 [(1, k0_), (2, k1_)] [] := Sat.init w0 [(1, k0_), (2, k1_)] [] (by simp only [List.mem_cons, List.not_mem_nil, or_false]; rintro x (rfl | rfl) <;> assumption) (by simp) List.nodup_nil (by simp [blks])
  unfold laws_eqBlockS.f at H
  refine enter Try.func68 rfl Try.ntmps68 rfl fun a hk => ?_
  apply wp_seq_k; intro K1 hK1
  apply wp_region_lit
  refine sa _ rfl hk rfl rfl rfl fun a hk => ?_
  show wpList _ _ _ [] _ _
  refine wpList_nil ?_
  refine hK1 _ _ ?_
  apply wp_seq_k; intro K2 hK2
  apply wp_seq_k; intro K3 hK3
  apply wp_region_lit
  refine sm _ rfl hk rfl rfl rfl fun a hk => ?_
  refine sle rfl hk rfl rfl rfl un28 fun a hk => ?_
  refine sm _ rfl hk rfl rfl rfl fun a hk => ?_
  refine sle rfl hk rfl rfl rfl un28 fun a hk => ?_
  refine sv (.bool ((l0.length : Int) != (l1.length : Int))) hk rfl rfl rfl fun a hk => ?_
  show wpList _ _ _ [] _ _
  refine wpList_nil ?_
  refine hK3 _ _ ?_
  rcases cond_some H with ⟨c4, H⟩ | ⟨c4, H⟩
  · have hk := hk.lit 10 c4 rfl
    refine cnd_true hk rfl rfl ?_
    apply wp_seq_k; intro K5 hK5
    apply wp_region_lit
    refine sa _ rfl hk rfl rfl rfl fun a hk => ?_
    show wpList _ _ _ [] _ _
    refine wpList_nil ?_
    refine hK5 _ _ ?_
    refine wp_ret ?_
    obtain rfl := Option.some.inj H
    exact fin hk _ [(.bool false)] rfl ⟨rfl, trivial⟩ ⟨rfl, (hs.pick [] rfl).dnil⟩
  · have hk := hk.lit 10 c4 rfl
    refine cnd_false hk rfl rfl ?_
    refine wp_skip ?_
    refine hK2 _ _ ?_
    apply wp_seq_k; intro K6 hK6
    apply wp_seq_k; intro K7 hK7
    apply wp_region_lit
    refine sa _ rfl hk rfl rfl rfl fun a hk => ?_
    show wpList _ _ _ [] _ _
    refine wpList_nil ?_
    refine hK7 _ _ ?_
    obtain ⟨o11, h12, HL13⟩ := bind_some H
    clear H
    obtain ⟨R14, hR14⟩ : ∃ R : Act → World → Prop, R = fun a w => o11 = .out () ∧ Kn [] 27 a ∧ Sat [] w0 w [(1, k0_), (2, k1_)] [] := ⟨_, rfl⟩
    refine wp_cutq R14 ?_ ?_
    · refine wp_block ?_
      obtain ⟨fu16, h12⟩ := loopO_some h12
      obtain ⟨I15, hI15⟩ : ∃ I : Nat → Act → World → Prop, I = fun fu a w => ∃ (u10 : Int), loopN (fun s => laws_eqBlockS.s0 l0 l1 s) fu u10 = some o11 ∧ Kn [(0, (.slice A0_ l0.length p0_)), (1, (.slice A1_ l1.length p1_)), (5, (.int .i64 u10))] 27 a ∧ Sat [] w0 w [(1, k0_), (2, k1_)] [] := ⟨_, rfl⟩
      refine wp_loop_ghost I15 fu16 ?_ ?_
      · rw [hI15]
        exact ⟨0, h12, (hk.c 0 rfl (hk.c 1 rfl (hk.c 5 rfl hk.k))), (hs.pick [] rfl)⟩
      · clear h12 hk hs
        intro fu16 a w hI0
        rw [hI15] at hI0
        obtain ⟨u10, hi, hk, hs⟩ := hI0
        obtain ⟨x17, H, h18⟩ := loop_round hi
        try dsimp only at H
        unfold laws_eqBlockS.s0 at H
        apply wp_seq_k; intro K19 hK19
        apply wp_seq_k; intro K20 hK20
        apply wp_region_lit
        refine sm _ rfl hk rfl rfl rfl fun a hk => ?_
        refine sm _ rfl hk rfl rfl rfl fun a hk => ?_
        refine sle rfl hk rfl rfl rfl un28 fun a hk => ?_
        refine sv (.bool (decide (u10 < (l0.length : Int)))) hk rfl rfl rfl fun a hk => ?_
        show wpList _ _ _ [] _ _
        refine wpList_nil ?_
        refine hK20 _ _ ?_
        rcases cond_some H with ⟨c21, H⟩ | ⟨c21, H⟩
        · have hk := hk.lit 14 c21 rfl
          refine cnd_true hk rfl rfl ?_
          refine wp_skip ?_
          refine hK19 _ _ ?_
          apply wp_seq_k; intro K22 hK22
          refine wp_block ?_
          apply wp_seq_k; intro K23 hK23
          refine wp_region_tree (.q 0 (.q 1 (.q 2 (.q 3 (.q 4 (.alt 5 (.alt 6 (.alt 7 (.alt 8 (.alt 9 .done .stop) .stop) .stop) .stop) .stop)))))) mo (by kernel_rfl) (hs.pick [] rfl) fun _ => ?_
          have hs := hs.drew
          refine tqst (.slice A0_ l0.length p0_) hk rfl rfl rfl rfl (fun w hs => sm _ rfl hk rfl rfl rfl fun a hk => qe hk) fun a hk => ?_
          refine tqst (.int .i64 u10) hk rfl rfl rfl rfl (fun w hs => sm _ rfl hk rfl rfl rfl fun a hk => qe hk) fun a hk => ?_
          rcases ite_some H with ⟨c25, H⟩ | ⟨_, H⟩
          rotate_left
          · cases H
          obtain ⟨b26, q27, hAc25⟩ := (v0_).some_ u10 c25.1 c25.2
          refine tqst (.pointer (some (padd A0_ (u10.toNat * 3)))) hk rfl rfl rfl rfl (fun w hs => si rfl hk rfl rfl rfl rfl un28 sz102 c25.1 c25.2 hAc25 fun a hk => qe hk) fun a hk => ?_
          obtain ⟨_, rfl, e28⟩ := (v0_).at_ z_Block u10 c25.1 c25.2
          refine tqst (.agg #[.int .i64 ((l0.getD u10.toNat z_Block).Id), .int .i64 ((l0.getD u10.toNat z_Block).Leaf), .int .i64 ((l0.getD u10.toNat z_Block).Value)]) hk rfl rfl rfl rfl (fun w hs => sln [.int .i64 ((l0.getD u10.toNat z_Block).Id), .int .i64 ((l0.getD u10.toNat z_Block).Leaf), .int .i64 ((l0.getD u10.toNat z_Block).Value)] rfl hk rfl rfl rfl ag102 sz102 (cells_at e28 (hs.hasD (k := 1) rfl)) fun a hk => qe hk) fun a hk => ?_
          refine tqst (.slice A1_ l1.length p1_) hk rfl rfl rfl rfl (fun w hs => sm _ rfl hk rfl rfl rfl fun a hk => qe hk) fun a hk => ?_
          refine tsst hk rfl rfl (fun K_r24_5 hK_r24_5 w hF => ?_) wt_stop
          have hs := hs.f hF
          refine sm _ rfl hk rfl rfl rfl fun a hk => ?_
          refine se (hs.pick [] rfl) hk (hK_r24_5 _ _ ?_)
          refine tsst hk rfl rfl (fun K_r24_6 hK_r24_6 w hF => ?_) wt_stop
          have hs := hs.f hF
          rcases ite_some H with ⟨c29, H⟩ | ⟨_, H⟩
          rotate_left
          · cases H
          obtain ⟨b30, q31, hAc29⟩ := (v1_).some_ u10 c29.1 c29.2
          refine si rfl hk rfl rfl rfl rfl un28 sz102 c29.1 c29.2 hAc29 fun a hk => ?_
          refine se (hs.pick [] rfl) hk (hK_r24_6 _ _ ?_)
          refine tsst hk rfl rfl (fun K_r24_7 hK_r24_7 w hF => ?_) wt_stop
          have hs := hs.f hF
          obtain ⟨_, rfl, e32⟩ := (v1_).at_ z_Block u10 c29.1 c29.2
          refine sln [.int .i64 ((l1.getD u10.toNat z_Block).Id), .int .i64 ((l1.getD u10.toNat z_Block).Leaf), .int .i64 ((l1.getD u10.toNat z_Block).Value)] rfl hk rfl rfl rfl ag102 sz102 (cells_at e32 (hs.hasD (k := 2) rfl)) fun a hk => ?_
          refine se (hs.pick [] rfl) hk (hK_r24_7 _ _ ?_)
          refine tsst hk rfl rfl (fun K_r24_8 hK_r24_8 w hF => ?_) wt_stop
          have hs := hs.f hF
          obtain ⟨y33, h34, H⟩ := bind_some H
          refine sc rfl en135 hk rfl rfl rfl (laws_eqBlock_t _ (l0.getD u10.toNat z_Block) (l1.getD u10.toNat z_Block) _ h34) ?_
          rintro _ w ⟨rfl, hG⟩ a hk
          have hs := hs.call0 hG
          refine se (hs.pick [] rfl) hk (hK_r24_8 _ _ ?_)
          refine tsst hk rfl rfl (fun K_r24_9 hK_r24_9 w hF => ?_) wt_stop
          have hs := hs.f hF
          refine sv (.bool (!y33)) hk rfl rfl rfl fun a hk => ?_
          refine se (hs.pick [] rfl) hk (hK_r24_9 _ _ ?_)
          refine wtl_nil fun w hF _ => ?_
          have hs := hs.f hF
          refine hK23 _ _ ?_
          rcases cond_some H with ⟨c35, H⟩ | ⟨c35, H⟩
          · have hk := hk.lit 26 c35 rfl
            refine cnd_true hk rfl rfl ?_
            apply wp_seq_k; intro K36 hK36
            apply wp_region_lit
            refine sa _ rfl hk rfl rfl rfl fun a hk => ?_
            show wpList _ _ _ [] _ _
            refine wpList_nil ?_
            refine hK36 _ _ ?_
            refine wp_ret ?_
            obtain rfl := Option.some.inj H
            have ho11 := h18
            try dsimp only at ho11
            subst ho11
            have H := HL13
            try dsimp only at H
            obtain rfl := Option.some.inj H
            exact fin hk _ [(.bool false)] rfl ⟨rfl, trivial⟩ ⟨rfl, (hs.pick [] rfl).dnil⟩
          · have hk := hk.lit 26 c35 rfl
            refine cnd_false hk rfl rfl ?_
            refine wp_skip ?_
            refine hK22 _ _ ?_
            apply wp_region_lit
            refine sm _ rfl hk rfl rfl rfl fun a hk => ?_
            refine sv (.int .i64 (w64 (u10 + 1))) hk rfl rfl rfl fun a hk => ?_
            refine sa _ rfl hk rfl rfl rfl fun a hk => ?_
            show wpList _ _ _ [] _ _
            refine wpList_nil ?_
            obtain rfl := Option.some.inj H
            obtain ⟨m37, hmm37, h18⟩ := h18
            show ∃ n', n' < _ ∧ I15 n' _ _
            refine ⟨m37, hmm37, ?_⟩
            rw [hI15]
            exact ⟨(w64 (u10 + 1)), h18, (hk.c 0 rfl (hk.c 1 rfl (hk.c 5 rfl hk.k))), (hs.pick [] rfl)⟩
        · have hk := hk.lit 14 c21 rfl
          refine cnd_false hk rfl rfl ?_
          refine wp_exit ?_
          obtain rfl := Option.some.inj H
          show R14 _ _
          rw [hR14]
          exact ⟨h18.symm, hk.k, (hs.pick [] rfl)⟩
    · intro a w hR0
      rw [hR14] at hR0
      obtain ⟨rfl, hk, hs⟩ := hR0
      have H := HL13
      try dsimp only at H
      refine hK6 _ _ ?_
      apply wp_seq_k; intro K38 hK38
      apply wp_region_lit
      refine sa _ rfl hk rfl rfl rfl fun a hk => ?_
      show wpList _ _ _ [] _ _
      refine wpList_nil ?_
      refine hK38 _ _ ?_
      refine wp_ret ?_
      obtain rfl := Option.some.inj H
      exact fin hk _ [(.bool true)] rfl ⟨rfl, trivial⟩ ⟨rfl, (hs.pick [] rfl).dnil⟩

noncomputable def laws_eqBlockSS.s0 (l0 : List (List S_Block)) (l1 : List (List S_Block)) (u10 : Int) : Option ((Int) ⊕ Ex (Unit) (Bool)) :=
  (bif (decide (u10 < (l0.length : Int))) then (if 0 ≤ u10 ∧ u10 < (l0.length : Int) then (if 0 ≤ u10 ∧ u10 < (l1.length : Int) then ((laws_eqBlockS.f (l0.getD u10.toNat []) (l1.getD u10.toNat [])).bind fun y39 => (bif (!y39) then (some (.inr (.ret false))) else (some (.inl (w64 (u10 + 1)))))) else none) else none) else (some (.inr (.out ()))))
noncomputable def laws_eqBlockSS.f (l0 : List (List S_Block)) (l1 : List (List S_Block)) : Option (Bool) :=
  (bif ((l0.length : Int) != (l1.length : Int)) then (some false) else ((loopO (fun s => laws_eqBlockSS.s0 l0 l1 s) 0).bind fun o => match o with | .out _ => (some true) | .ret r => (some r)))
set_option maxRecDepth 100000 in
set_option maxHeartbeats 0 in
theorem laws_eqBlockSS_t (w0 : World) (A0_ : Option Addr) (p0_ : Nat) (l0 : List (List S_Block)) (k0_ : Chunk) (v0_ : View (Lay.sl L_Block 102) A0_ p0_ l0 k0_) (w0_ : Has w0 k0_) (A1_ : Option Addr) (p1_ : Nat) (l1 : List (List S_Block)) (k1_ : Chunk) (v1_ : View (Lay.sl L_Block 102) A1_ p1_ l1 k1_) (w1_ : Has w0 k1_) (r : Bool) (H : laws_eqBlockSS.f l0 l1 = some r) :
    Calls Try.prog 69 #[.slice A0_ l0.length p0_, .slice A1_ l1.length p1_] w0 (Ret (fun v w => v = .bool r ∧ Sat [] w0 w [] [])) := by
  have hs : Sat [] w0 w0 [(1, k0_), (2, k1_)] [] := Sat.init w0 [(1, k0_), (2, k1_)] [] (by simp only [List.mem_cons, List.not_mem_nil, or_false]; rintro x (rfl | rfl) <;> assumption) (by simp) List.nodup_nil (by simp [blks])
  unfold laws_eqBlockSS.f at H
  refine enter Try.func69 rfl Try.ntmps69 rfl fun a hk => ?_
  apply wp_seq_k; intro K1 hK1
  apply wp_region_lit
  refine sa _ rfl hk rfl rfl rfl fun a hk => ?_
  show wpList _ _ _ [] _ _
  refine wpList_nil ?_
  refine hK1 _ _ ?_
  apply wp_seq_k; intro K2 hK2
  apply wp_seq_k; intro K3 hK3
  apply wp_region_lit
  refine sm _ rfl hk rfl rfl rfl fun a hk => ?_
  refine sle rfl hk rfl rfl rfl un29 fun a hk => ?_
  refine sm _ rfl hk rfl rfl rfl fun a hk => ?_
  refine sle rfl hk rfl rfl rfl un29 fun a hk => ?_
  refine sv (.bool ((l0.length : Int) != (l1.length : Int))) hk rfl rfl rfl fun a hk => ?_
  show wpList _ _ _ [] _ _
  refine wpList_nil ?_
  refine hK3 _ _ ?_
  rcases cond_some H with ⟨c4, H⟩ | ⟨c4, H⟩
  · have hk := hk.lit 10 c4 rfl
    refine cnd_true hk rfl rfl ?_
    apply wp_seq_k; intro K5 hK5
    apply wp_region_lit
    refine sa _ rfl hk rfl rfl rfl fun a hk => ?_
    show wpList _ _ _ [] _ _
    refine wpList_nil ?_
    refine hK5 _ _ ?_
    refine wp_ret ?_
    obtain rfl := Option.some.inj H
    exact fin hk _ [(.bool false)] rfl ⟨rfl, trivial⟩ ⟨rfl, (hs.pick [] rfl).dnil⟩
  · have hk := hk.lit 10 c4 rfl
    refine cnd_false hk rfl rfl ?_
    refine wp_skip ?_
    refine hK2 _ _ ?_
    apply wp_seq_k; intro K6 hK6
    apply wp_seq_k; intro K7 hK7
    apply wp_region_lit
    refine sa _ rfl hk rfl rfl rfl fun a hk => ?_
    show wpList _ _ _ [] _ _
    refine wpList_nil ?_
    refine hK7 _ _ ?_
    obtain ⟨o11, h12, HL13⟩ := bind_some H
    clear H
    obtain ⟨R14, hR14⟩ : ∃ R : Act → World → Prop, R = fun a w => o11 = .out () ∧ Kn [] 27 a ∧ Sat [] w0 w [(1, k0_), (2, k1_)] [] := ⟨_, rfl⟩
    refine wp_cutq R14 ?_ ?_
    · refine wp_block ?_
      obtain ⟨fu16, h12⟩ := loopO_some h12
      obtain ⟨I15, hI15⟩ : ∃ I : Nat → Act → World → Prop, I = fun fu a w => ∃ (u10 : Int), loopN (fun s => laws_eqBlockSS.s0 l0 l1 s) fu u10 = some o11 ∧ Kn [(0, (.slice A0_ l0.length p0_)), (1, (.slice A1_ l1.length p1_)), (5, (.int .i64 u10))] 27 a ∧ Sat [] w0 w [(1, k0_), (2, k1_)] [] := ⟨_, rfl⟩
      refine wp_loop_ghost I15 fu16 ?_ ?_
      · rw [hI15]
        exact ⟨0, h12, (hk.c 0 rfl (hk.c 1 rfl (hk.c 5 rfl hk.k))), (hs.pick [] rfl)⟩
      · clear h12 hk hs
        intro fu16 a w hI0
        rw [hI15] at hI0
        obtain ⟨u10, hi, hk, hs⟩ := hI0
        obtain ⟨x17, H, h18⟩ := loop_round hi
        try dsimp only at H
        unfold laws_eqBlockSS.s0 at H
        apply wp_seq_k; intro K19 hK19
        apply wp_seq_k; intro K20 hK20
        apply wp_region_lit
        refine sm _ rfl hk rfl rfl rfl fun a hk => ?_
        refine sm _ rfl hk rfl rfl rfl fun a hk => ?_
        refine sle rfl hk rfl rfl rfl un29 fun a hk => ?_
        refine sv (.bool (decide (u10 < (l0.length : Int)))) hk rfl rfl rfl fun a hk => ?_
        show wpList _ _ _ [] _ _
        refine wpList_nil ?_
        refine hK20 _ _ ?_
        rcases cond_some H with ⟨c21, H⟩ | ⟨c21, H⟩
        · have hk := hk.lit 14 c21 rfl
          refine cnd_true hk rfl rfl ?_
          refine wp_skip ?_
          refine hK19 _ _ ?_
          apply wp_seq_k; intro K22 hK22
          refine wp_block ?_
          apply wp_seq_k; intro K23 hK23
          refine wp_region_tree (.q 0 (.q 1 (.q 2 (.q 3 (.q 4 (.alt 5 (.alt 6 (.alt 7 (.alt 8 (.alt 9 .done .stop) .stop) .stop) .stop) .stop)))))) mo (by kernel_rfl) (hs.pick [] rfl) fun _ => ?_
          have hs := hs.drew
          refine tqst (.slice A0_ l0.length p0_) hk rfl rfl rfl rfl (fun w hs => sm _ rfl hk rfl rfl rfl fun a hk => qe hk) fun a hk => ?_
          refine tqst (.int .i64 u10) hk rfl rfl rfl rfl (fun w hs => sm _ rfl hk rfl rfl rfl fun a hk => qe hk) fun a hk => ?_
          rcases ite_some H with ⟨c25, H⟩ | ⟨_, H⟩
          rotate_left
          · cases H
          obtain ⟨b26, q27, hAc25⟩ := (v0_).some_ u10 c25.1 c25.2
          refine tqst (.pointer (some (padd A0_ (u10.toNat * 1)))) hk rfl rfl rfl rfl (fun w hs => si rfl hk rfl rfl rfl rfl un29 sz28 c25.1 c25.2 hAc25 fun a hk => qe hk) fun a hk => ?_
          obtain ⟨_, ⟨_, rfl, A29, p30, rfl, v31⟩, e28⟩ := (v0_).at_ [] u10 c25.1 c25.2
          refine tqst (.slice A29 (l0.getD u10.toNat []).length p30) hk rfl rfl rfl rfl (fun w hs => sl (v := (.slice A29 (l0.getD u10.toNat []).length p30)) rfl hk rfl rfl rfl ag28 ((e28 0 _ rfl).cell (hs.hasD (k := 1) rfl)) fun a hk => qe hk) fun a hk => ?_
          refine tqst (.slice A1_ l1.length p1_) hk rfl rfl rfl rfl (fun w hs => sm _ rfl hk rfl rfl rfl fun a hk => qe hk) fun a hk => ?_
          refine tsst hk rfl rfl (fun K_r24_5 hK_r24_5 w hF => ?_) wt_stop
          have hs := hs.f hF
          refine sm _ rfl hk rfl rfl rfl fun a hk => ?_
          refine se (hs.pick [] rfl) hk (hK_r24_5 _ _ ?_)
          refine tsst hk rfl rfl (fun K_r24_6 hK_r24_6 w hF => ?_) wt_stop
          have hs := hs.f hF
          rcases ite_some H with ⟨c32, H⟩ | ⟨_, H⟩
          rotate_left
          · cases H
          obtain ⟨b33, q34, hAc32⟩ := (v1_).some_ u10 c32.1 c32.2
          refine si rfl hk rfl rfl rfl rfl un29 sz28 c32.1 c32.2 hAc32 fun a hk => ?_
          refine se (hs.pick [] rfl) hk (hK_r24_6 _ _ ?_)
          refine tsst hk rfl rfl (fun K_r24_7 hK_r24_7 w hF => ?_) wt_stop
          have hs := hs.f hF
          obtain ⟨_, ⟨_, rfl, A36, p37, rfl, v38⟩, e35⟩ := (v1_).at_ [] u10 c32.1 c32.2
          refine sl (v := (.slice A36 (l1.getD u10.toNat []).length p37)) rfl hk rfl rfl rfl ag28 ((e35 0 _ rfl).cell (hs.hasD (k := 2) rfl)) fun a hk => ?_
          refine se (hs.pick [] rfl) hk (hK_r24_7 _ _ ?_)
          refine tsst hk rfl rfl (fun K_r24_8 hK_r24_8 w hF => ?_) wt_stop
          have hs := hs.f hF
          obtain ⟨y39, h40, H⟩ := bind_some H
          refine sc rfl en68 hk rfl rfl rfl (laws_eqBlockS_t _ A29 p30 (l0.getD u10.toNat []) _ v31 (hs.hasD (k := 1) rfl) A36 p37 (l1.getD u10.toNat []) _ v38 (hs.hasD (k := 2) rfl) _ h40) ?_
          rintro _ w ⟨rfl, hG⟩ a hk
          have hs := hs.call0 hG
          refine se (hs.pick [] rfl) hk (hK_r24_8 _ _ ?_)
          refine tsst hk rfl rfl (fun K_r24_9 hK_r24_9 w hF => ?_) wt_stop
          have hs := hs.f hF
          refine sv (.bool (!y39)) hk rfl rfl rfl fun a hk => ?_
          refine se (hs.pick [] rfl) hk (hK_r24_9 _ _ ?_)
          refine wtl_nil fun w hF _ => ?_
          have hs := hs.f hF
          refine hK23 _ _ ?_
          rcases cond_some H with ⟨c41, H⟩ | ⟨c41, H⟩
          · have hk := hk.lit 26 c41 rfl
            refine cnd_true hk rfl rfl ?_
            apply wp_seq_k; intro K42 hK42
            apply wp_region_lit
            refine sa _ rfl hk rfl rfl rfl fun a hk => ?_
            show wpList _ _ _ [] _ _
            refine wpList_nil ?_
            refine hK42 _ _ ?_
            refine wp_ret ?_
            obtain rfl := Option.some.inj H
            have ho11 := h18
            try dsimp only at ho11
            subst ho11
            have H := HL13
            try dsimp only at H
            obtain rfl := Option.some.inj H
            exact fin hk _ [(.bool false)] rfl ⟨rfl, trivial⟩ ⟨rfl, (hs.pick [] rfl).dnil⟩
          · have hk := hk.lit 26 c41 rfl
            refine cnd_false hk rfl rfl ?_
            refine wp_skip ?_
            refine hK22 _ _ ?_
            apply wp_region_lit
            refine sm _ rfl hk rfl rfl rfl fun a hk => ?_
            refine sv (.int .i64 (w64 (u10 + 1))) hk rfl rfl rfl fun a hk => ?_
            refine sa _ rfl hk rfl rfl rfl fun a hk => ?_
            show wpList _ _ _ [] _ _
            refine wpList_nil ?_
            obtain rfl := Option.some.inj H
            obtain ⟨m43, hmm43, h18⟩ := h18
            show ∃ n', n' < _ ∧ I15 n' _ _
            refine ⟨m43, hmm43, ?_⟩
            rw [hI15]
            exact ⟨(w64 (u10 + 1)), h18, (hk.c 0 rfl (hk.c 1 rfl (hk.c 5 rfl hk.k))), (hs.pick [] rfl)⟩
        · have hk := hk.lit 14 c21 rfl
          refine cnd_false hk rfl rfl ?_
          refine wp_exit ?_
          obtain rfl := Option.some.inj H
          show R14 _ _
          rw [hR14]
          exact ⟨h18.symm, hk.k, (hs.pick [] rfl)⟩
    · intro a w hR0
      rw [hR14] at hR0
      obtain ⟨rfl, hk, hs⟩ := hR0
      have H := HL13
      try dsimp only at H
      refine hK6 _ _ ?_
      apply wp_seq_k; intro K44 hK44
      apply wp_region_lit
      refine sa _ rfl hk rfl rfl rfl fun a hk => ?_
      show wpList _ _ _ [] _ _
      refine wpList_nil ?_
      refine hK44 _ _ ?_
      refine wp_ret ?_
      obtain rfl := Option.some.inj H
      exact fin hk _ [(.bool true)] rfl ⟨rfl, trivial⟩ ⟨rfl, (hs.pick [] rfl).dnil⟩

noncomputable def laws_eqOram.f (x0 : S_Oram) (x1 : S_Oram) : Option (Bool) :=
  ((laws_eqIntS.f x0.Pos x1.Pos).bind fun y6 => (bif (!y6) then (some false) else ((laws_eqBlockS.f x0.Stash x1.Stash).bind fun y12 => (bif (!y12) then (some false) else ((laws_eqBlockSS.f x0.Buckets x1.Buckets).bind fun y18 => (bif (!y18) then (some false) else (some true)))))))
set_option maxRecDepth 100000 in
set_option maxHeartbeats 0 in
theorem laws_eqOram_t (w0 : World) (x0 : S_Oram) (A0_0 : Option Addr) (p0_0 : Nat) (k0_0 : Chunk) (v0_0 : View (Lay.int .i64) A0_0 p0_0 x0.Pos k0_0) (w0_0 : Has w0 k0_0) (A0_1 : Option Addr) (p0_1 : Nat) (k0_1 : Chunk) (v0_1 : View L_Block A0_1 p0_1 x0.Stash k0_1) (w0_1 : Has w0 k0_1) (A0_2 : Option Addr) (p0_2 : Nat) (k0_2 : Chunk) (v0_2 : View (Lay.sl L_Block 102) A0_2 p0_2 x0.Buckets k0_2) (w0_2 : Has w0 k0_2) (x1 : S_Oram) (A1_0 : Option Addr) (p1_0 : Nat) (k1_0 : Chunk) (v1_0 : View (Lay.int .i64) A1_0 p1_0 x1.Pos k1_0) (w1_0 : Has w0 k1_0) (A1_1 : Option Addr) (p1_1 : Nat) (k1_1 : Chunk) (v1_1 : View L_Block A1_1 p1_1 x1.Stash k1_1) (w1_1 : Has w0 k1_1) (A1_2 : Option Addr) (p1_2 : Nat) (k1_2 : Chunk) (v1_2 : View (Lay.sl L_Block 102) A1_2 p1_2 x1.Buckets k1_2) (w1_2 : Has w0 k1_2) (r : Bool) (H : laws_eqOram.f x0 x1 = some r) :
    Calls Try.prog 13 #[.agg #[.slice A0_0 x0.Pos.length p0_0, .slice A0_1 x0.Stash.length p0_1, .slice A0_2 x0.Buckets.length p0_2], .agg #[.slice A1_0 x1.Pos.length p1_0, .slice A1_1 x1.Stash.length p1_1, .slice A1_2 x1.Buckets.length p1_2]] w0 (Ret (fun v w => v = .bool r ∧ Sat [] w0 w [] [])) := by
  have hs : Sat [] w0 w0 [(1, k0_0), (2, k0_1), (3, k0_2), (4, k1_0), (5, k1_1), (6, k1_2)] [] := Sat.init w0 [(1, k0_0), (2, k0_1), (3, k0_2), (4, k1_0), (5, k1_1), (6, k1_2)] [] (by simp only [List.mem_cons, List.not_mem_nil, or_false]; rintro x (rfl | rfl | rfl | rfl | rfl | rfl) <;> assumption) (by simp) List.nodup_nil (by simp [blks])
  unfold laws_eqOram.f at H
  refine enter Try.func13 rfl Try.ntmps13 rfl fun a hk => ?_
  apply wp_seq_k; intro K1 hK1
  apply wp_region_lit
  refine sbx 7 hs rfl hk rfl rfl rfl rfl fun b2 w a hk hs => ?_
  refine sbx 8 hs rfl hk rfl rfl rfl rfl fun b3 w a hk hs => ?_
  refine sa _ rfl hk rfl rfl rfl fun a hk => ?_
  show wpList _ _ _ [] _ _
  refine wpList_nil ?_
  refine hK1 _ _ ?_
  apply wp_seq_k; intro K4 hK4
  apply wp_seq_k; intro K5 hK5
  apply wp_region_lit
  refine sf ⟨b2, 0, none⟩ rfl hk rfl rfl rfl fd31_0 rfl fun a hk => ?_
  refine sl rfl hk rfl rfl rfl ag22 (box_cell hs (k := 7) rfl rfl) fun a hk => ?_
  refine sf ⟨b3, 0, none⟩ rfl hk rfl rfl rfl fd31_0 rfl fun a hk => ?_
  refine sl rfl hk rfl rfl rfl ag22 (box_cell hs (k := 8) rfl rfl) fun a hk => ?_
  obtain ⟨y6, h7, H⟩ := bind_some H
  refine sc rfl en67 hk rfl rfl rfl (laws_eqIntS_t _ A0_0 p0_0 x0.Pos _ v0_0 (hs.hasD (k := 1) rfl) A1_0 p1_0 x1.Pos _ v1_0 (hs.hasD (k := 4) rfl) _ h7) ?_
  rintro _ w ⟨rfl, hG⟩ a hk
  have hs := hs.call0 hG
  refine sv (.bool (!y6)) hk rfl rfl rfl fun a hk => ?_
  show wpList _ _ _ [] _ _
  refine wpList_nil ?_
  refine hK5 _ _ ?_
  rcases cond_some H with ⟨c8, H⟩ | ⟨c8, H⟩
  · have hk := hk.lit 10 c8 rfl
    refine cnd_true hk rfl rfl ?_
    apply wp_seq_k; intro K9 hK9
    apply wp_region_lit
    refine sa _ rfl hk rfl rfl rfl fun a hk => ?_
    show wpList _ _ _ [] _ _
    refine wpList_nil ?_
    refine hK9 _ _ ?_
    refine wp_ret ?_
    obtain rfl := Option.some.inj H
    exact fin hk _ [(.bool false)] rfl ⟨rfl, trivial⟩ ⟨rfl, (hs.pick [] rfl).dnil⟩
  · have hk := hk.lit 10 c8 rfl
    refine cnd_false hk rfl rfl ?_
    refine wp_skip ?_
    refine hK4 _ _ ?_
    apply wp_seq_k; intro K10 hK10
    apply wp_seq_k; intro K11 hK11
    apply wp_region_lit
    refine sf ⟨b2, 1, none⟩ rfl hk rfl rfl rfl fd31_1 rfl fun a hk => ?_
    refine sl rfl hk rfl rfl rfl ag28 (box_cell hs (k := 7) rfl rfl) fun a hk => ?_
    refine sf ⟨b3, 1, none⟩ rfl hk rfl rfl rfl fd31_1 rfl fun a hk => ?_
    refine sl rfl hk rfl rfl rfl ag28 (box_cell hs (k := 8) rfl rfl) fun a hk => ?_
    obtain ⟨y12, h13, H⟩ := bind_some H
    refine sc rfl en68 hk rfl rfl rfl (laws_eqBlockS_t _ A0_1 p0_1 x0.Stash _ v0_1 (hs.hasD (k := 2) rfl) A1_1 p1_1 x1.Stash _ v1_1 (hs.hasD (k := 5) rfl) _ h13) ?_
    rintro _ w ⟨rfl, hG⟩ a hk
    have hs := hs.call0 hG
    refine sv (.bool (!y12)) hk rfl rfl rfl fun a hk => ?_
    show wpList _ _ _ [] _ _
    refine wpList_nil ?_
    refine hK11 _ _ ?_
    rcases cond_some H with ⟨c14, H⟩ | ⟨c14, H⟩
    · have hk := hk.lit 16 c14 rfl
      refine cnd_true hk rfl rfl ?_
      apply wp_seq_k; intro K15 hK15
      apply wp_region_lit
      refine sa _ rfl hk rfl rfl rfl fun a hk => ?_
      show wpList _ _ _ [] _ _
      refine wpList_nil ?_
      refine hK15 _ _ ?_
      refine wp_ret ?_
      obtain rfl := Option.some.inj H
      exact fin hk _ [(.bool false)] rfl ⟨rfl, trivial⟩ ⟨rfl, (hs.pick [] rfl).dnil⟩
    · have hk := hk.lit 16 c14 rfl
      refine cnd_false hk rfl rfl ?_
      refine wp_skip ?_
      refine hK10 _ _ ?_
      apply wp_seq_k; intro K16 hK16
      apply wp_seq_k; intro K17 hK17
      apply wp_region_lit
      refine sf ⟨b2, 2, none⟩ rfl hk rfl rfl rfl fd31_2 rfl fun a hk => ?_
      refine sl rfl hk rfl rfl rfl ag29 (box_cell hs (k := 7) rfl rfl) fun a hk => ?_
      refine sf ⟨b3, 2, none⟩ rfl hk rfl rfl rfl fd31_2 rfl fun a hk => ?_
      refine sl rfl hk rfl rfl rfl ag29 (box_cell hs (k := 8) rfl rfl) fun a hk => ?_
      obtain ⟨y18, h19, H⟩ := bind_some H
      refine sc rfl en69 hk rfl rfl rfl (laws_eqBlockSS_t _ A0_2 p0_2 x0.Buckets _ v0_2 (hs.hasD (k := 3) rfl) A1_2 p1_2 x1.Buckets _ v1_2 (hs.hasD (k := 6) rfl) _ h19) ?_
      rintro _ w ⟨rfl, hG⟩ a hk
      have hs := hs.call0 hG
      refine sv (.bool (!y18)) hk rfl rfl rfl fun a hk => ?_
      show wpList _ _ _ [] _ _
      refine wpList_nil ?_
      refine hK17 _ _ ?_
      rcases cond_some H with ⟨c20, H⟩ | ⟨c20, H⟩
      · have hk := hk.lit 22 c20 rfl
        refine cnd_true hk rfl rfl ?_
        apply wp_seq_k; intro K21 hK21
        apply wp_region_lit
        refine sa _ rfl hk rfl rfl rfl fun a hk => ?_
        show wpList _ _ _ [] _ _
        refine wpList_nil ?_
        refine hK21 _ _ ?_
        refine wp_ret ?_
        obtain rfl := Option.some.inj H
        exact fin hk _ [(.bool false)] rfl ⟨rfl, trivial⟩ ⟨rfl, (hs.pick [] rfl).dnil⟩
      · have hk := hk.lit 22 c20 rfl
        refine cnd_false hk rfl rfl ?_
        refine wp_skip ?_
        refine hK16 _ _ ?_
        apply wp_seq_k; intro K22 hK22
        apply wp_region_lit
        refine sa _ rfl hk rfl rfl rfl fun a hk => ?_
        show wpList _ _ _ [] _ _
        refine wpList_nil ?_
        refine hK22 _ _ ?_
        refine wp_ret ?_
        obtain rfl := Option.some.inj H
        exact fin hk _ [(.bool true)] rfl ⟨rfl, trivial⟩ ⟨rfl, (hs.pick [] rfl).dnil⟩

noncomputable def laws_eqEnc.f (x0 : S_Enc) (x1 : S_Enc) : Option (Bool) :=
  ((laws_eqIntS.f x0.Keys x1.Keys).bind fun y6 => (bif (!y6) then (some false) else ((laws_eqOram.f x0.Oram x1.Oram).bind fun y12 => (bif (!y12) then (some false) else (some true)))))
set_option maxRecDepth 100000 in
set_option maxHeartbeats 0 in
theorem laws_eqEnc_t (w0 : World) (x0 : S_Enc) (A0_0 : Option Addr) (p0_0 : Nat) (k0_0 : Chunk) (v0_0 : View (Lay.int .i64) A0_0 p0_0 x0.Keys k0_0) (w0_0 : Has w0 k0_0) (A0_1 : Option Addr) (p0_1 : Nat) (k0_1 : Chunk) (v0_1 : View (Lay.int .i64) A0_1 p0_1 x0.Oram.Pos k0_1) (w0_1 : Has w0 k0_1) (A0_2 : Option Addr) (p0_2 : Nat) (k0_2 : Chunk) (v0_2 : View L_Block A0_2 p0_2 x0.Oram.Stash k0_2) (w0_2 : Has w0 k0_2) (A0_3 : Option Addr) (p0_3 : Nat) (k0_3 : Chunk) (v0_3 : View (Lay.sl L_Block 102) A0_3 p0_3 x0.Oram.Buckets k0_3) (w0_3 : Has w0 k0_3) (x1 : S_Enc) (A1_0 : Option Addr) (p1_0 : Nat) (k1_0 : Chunk) (v1_0 : View (Lay.int .i64) A1_0 p1_0 x1.Keys k1_0) (w1_0 : Has w0 k1_0) (A1_1 : Option Addr) (p1_1 : Nat) (k1_1 : Chunk) (v1_1 : View (Lay.int .i64) A1_1 p1_1 x1.Oram.Pos k1_1) (w1_1 : Has w0 k1_1) (A1_2 : Option Addr) (p1_2 : Nat) (k1_2 : Chunk) (v1_2 : View L_Block A1_2 p1_2 x1.Oram.Stash k1_2) (w1_2 : Has w0 k1_2) (A1_3 : Option Addr) (p1_3 : Nat) (k1_3 : Chunk) (v1_3 : View (Lay.sl L_Block 102) A1_3 p1_3 x1.Oram.Buckets k1_3) (w1_3 : Has w0 k1_3) (r : Bool) (H : laws_eqEnc.f x0 x1 = some r) :
    Calls Try.prog 29 #[.agg #[.slice A0_0 x0.Keys.length p0_0, .slice A0_1 x0.Oram.Pos.length p0_1, .slice A0_2 x0.Oram.Stash.length p0_2, .slice A0_3 x0.Oram.Buckets.length p0_3], .agg #[.slice A1_0 x1.Keys.length p1_0, .slice A1_1 x1.Oram.Pos.length p1_1, .slice A1_2 x1.Oram.Stash.length p1_2, .slice A1_3 x1.Oram.Buckets.length p1_3]] w0 (Ret (fun v w => v = .bool r ∧ Sat [] w0 w [] [])) := by
  have hs : Sat [] w0 w0 [(1, k0_0), (2, k0_1), (3, k0_2), (4, k0_3), (5, k1_0), (6, k1_1), (7, k1_2), (8, k1_3)] [] := Sat.init w0 [(1, k0_0), (2, k0_1), (3, k0_2), (4, k0_3), (5, k1_0), (6, k1_1), (7, k1_2), (8, k1_3)] [] (by simp only [List.mem_cons, List.not_mem_nil, or_false]; rintro x (rfl | rfl | rfl | rfl | rfl | rfl | rfl | rfl) <;> assumption) (by simp) List.nodup_nil (by simp [blks])
  unfold laws_eqEnc.f at H
  refine enter Try.func29 rfl Try.ntmps29 rfl fun a hk => ?_
  apply wp_seq_k; intro K1 hK1
  apply wp_region_lit
  refine sbx 9 hs rfl hk rfl rfl rfl rfl fun b2 w a hk hs => ?_
  refine sbx 10 hs rfl hk rfl rfl rfl rfl fun b3 w a hk hs => ?_
  refine sa _ rfl hk rfl rfl rfl fun a hk => ?_
  show wpList _ _ _ [] _ _
  refine wpList_nil ?_
  refine hK1 _ _ ?_
  apply wp_seq_k; intro K4 hK4
  apply wp_seq_k; intro K5 hK5
  apply wp_region_lit
  refine sf ⟨b2, 0, none⟩ rfl hk rfl rfl rfl fd54_0 rfl fun a hk => ?_
  refine sl rfl hk rfl rfl rfl ag22 (box_cell hs (k := 9) rfl rfl) fun a hk => ?_
  refine sf ⟨b3, 0, none⟩ rfl hk rfl rfl rfl fd54_0 rfl fun a hk => ?_
  refine sl rfl hk rfl rfl rfl ag22 (box_cell hs (k := 10) rfl rfl) fun a hk => ?_
  obtain ⟨y6, h7, H⟩ := bind_some H
  refine sc rfl en67 hk rfl rfl rfl (laws_eqIntS_t _ A0_0 p0_0 x0.Keys _ v0_0 (hs.hasD (k := 1) rfl) A1_0 p1_0 x1.Keys _ v1_0 (hs.hasD (k := 5) rfl) _ h7) ?_
  rintro _ w ⟨rfl, hG⟩ a hk
  have hs := hs.call0 hG
  refine sv (.bool (!y6)) hk rfl rfl rfl fun a hk => ?_
  show wpList _ _ _ [] _ _
  refine wpList_nil ?_
  refine hK5 _ _ ?_
  rcases cond_some H with ⟨c8, H⟩ | ⟨c8, H⟩
  · have hk := hk.lit 10 c8 rfl
    refine cnd_true hk rfl rfl ?_
    apply wp_seq_k; intro K9 hK9
    apply wp_region_lit
    refine sa _ rfl hk rfl rfl rfl fun a hk => ?_
    show wpList _ _ _ [] _ _
    refine wpList_nil ?_
    refine hK9 _ _ ?_
    refine wp_ret ?_
    obtain rfl := Option.some.inj H
    exact fin hk _ [(.bool false)] rfl ⟨rfl, trivial⟩ ⟨rfl, (hs.pick [] rfl).dnil⟩
  · have hk := hk.lit 10 c8 rfl
    refine cnd_false hk rfl rfl ?_
    refine wp_skip ?_
    refine hK4 _ _ ?_
    apply wp_seq_k; intro K10 hK10
    apply wp_seq_k; intro K11 hK11
    apply wp_region_lit
    refine sf ⟨b2, 1, none⟩ rfl hk rfl rfl rfl fd54_1 rfl fun a hk => ?_
    refine sln [.slice A0_1 x0.Oram.Pos.length p0_1, .slice A0_2 x0.Oram.Stash.length p0_2, .slice A0_3 x0.Oram.Buckets.length p0_3] rfl hk rfl rfl rfl ag31 sz31 (box_part hs (k := 9) rfl rfl) fun a hk => ?_
    refine sf ⟨b3, 1, none⟩ rfl hk rfl rfl rfl fd54_1 rfl fun a hk => ?_
    refine sln [.slice A1_1 x1.Oram.Pos.length p1_1, .slice A1_2 x1.Oram.Stash.length p1_2, .slice A1_3 x1.Oram.Buckets.length p1_3] rfl hk rfl rfl rfl ag31 sz31 (box_part hs (k := 10) rfl rfl) fun a hk => ?_
    obtain ⟨y12, h13, H⟩ := bind_some H
    refine sc rfl en13 hk rfl rfl rfl (laws_eqOram_t _ x0.Oram A0_1 p0_1 _ v0_1 (hs.hasD (k := 2) rfl) A0_2 p0_2 _ v0_2 (hs.hasD (k := 3) rfl) A0_3 p0_3 _ v0_3 (hs.hasD (k := 4) rfl) x1.Oram A1_1 p1_1 _ v1_1 (hs.hasD (k := 6) rfl) A1_2 p1_2 _ v1_2 (hs.hasD (k := 7) rfl) A1_3 p1_3 _ v1_3 (hs.hasD (k := 8) rfl) _ h13) ?_
    rintro _ w ⟨rfl, hG⟩ a hk
    have hs := hs.call0 hG
    refine sv (.bool (!y12)) hk rfl rfl rfl fun a hk => ?_
    show wpList _ _ _ [] _ _
    refine wpList_nil ?_
    refine hK11 _ _ ?_
    rcases cond_some H with ⟨c14, H⟩ | ⟨c14, H⟩
    · have hk := hk.lit 16 c14 rfl
      refine cnd_true hk rfl rfl ?_
      apply wp_seq_k; intro K15 hK15
      apply wp_region_lit
      refine sa _ rfl hk rfl rfl rfl fun a hk => ?_
      show wpList _ _ _ [] _ _
      refine wpList_nil ?_
      refine hK15 _ _ ?_
      refine wp_ret ?_
      obtain rfl := Option.some.inj H
      exact fin hk _ [(.bool false)] rfl ⟨rfl, trivial⟩ ⟨rfl, (hs.pick [] rfl).dnil⟩
    · have hk := hk.lit 16 c14 rfl
      refine cnd_false hk rfl rfl ?_
      refine wp_skip ?_
      refine hK10 _ _ ?_
      apply wp_seq_k; intro K16 hK16
      apply wp_region_lit
      refine sa _ rfl hk rfl rfl rfl fun a hk => ?_
      show wpList _ _ _ [] _ _
      refine wpList_nil ?_
      refine hK16 _ _ ?_
      refine wp_ret ?_
      obtain rfl := Option.some.inj H
      exact fin hk _ [(.bool true)] rfl ⟨rfl, trivial⟩ ⟨rfl, (hs.pick [] rfl).dnil⟩

noncomputable def laws_markIntS.s0 (l0 : List Int) (u6 : List Int) (u10 : Int) (u11 : Int) : Option (((List Int) × Int × Int) ⊕ Ex ((List Int) × Int) (Int × (List Int))) :=
  (bif (decide (u11 < (l0.length : Int))) then (if 0 ≤ u11 ∧ u11 < (l0.length : Int) then (some (.inl ((u6.set u11.toNat u10), (w64 (u10 + 1)), (w64 (u11 + 1))))) else none) else (some (.inr (.out (u6, u10)))))
noncomputable def laws_markIntS.f (l0 : List Int) (x1 : Int) : Option (Int × (List Int)) :=
  ((loopO (fun s => laws_markIntS.s0 l0 s.1 s.2.1 s.2.2) (l0, x1, 0)).bind fun o => match o with | .out (u12, u16) => (some (u16, u12)) | .ret r => (some r))
set_option maxRecDepth 100000 in
set_option maxHeartbeats 0 in
theorem laws_markIntS_t (w0 : World) (A0_ : Option Addr) (p0_ : Nat) (l0 : List Int) (k0_ : Chunk) (v0_ : Own (Lay.int .i64) 3 A0_ p0_ l0 k0_) (x1 : Int) (hs0 : Sat (blks [(1, k0_)]) w0 w0 [] [(1, k0_)]) (r : Int × (List Int)) (H : laws_markIntS.f l0 x1 = some r) :
    Calls Try.prog 70 #[.slice A0_ l0.length p0_, .int .i64 x1] w0 (Ret (fun v w => ∃ (k0 : Chunk), v = .int .i64 r.1 ∧ (Own (Lay.int .i64) 3 A0_ p0_ r.2 k0 ∧ r.2.length = l0.length) ∧ Sat (blks [(1, k0_)]) w0 w [] [(0, k0)])) := by
  have hs := hs0
  unfold laws_markIntS.f at H
  refine enter Try.func70 rfl Try.ntmps70 rfl fun a hk => ?_
  apply wp_seq_k; intro K1 hK1
  apply wp_region_lit
  refine sa _ rfl hk rfl rfl rfl fun a hk => ?_
  show wpList _ _ _ [] _ _
  refine wpList_nil ?_
  refine hK1 _ _ ?_
  apply wp_seq_k; intro K2 hK2
  apply wp_seq_k; intro K3 hK3
  apply wp_region_lit
  refine sa _ rfl hk rfl rfl rfl fun a hk => ?_
  show wpList _ _ _ [] _ _
  refine wpList_nil ?_
  refine hK3 _ _ ?_
  obtain ⟨o17, h18, HL19⟩ := bind_some H
  clear H
  obtain ⟨R20, hR20⟩ : ∃ R : Act → World → Prop, R = fun a w => ∃ (u12 : List Int) (u16 : Int) (k13 : Chunk), o17 = .out (u12, u16) ∧ Kn [(0, (.slice A0_ l0.length p0_)), (1, (.int .i64 u16))] 19 a ∧ Sat (blks [(1, k0_)]) w0 w [] [(1, k13)] ∧ Own (Lay.int .i64) 3 A0_ p0_ u12 k13 ∧ u12.length = l0.length := ⟨_, rfl⟩
  refine wp_cutq R20 ?_ ?_
  · refine wp_block ?_
    obtain ⟨fu22, h18⟩ := loopO_some h18
    obtain ⟨I21, hI21⟩ : ∃ I : Nat → Act → World → Prop, I = fun fu a w => ∃ (u6 : List Int) (u10 : Int) (u11 : Int) (k7 : Chunk), loopN (fun s => laws_markIntS.s0 l0 s.1 s.2.1 s.2.2) fu (u6, u10, u11) = some o17 ∧ Kn [(0, (.slice A0_ l0.length p0_)), (1, (.int .i64 u10)), (5, (.int .i64 u11))] 19 a ∧ Sat (blks [(1, k0_)]) w0 w [] [(1, k7)] ∧ Own (Lay.int .i64) 3 A0_ p0_ u6 k7 ∧ u6.length = l0.length := ⟨_, rfl⟩
    refine wp_loop_ghost I21 fu22 ?_ ?_
    · rw [hI21]
      exact ⟨l0, x1, 0, _, h18, (hk.c 0 rfl (hk.c 1 rfl (hk.c 5 rfl hk.k))), (hs.pick [(1, 1)] rfl), v0_, rfl⟩
    · clear h18 hk hs
      intro fu22 a w hI0
      rw [hI21] at hI0
      obtain ⟨u6, u10, u11, k7, hi, hk, hs, o8, lh9⟩ := hI0
      obtain ⟨x23, H, h24⟩ := loop_round hi
      try dsimp only at H
      unfold laws_markIntS.s0 at H
      apply wp_seq_k; intro K25 hK25
      apply wp_seq_k; intro K26 hK26
      apply wp_region_lit
      refine sm _ rfl hk rfl rfl rfl fun a hk => ?_
      refine sm _ rfl hk rfl rfl rfl fun a hk => ?_
      refine sle rfl hk rfl rfl rfl un22 fun a hk => ?_
      refine sv (.bool (decide (u11 < (l0.length : Int)))) hk rfl rfl rfl fun a hk => ?_
      show wpList _ _ _ [] _ _
      refine wpList_nil ?_
      refine hK26 _ _ ?_
      rcases cond_some H with ⟨c27, H⟩ | ⟨c27, H⟩
      · have hk := hk.lit 9 c27 rfl
        refine cnd_true hk rfl rfl ?_
        refine wp_skip ?_
        refine hK25 _ _ ?_
        apply wp_seq_k; intro K28 hK28
        refine wp_block ?_
        apply wp_seq_k; intro K29 hK29
        apply wp_region_lit
        refine sm _ rfl hk rfl rfl rfl fun a hk => ?_
        refine sm _ rfl hk rfl rfl rfl fun a hk => ?_
        refine sm _ rfl hk rfl rfl rfl fun a hk => ?_
        rcases ite_some H with ⟨c30, H⟩ | ⟨_, H⟩
        rotate_left
        · cases H
        obtain ⟨b31, q32, hAc30⟩ := (o8.view).some_ u11 c30.1 (by rw [lh9]; exact c30.2)
        refine si rfl hk rfl rfl rfl rfl un22 sz3 c30.1 c30.2 hAc30 fun a hk => ?_
        refine so (j := 0) 1 0 u10 hs rfl o8 c30.1 (by rw [lh9]; exact c30.2) rfl hk rfl rfl rfl rfl rfl sz3 (by simp [Value.cells, Value.oneCell']) (Nat.le_of_ble_eq_true rfl) (fun _ _ h => ⟨by rw [h.1]; rfl, h.2⟩) fun k33 w a hk o34 hs => ?_
        have lh35 : (u6.set u11.toNat u10).length = l0.length := by rw [List.length_set]; exact lh9
        show wpList _ _ _ [] _ _
        refine wpList_nil ?_
        refine hK29 _ _ ?_
        apply wp_region_lit
        refine sm _ rfl hk rfl rfl rfl fun a hk => ?_
        refine sv (.int .i64 (w64 (u10 + 1))) hk rfl rfl rfl fun a hk => ?_
        refine sa _ rfl hk rfl rfl rfl fun a hk => ?_
        show wpList _ _ _ [] _ _
        refine wpList_nil ?_
        refine hK28 _ _ ?_
        apply wp_region_lit
        refine sm _ rfl hk rfl rfl rfl fun a hk => ?_
        refine sv (.int .i64 (w64 (u11 + 1))) hk rfl rfl rfl fun a hk => ?_
        refine sa _ rfl hk rfl rfl rfl fun a hk => ?_
        show wpList _ _ _ [] _ _
        refine wpList_nil ?_
        obtain rfl := Option.some.inj H
        obtain ⟨m36, hmm36, h24⟩ := h24
        show ∃ n', n' < _ ∧ I21 n' _ _
        refine ⟨m36, hmm36, ?_⟩
        rw [hI21]
        exact ⟨(u6.set u11.toNat u10), (w64 (u10 + 1)), (w64 (u11 + 1)), _, h24, (hk.c 0 rfl (hk.c 1 rfl (hk.c 5 rfl hk.k))), (hs.pick [(1, 1)] rfl), o34, lh35⟩
      · have hk := hk.lit 9 c27 rfl
        refine cnd_false hk rfl rfl ?_
        refine wp_exit ?_
        obtain rfl := Option.some.inj H
        show R20 _ _
        rw [hR20]
        exact ⟨u6, u10, _, h24.symm, (hk.c 0 rfl (hk.c 1 rfl hk.k)), (hs.pick [(1, 1)] rfl), o8, lh9⟩
  · intro a w hR0
    rw [hR20] at hR0
    obtain ⟨u12, u16, k13, rfl, hk, hs, o14, lh15⟩ := hR0
    have H := HL19
    try dsimp only at H
    refine hK2 _ _ ?_
    apply wp_seq_k; intro K37 hK37
    apply wp_region_lit
    refine sm _ rfl hk rfl rfl rfl fun a hk => ?_
    refine sa _ rfl hk rfl rfl rfl fun a hk => ?_
    show wpList _ _ _ [] _ _
    refine wpList_nil ?_
    refine hK37 _ _ ?_
    refine wp_ret ?_
    obtain rfl := Option.some.inj H
    exact fin hk _ [(.int .i64 u16)] rfl ⟨rfl, trivial⟩ ⟨_, rfl, ⟨o14, lh15⟩, (hs.pick [(0, 1)] rfl).dnil⟩

noncomputable def laws_markBlockS.s0 (l0 : List S_Block) (u6 : List S_Block) (u10 : Int) (u11 : Int) : Option (((List S_Block) × Int × Int) ⊕ Ex ((List S_Block) × Int) (Int × (List S_Block))) :=
  (bif (decide (u11 < (l0.length : Int))) then (if 0 ≤ u11 ∧ u11 < (l0.length : Int) then (if 0 ≤ u11 ∧ u11 < (l0.length : Int) then (if 0 ≤ u11 ∧ u11 < (l0.length : Int) then (some (.inl ((((u6.set u11.toNat (⟨u10, (u6.getD u11.toNat z_Block).Leaf, (u6.getD u11.toNat z_Block).Value⟩ : S_Block)).set u11.toNat (⟨((u6.set u11.toNat (⟨u10, (u6.getD u11.toNat z_Block).Leaf, (u6.getD u11.toNat z_Block).Value⟩ : S_Block)).getD u11.toNat z_Block).Id, (w64 (u10 + 1)), ((u6.set u11.toNat (⟨u10, (u6.getD u11.toNat z_Block).Leaf, (u6.getD u11.toNat z_Block).Value⟩ : S_Block)).getD u11.toNat z_Block).Value⟩ : S_Block)).set u11.toNat (⟨(((u6.set u11.toNat (⟨u10, (u6.getD u11.toNat z_Block).Leaf, (u6.getD u11.toNat z_Block).Value⟩ : S_Block)).set u11.toNat (⟨((u6.set u11.toNat (⟨u10, (u6.getD u11.toNat z_Block).Leaf, (u6.getD u11.toNat z_Block).Value⟩ : S_Block)).getD u11.toNat z_Block).Id, (w64 (u10 + 1)), ((u6.set u11.toNat (⟨u10, (u6.getD u11.toNat z_Block).Leaf, (u6.getD u11.toNat z_Block).Value⟩ : S_Block)).getD u11.toNat z_Block).Value⟩ : S_Block)).getD u11.toNat z_Block).Id, (((u6.set u11.toNat (⟨u10, (u6.getD u11.toNat z_Block).Leaf, (u6.getD u11.toNat z_Block).Value⟩ : S_Block)).set u11.toNat (⟨((u6.set u11.toNat (⟨u10, (u6.getD u11.toNat z_Block).Leaf, (u6.getD u11.toNat z_Block).Value⟩ : S_Block)).getD u11.toNat z_Block).Id, (w64 (u10 + 1)), ((u6.set u11.toNat (⟨u10, (u6.getD u11.toNat z_Block).Leaf, (u6.getD u11.toNat z_Block).Value⟩ : S_Block)).getD u11.toNat z_Block).Value⟩ : S_Block)).getD u11.toNat z_Block).Leaf, (w64 ((w64 (u10 + 1)) + 1))⟩ : S_Block)), (w64 ((w64 ((w64 (u10 + 1)) + 1)) + 1)), (w64 (u11 + 1))))) else none) else none) else none) else (some (.inr (.out (u6, u10)))))
noncomputable def laws_markBlockS.f (l0 : List S_Block) (x1 : Int) : Option (Int × (List S_Block)) :=
  ((loopO (fun s => laws_markBlockS.s0 l0 s.1 s.2.1 s.2.2) (l0, x1, 0)).bind fun o => match o with | .out (u12, u16) => (some (u16, u12)) | .ret r => (some r))
set_option maxRecDepth 100000 in
set_option maxHeartbeats 0 in
theorem laws_markBlockS_t (w0 : World) (A0_ : Option Addr) (p0_ : Nat) (l0 : List S_Block) (k0_ : Chunk) (v0_ : Own L_Block 102 A0_ p0_ l0 k0_) (x1 : Int) (hs0 : Sat (blks [(1, k0_)]) w0 w0 [] [(1, k0_)]) (r : Int × (List S_Block)) (H : laws_markBlockS.f l0 x1 = some r) :
    Calls Try.prog 71 #[.slice A0_ l0.length p0_, .int .i64 x1] w0 (Ret (fun v w => ∃ (k0 : Chunk), v = .int .i64 r.1 ∧ (Own L_Block 102 A0_ p0_ r.2 k0 ∧ r.2.length = l0.length) ∧ Sat (blks [(1, k0_)]) w0 w [] [(0, k0)])) := by
  have hs := hs0
  unfold laws_markBlockS.f at H
  refine enter Try.func71 rfl Try.ntmps71 rfl fun a hk => ?_
  apply wp_seq_k; intro K1 hK1
  apply wp_region_lit
  refine sa _ rfl hk rfl rfl rfl fun a hk => ?_
  show wpList _ _ _ [] _ _
  refine wpList_nil ?_
  refine hK1 _ _ ?_
  apply wp_seq_k; intro K2 hK2
  apply wp_seq_k; intro K3 hK3
  apply wp_region_lit
  refine sa _ rfl hk rfl rfl rfl fun a hk => ?_
  show wpList _ _ _ [] _ _
  refine wpList_nil ?_
  refine hK3 _ _ ?_
  obtain ⟨o17, h18, HL19⟩ := bind_some H
  clear H
  obtain ⟨R20, hR20⟩ : ∃ R : Act → World → Prop, R = fun a w => ∃ (u12 : List S_Block) (u16 : Int) (k13 : Chunk), o17 = .out (u12, u16) ∧ Kn [(0, (.slice A0_ l0.length p0_)), (1, (.int .i64 u16))] 34 a ∧ Sat (blks [(1, k0_)]) w0 w [] [(1, k13)] ∧ Own L_Block 102 A0_ p0_ u12 k13 ∧ u12.length = l0.length := ⟨_, rfl⟩
  refine wp_cutq R20 ?_ ?_
  · refine wp_block ?_
    obtain ⟨fu22, h18⟩ := loopO_some h18
    obtain ⟨I21, hI21⟩ : ∃ I : Nat → Act → World → Prop, I = fun fu a w => ∃ (u6 : List S_Block) (u10 : Int) (u11 : Int) (k7 : Chunk), loopN (fun s => laws_markBlockS.s0 l0 s.1 s.2.1 s.2.2) fu (u6, u10, u11) = some o17 ∧ Kn [(0, (.slice A0_ l0.length p0_)), (1, (.int .i64 u10)), (5, (.int .i64 u11))] 34 a ∧ Sat (blks [(1, k0_)]) w0 w [] [(1, k7)] ∧ Own L_Block 102 A0_ p0_ u6 k7 ∧ u6.length = l0.length := ⟨_, rfl⟩
    refine wp_loop_ghost I21 fu22 ?_ ?_
    · rw [hI21]
      exact ⟨l0, x1, 0, _, h18, (hk.c 0 rfl (hk.c 1 rfl (hk.c 5 rfl hk.k))), (hs.pick [(1, 1)] rfl), v0_, rfl⟩
    · clear h18 hk hs
      intro fu22 a w hI0
      rw [hI21] at hI0
      obtain ⟨u6, u10, u11, k7, hi, hk, hs, o8, lh9⟩ := hI0
      obtain ⟨x23, H, h24⟩ := loop_round hi
      try dsimp only at H
      unfold laws_markBlockS.s0 at H
      apply wp_seq_k; intro K25 hK25
      apply wp_seq_k; intro K26 hK26
      apply wp_region_lit
      refine sm _ rfl hk rfl rfl rfl fun a hk => ?_
      refine sm _ rfl hk rfl rfl rfl fun a hk => ?_
      refine sle rfl hk rfl rfl rfl un28 fun a hk => ?_
      refine sv (.bool (decide (u11 < (l0.length : Int)))) hk rfl rfl rfl fun a hk => ?_
      show wpList _ _ _ [] _ _
      refine wpList_nil ?_
      refine hK26 _ _ ?_
      rcases cond_some H with ⟨c27, H⟩ | ⟨c27, H⟩
      · have hk := hk.lit 9 c27 rfl
        refine cnd_true hk rfl rfl ?_
        refine wp_skip ?_
        refine hK25 _ _ ?_
        apply wp_seq_k; intro K28 hK28
        refine wp_block ?_
        apply wp_seq_k; intro K29 hK29
        apply wp_region_lit
        refine sm _ rfl hk rfl rfl rfl fun a hk => ?_
        refine sm _ rfl hk rfl rfl rfl fun a hk => ?_
        refine sm _ rfl hk rfl rfl rfl fun a hk => ?_
        rcases ite_some H with ⟨c30, H⟩ | ⟨_, H⟩
        rotate_left
        · cases H
        obtain ⟨b31, q32, hAc30⟩ := (o8.view).some_ u11 c30.1 (by rw [lh9]; exact c30.2)
        refine si rfl hk rfl rfl rfl rfl un28 sz102 c30.1 c30.2 hAc30 fun a hk => ?_
        refine sf (padd A0_ (u11.toNat * 3 + 0)) rfl hk rfl rfl rfl fd102_0 (padd_add _ _ _) fun a hk => ?_
        refine so (j := 0) 1 z_Block (⟨u10, (u6.getD u11.toNat z_Block).Leaf, (u6.getD u11.toNat z_Block).Value⟩ : S_Block) hs rfl o8 c30.1 (by rw [lh9]; exact c30.2) rfl hk rfl rfl rfl rfl rfl sz3 (by simp [Value.cells, Value.oneCell']) (Nat.le_of_ble_eq_true rfl) (fun _ _ h => ⟨by rw [h.1]; rfl, h.2⟩) fun k33 w a hk o34 hs => ?_
        have lh35 : (u6.set u11.toNat (⟨u10, (u6.getD u11.toNat z_Block).Leaf, (u6.getD u11.toNat z_Block).Value⟩ : S_Block)).length = l0.length := by rw [List.length_set]; exact lh9
        show wpList _ _ _ [] _ _
        refine wpList_nil ?_
        refine hK29 _ _ ?_
        apply wp_seq_k; intro K36 hK36
        apply wp_region_lit
        refine sm _ rfl hk rfl rfl rfl fun a hk => ?_
        refine sv (.int .i64 (w64 (u10 + 1))) hk rfl rfl rfl fun a hk => ?_
        refine sa _ rfl hk rfl rfl rfl fun a hk => ?_
        show wpList _ _ _ [] _ _
        refine wpList_nil ?_
        refine hK36 _ _ ?_
        apply wp_seq_k; intro K37 hK37
        apply wp_region_lit
        refine sm _ rfl hk rfl rfl rfl fun a hk => ?_
        refine sm _ rfl hk rfl rfl rfl fun a hk => ?_
        refine sm _ rfl hk rfl rfl rfl fun a hk => ?_
        rcases ite_some H with ⟨c38, H⟩ | ⟨_, H⟩
        rotate_left
        · cases H
        obtain ⟨b39, q40, hAc38⟩ := (o34.view).some_ u11 c38.1 (by rw [lh35]; exact c38.2)
        refine si rfl hk rfl rfl rfl rfl un28 sz102 c38.1 c38.2 hAc38 fun a hk => ?_
        refine sf (padd A0_ (u11.toNat * 3 + 1)) rfl hk rfl rfl rfl fd102_1 (padd_add _ _ _) fun a hk => ?_
        refine so (j := 1) 1 z_Block (⟨((u6.set u11.toNat (⟨u10, (u6.getD u11.toNat z_Block).Leaf, (u6.getD u11.toNat z_Block).Value⟩ : S_Block)).getD u11.toNat z_Block).Id, (w64 (u10 + 1)), ((u6.set u11.toNat (⟨u10, (u6.getD u11.toNat z_Block).Leaf, (u6.getD u11.toNat z_Block).Value⟩ : S_Block)).getD u11.toNat z_Block).Value⟩ : S_Block) hs rfl o34 c38.1 (by rw [lh35]; exact c38.2) rfl hk rfl rfl rfl rfl rfl sz3 (by simp [Value.cells, Value.oneCell']) (Nat.le_of_ble_eq_true rfl) (fun _ _ h => ⟨by rw [h.1]; rfl, h.2⟩) fun k41 w a hk o42 hs => ?_
        have lh43 : ((u6.set u11.toNat (⟨u10, (u6.getD u11.toNat z_Block).Leaf, (u6.getD u11.toNat z_Block).Value⟩ : S_Block)).set u11.toNat (⟨((u6.set u11.toNat (⟨u10, (u6.getD u11.toNat z_Block).Leaf, (u6.getD u11.toNat z_Block).Value⟩ : S_Block)).getD u11.toNat z_Block).Id, (w64 (u10 + 1)), ((u6.set u11.toNat (⟨u10, (u6.getD u11.toNat z_Block).Leaf, (u6.getD u11.toNat z_Block).Value⟩ : S_Block)).getD u11.toNat z_Block).Value⟩ : S_Block)).length = l0.length := by rw [List.length_set]; exact lh35
        show wpList _ _ _ [] _ _
        refine wpList_nil ?_
        refine hK37 _ _ ?_
        apply wp_seq_k; intro K44 hK44
        apply wp_region_lit
        refine sm _ rfl hk rfl rfl rfl fun a hk => ?_
        refine sv (.int .i64 (w64 ((w64 (u10 + 1)) + 1))) hk rfl rfl rfl fun a hk => ?_
        refine sa _ rfl hk rfl rfl rfl fun a hk => ?_
        show wpList _ _ _ [] _ _
        refine wpList_nil ?_
        refine hK44 _ _ ?_
        apply wp_seq_k; intro K45 hK45
        apply wp_region_lit
        refine sm _ rfl hk rfl rfl rfl fun a hk => ?_
        refine sm _ rfl hk rfl rfl rfl fun a hk => ?_
        refine sm _ rfl hk rfl rfl rfl fun a hk => ?_
        rcases ite_some H with ⟨c46, H⟩ | ⟨_, H⟩
        rotate_left
        · cases H
        obtain ⟨b47, q48, hAc46⟩ := (o42.view).some_ u11 c46.1 (by rw [lh43]; exact c46.2)
        refine si rfl hk rfl rfl rfl rfl un28 sz102 c46.1 c46.2 hAc46 fun a hk => ?_
        refine sf (padd A0_ (u11.toNat * 3 + 2)) rfl hk rfl rfl rfl fd102_2 (padd_add _ _ _) fun a hk => ?_
        refine so (j := 2) 1 z_Block (⟨(((u6.set u11.toNat (⟨u10, (u6.getD u11.toNat z_Block).Leaf, (u6.getD u11.toNat z_Block).Value⟩ : S_Block)).set u11.toNat (⟨((u6.set u11.toNat (⟨u10, (u6.getD u11.toNat z_Block).Leaf, (u6.getD u11.toNat z_Block).Value⟩ : S_Block)).getD u11.toNat z_Block).Id, (w64 (u10 + 1)), ((u6.set u11.toNat (⟨u10, (u6.getD u11.toNat z_Block).Leaf, (u6.getD u11.toNat z_Block).Value⟩ : S_Block)).getD u11.toNat z_Block).Value⟩ : S_Block)).getD u11.toNat z_Block).Id, (((u6.set u11.toNat (⟨u10, (u6.getD u11.toNat z_Block).Leaf, (u6.getD u11.toNat z_Block).Value⟩ : S_Block)).set u11.toNat (⟨((u6.set u11.toNat (⟨u10, (u6.getD u11.toNat z_Block).Leaf, (u6.getD u11.toNat z_Block).Value⟩ : S_Block)).getD u11.toNat z_Block).Id, (w64 (u10 + 1)), ((u6.set u11.toNat (⟨u10, (u6.getD u11.toNat z_Block).Leaf, (u6.getD u11.toNat z_Block).Value⟩ : S_Block)).getD u11.toNat z_Block).Value⟩ : S_Block)).getD u11.toNat z_Block).Leaf, (w64 ((w64 (u10 + 1)) + 1))⟩ : S_Block) hs rfl o42 c46.1 (by rw [lh43]; exact c46.2) rfl hk rfl rfl rfl rfl rfl sz3 (by simp [Value.cells, Value.oneCell']) (Nat.le_of_ble_eq_true rfl) (fun _ _ h => ⟨by rw [h.1]; rfl, h.2⟩) fun k49 w a hk o50 hs => ?_
        have lh51 : (((u6.set u11.toNat (⟨u10, (u6.getD u11.toNat z_Block).Leaf, (u6.getD u11.toNat z_Block).Value⟩ : S_Block)).set u11.toNat (⟨((u6.set u11.toNat (⟨u10, (u6.getD u11.toNat z_Block).Leaf, (u6.getD u11.toNat z_Block).Value⟩ : S_Block)).getD u11.toNat z_Block).Id, (w64 (u10 + 1)), ((u6.set u11.toNat (⟨u10, (u6.getD u11.toNat z_Block).Leaf, (u6.getD u11.toNat z_Block).Value⟩ : S_Block)).getD u11.toNat z_Block).Value⟩ : S_Block)).set u11.toNat (⟨(((u6.set u11.toNat (⟨u10, (u6.getD u11.toNat z_Block).Leaf, (u6.getD u11.toNat z_Block).Value⟩ : S_Block)).set u11.toNat (⟨((u6.set u11.toNat (⟨u10, (u6.getD u11.toNat z_Block).Leaf, (u6.getD u11.toNat z_Block).Value⟩ : S_Block)).getD u11.toNat z_Block).Id, (w64 (u10 + 1)), ((u6.set u11.toNat (⟨u10, (u6.getD u11.toNat z_Block).Leaf, (u6.getD u11.toNat z_Block).Value⟩ : S_Block)).getD u11.toNat z_Block).Value⟩ : S_Block)).getD u11.toNat z_Block).Id, (((u6.set u11.toNat (⟨u10, (u6.getD u11.toNat z_Block).Leaf, (u6.getD u11.toNat z_Block).Value⟩ : S_Block)).set u11.toNat (⟨((u6.set u11.toNat (⟨u10, (u6.getD u11.toNat z_Block).Leaf, (u6.getD u11.toNat z_Block).Value⟩ : S_Block)).getD u11.toNat z_Block).Id, (w64 (u10 + 1)), ((u6.set u11.toNat (⟨u10, (u6.getD u11.toNat z_Block).Leaf, (u6.getD u11.toNat z_Block).Value⟩ : S_Block)).getD u11.toNat z_Block).Value⟩ : S_Block)).getD u11.toNat z_Block).Leaf, (w64 ((w64 (u10 + 1)) + 1))⟩ : S_Block)).length = l0.length := by rw [List.length_set]; exact lh43
        show wpList _ _ _ [] _ _
        refine wpList_nil ?_
        refine hK45 _ _ ?_
        apply wp_region_lit
        refine sm _ rfl hk rfl rfl rfl fun a hk => ?_
        refine sv (.int .i64 (w64 ((w64 ((w64 (u10 + 1)) + 1)) + 1))) hk rfl rfl rfl fun a hk => ?_
        refine sa _ rfl hk rfl rfl rfl fun a hk => ?_
        show wpList _ _ _ [] _ _
        refine wpList_nil ?_
        refine hK28 _ _ ?_
        apply wp_region_lit
        refine sm _ rfl hk rfl rfl rfl fun a hk => ?_
        refine sv (.int .i64 (w64 (u11 + 1))) hk rfl rfl rfl fun a hk => ?_
        refine sa _ rfl hk rfl rfl rfl fun a hk => ?_
        show wpList _ _ _ [] _ _
        refine wpList_nil ?_
        obtain rfl := Option.some.inj H
        obtain ⟨m52, hmm52, h24⟩ := h24
        show ∃ n', n' < _ ∧ I21 n' _ _
        refine ⟨m52, hmm52, ?_⟩
        rw [hI21]
        exact ⟨(((u6.set u11.toNat (⟨u10, (u6.getD u11.toNat z_Block).Leaf, (u6.getD u11.toNat z_Block).Value⟩ : S_Block)).set u11.toNat (⟨((u6.set u11.toNat (⟨u10, (u6.getD u11.toNat z_Block).Leaf, (u6.getD u11.toNat z_Block).Value⟩ : S_Block)).getD u11.toNat z_Block).Id, (w64 (u10 + 1)), ((u6.set u11.toNat (⟨u10, (u6.getD u11.toNat z_Block).Leaf, (u6.getD u11.toNat z_Block).Value⟩ : S_Block)).getD u11.toNat z_Block).Value⟩ : S_Block)).set u11.toNat (⟨(((u6.set u11.toNat (⟨u10, (u6.getD u11.toNat z_Block).Leaf, (u6.getD u11.toNat z_Block).Value⟩ : S_Block)).set u11.toNat (⟨((u6.set u11.toNat (⟨u10, (u6.getD u11.toNat z_Block).Leaf, (u6.getD u11.toNat z_Block).Value⟩ : S_Block)).getD u11.toNat z_Block).Id, (w64 (u10 + 1)), ((u6.set u11.toNat (⟨u10, (u6.getD u11.toNat z_Block).Leaf, (u6.getD u11.toNat z_Block).Value⟩ : S_Block)).getD u11.toNat z_Block).Value⟩ : S_Block)).getD u11.toNat z_Block).Id, (((u6.set u11.toNat (⟨u10, (u6.getD u11.toNat z_Block).Leaf, (u6.getD u11.toNat z_Block).Value⟩ : S_Block)).set u11.toNat (⟨((u6.set u11.toNat (⟨u10, (u6.getD u11.toNat z_Block).Leaf, (u6.getD u11.toNat z_Block).Value⟩ : S_Block)).getD u11.toNat z_Block).Id, (w64 (u10 + 1)), ((u6.set u11.toNat (⟨u10, (u6.getD u11.toNat z_Block).Leaf, (u6.getD u11.toNat z_Block).Value⟩ : S_Block)).getD u11.toNat z_Block).Value⟩ : S_Block)).getD u11.toNat z_Block).Leaf, (w64 ((w64 (u10 + 1)) + 1))⟩ : S_Block)), (w64 ((w64 ((w64 (u10 + 1)) + 1)) + 1)), (w64 (u11 + 1)), _, h24, (hk.c 0 rfl (hk.c 1 rfl (hk.c 5 rfl hk.k))), (hs.pick [(1, 1)] rfl), o50, lh51⟩
      · have hk := hk.lit 9 c27 rfl
        refine cnd_false hk rfl rfl ?_
        refine wp_exit ?_
        obtain rfl := Option.some.inj H
        show R20 _ _
        rw [hR20]
        exact ⟨u6, u10, _, h24.symm, (hk.c 0 rfl (hk.c 1 rfl hk.k)), (hs.pick [(1, 1)] rfl), o8, lh9⟩
  · intro a w hR0
    rw [hR20] at hR0
    obtain ⟨u12, u16, k13, rfl, hk, hs, o14, lh15⟩ := hR0
    have H := HL19
    try dsimp only at H
    refine hK2 _ _ ?_
    apply wp_seq_k; intro K53 hK53
    apply wp_region_lit
    refine sm _ rfl hk rfl rfl rfl fun a hk => ?_
    refine sa _ rfl hk rfl rfl rfl fun a hk => ?_
    show wpList _ _ _ [] _ _
    refine wpList_nil ?_
    refine hK53 _ _ ?_
    refine wp_ret ?_
    obtain rfl := Option.some.inj H
    exact fin hk _ [(.int .i64 u16)] rfl ⟨rfl, trivial⟩ ⟨_, rfl, ⟨o14, lh15⟩, (hs.pick [(0, 1)] rfl).dnil⟩

noncomputable def laws_markBlockSS.s0 (l0 : List (List S_Block)) (u6 : List (List S_Block)) (u10 : Int) (u11 : Int) : Option (((List (List S_Block)) × Int × Int) ⊕ Ex ((List (List S_Block)) × Int) (Int × (List (List S_Block)))) :=
  (bif (decide (u11 < (l0.length : Int))) then (if 0 ≤ u11 ∧ u11 < (l0.length : Int) then ((laws_markBlockS.f (u6.getD u11.toNat []) u10).bind fun y41 => (some (.inl ((u6.set u11.toNat y41.2), y41.1, (w64 (u11 + 1)))))) else none) else (some (.inr (.out (u6, u10)))))
noncomputable def laws_markBlockSS.f (l0 : List (List S_Block)) (x1 : Int) : Option (Int × (List (List S_Block))) :=
  ((loopO (fun s => laws_markBlockSS.s0 l0 s.1 s.2.1 s.2.2) (l0, x1, 0)).bind fun o => match o with | .out (u12, u16) => (some (u16, u12)) | .ret r => (some r))
set_option maxRecDepth 100000 in
set_option maxHeartbeats 0 in
theorem laws_markBlockSS_t (w0 : World) (A0_ : Option Addr) (p0_ : Nat) (l0 : List (List S_Block)) (k0_ : Chunk) (v0_ : Own (Lay.sl L_Block 102) 28 A0_ p0_ l0 k0_) (x1 : Int) (hs0 : Sat (blks [(1, k0_)]) w0 w0 [] [(1, k0_)]) (r : Int × (List (List S_Block))) (H : laws_markBlockSS.f l0 x1 = some r) :
    Calls Try.prog 72 #[.slice A0_ l0.length p0_, .int .i64 x1] w0 (Ret (fun v w => ∃ (k0 : Chunk), v = .int .i64 r.1 ∧ (Own (Lay.sl L_Block 102) 28 A0_ p0_ r.2 k0 ∧ r.2.length = l0.length) ∧ Sat (blks [(1, k0_)]) w0 w [] [(0, k0)])) := by
  have hs := hs0
  unfold laws_markBlockSS.f at H
  refine enter Try.func72 rfl Try.ntmps72 rfl fun a hk => ?_
  apply wp_seq_k; intro K1 hK1
  apply wp_region_lit
  refine sa _ rfl hk rfl rfl rfl fun a hk => ?_
  show wpList _ _ _ [] _ _
  refine wpList_nil ?_
  refine hK1 _ _ ?_
  apply wp_seq_k; intro K2 hK2
  apply wp_seq_k; intro K3 hK3
  apply wp_region_lit
  refine sa _ rfl hk rfl rfl rfl fun a hk => ?_
  show wpList _ _ _ [] _ _
  refine wpList_nil ?_
  refine hK3 _ _ ?_
  obtain ⟨o17, h18, HL19⟩ := bind_some H
  clear H
  obtain ⟨R20, hR20⟩ : ∃ R : Act → World → Prop, R = fun a w => ∃ (u12 : List (List S_Block)) (u16 : Int) (k13 : Chunk), o17 = .out (u12, u16) ∧ Kn [(0, (.slice A0_ l0.length p0_)), (1, (.int .i64 u16))] 19 a ∧ Sat (blks [(1, k0_)]) w0 w [] [(1, k13)] ∧ Own (Lay.sl L_Block 102) 28 A0_ p0_ u12 k13 ∧ u12.length = l0.length := ⟨_, rfl⟩
  refine wp_cutq R20 ?_ ?_
  · refine wp_block ?_
    obtain ⟨fu22, h18⟩ := loopO_some h18
    obtain ⟨I21, hI21⟩ : ∃ I : Nat → Act → World → Prop, I = fun fu a w => ∃ (u6 : List (List S_Block)) (u10 : Int) (u11 : Int) (k7 : Chunk), loopN (fun s => laws_markBlockSS.s0 l0 s.1 s.2.1 s.2.2) fu (u6, u10, u11) = some o17 ∧ Kn [(0, (.slice A0_ l0.length p0_)), (1, (.int .i64 u10)), (5, (.int .i64 u11))] 19 a ∧ Sat (blks [(1, k0_)]) w0 w [] [(1, k7)] ∧ Own (Lay.sl L_Block 102) 28 A0_ p0_ u6 k7 ∧ u6.length = l0.length := ⟨_, rfl⟩
    refine wp_loop_ghost I21 fu22 ?_ ?_
    · rw [hI21]
      exact ⟨l0, x1, 0, _, h18, (hk.c 0 rfl (hk.c 1 rfl (hk.c 5 rfl hk.k))), (hs.pick [(1, 1)] rfl), v0_, rfl⟩
    · clear h18 hk hs
      intro fu22 a w hI0
      rw [hI21] at hI0
      obtain ⟨u6, u10, u11, k7, hi, hk, hs, o8, lh9⟩ := hI0
      obtain ⟨x23, H, h24⟩ := loop_round hi
      try dsimp only at H
      unfold laws_markBlockSS.s0 at H
      apply wp_seq_k; intro K25 hK25
      apply wp_seq_k; intro K26 hK26
      apply wp_region_lit
      refine sm _ rfl hk rfl rfl rfl fun a hk => ?_
      refine sm _ rfl hk rfl rfl rfl fun a hk => ?_
      refine sle rfl hk rfl rfl rfl un29 fun a hk => ?_
      refine sv (.bool (decide (u11 < (l0.length : Int)))) hk rfl rfl rfl fun a hk => ?_
      show wpList _ _ _ [] _ _
      refine wpList_nil ?_
      refine hK26 _ _ ?_
      rcases cond_some H with ⟨c27, H⟩ | ⟨c27, H⟩
      · have hk := hk.lit 9 c27 rfl
        refine cnd_true hk rfl rfl ?_
        refine wp_skip ?_
        refine hK25 _ _ ?_
        apply wp_seq_k; intro K28 hK28
        refine wp_block ?_
        apply wp_region_lit
        refine sm _ rfl hk rfl rfl rfl fun a hk => ?_
        refine sm _ rfl hk rfl rfl rfl fun a hk => ?_
        rcases ite_some H with ⟨c29, H⟩ | ⟨_, H⟩
        rotate_left
        · cases H
        obtain ⟨b30, q31, hAc29⟩ := (o8.view).some_ u11 c29.1 (by rw [lh9]; exact c29.2)
        refine si rfl hk rfl rfl rfl rfl un29 sz28 c29.1 c29.2 hAc29 fun a hk => ?_
        obtain ⟨_, ⟨_, rfl, A33, p34, rfl, v35⟩, e32⟩ := (o8.view).at_ [] u11 c29.1 (by rw [lh9]; exact c29.2)
        refine sl (v := (.slice A33 (u6.getD u11.toNat []).length p34)) rfl hk rfl rfl rfl ag28 ((e32 0 _ rfl).cell (hs.hasG (k := 1) rfl)) fun a hk => ?_
        refine sm _ rfl hk rfl rfl rfl fun a hk => ?_
        obtain ⟨k36, k37, o38, hs, hp39⟩ := Own.elemS 3 0 [] (fun ys40 => ys40) hs (k := 1) rfl o8 c29.1 (by rw [lh9]; exact c29.2) (e32 0 _ rfl) (fun es d h => el_sl h)
        obtain ⟨y41, h42, H⟩ := bind_some H
        refine sc rfl en71 hk rfl rfl rfl (laws_markBlockS_t _ A33 p34 (u6.getD u11.toNat []) _ o38 u10 ((hs.hand [(1, 3)] rfl).dpick [] rfl) _ h42) ?_
        rintro _ w ⟨k43, rfl, ⟨o44, lh45⟩, hG⟩ a hk
        have hs := hs.back [(1, 3)] rfl hG [3] rfl
        obtain ⟨k46, hp47, o48⟩ := hp39 y41.2 k43 lh45 o44
        have hs := hs.putb 1 3 rfl rfl hp47
        have lh49 : (u6.set u11.toNat y41.2).length = l0.length := by rw [List.length_set]; exact lh9
        refine sa _ rfl hk rfl rfl rfl fun a hk => ?_
        show wpList _ _ _ [] _ _
        refine wpList_nil ?_
        refine hK28 _ _ ?_
        apply wp_region_lit
        refine sm _ rfl hk rfl rfl rfl fun a hk => ?_
        refine sv (.int .i64 (w64 (u11 + 1))) hk rfl rfl rfl fun a hk => ?_
        refine sa _ rfl hk rfl rfl rfl fun a hk => ?_
        show wpList _ _ _ [] _ _
        refine wpList_nil ?_
        obtain rfl := Option.some.inj H
        obtain ⟨m50, hmm50, h24⟩ := h24
        show ∃ n', n' < _ ∧ I21 n' _ _
        refine ⟨m50, hmm50, ?_⟩
        rw [hI21]
        exact ⟨(u6.set u11.toNat y41.2), y41.1, (w64 (u11 + 1)), _, h24, (hk.c 0 rfl (hk.c 1 rfl (hk.c 5 rfl hk.k))), (hs.pick [(1, 1)] rfl), o48, lh49⟩
      · have hk := hk.lit 9 c27 rfl
        refine cnd_false hk rfl rfl ?_
        refine wp_exit ?_
        obtain rfl := Option.some.inj H
        show R20 _ _
        rw [hR20]
        exact ⟨u6, u10, _, h24.symm, (hk.c 0 rfl (hk.c 1 rfl hk.k)), (hs.pick [(1, 1)] rfl), o8, lh9⟩
  · intro a w hR0
    rw [hR20] at hR0
    obtain ⟨u12, u16, k13, rfl, hk, hs, o14, lh15⟩ := hR0
    have H := HL19
    try dsimp only at H
    refine hK2 _ _ ?_
    apply wp_seq_k; intro K51 hK51
    apply wp_region_lit
    refine sm _ rfl hk rfl rfl rfl fun a hk => ?_
    refine sa _ rfl hk rfl rfl rfl fun a hk => ?_
    show wpList _ _ _ [] _ _
    refine wpList_nil ?_
    refine hK51 _ _ ?_
    refine wp_ret ?_
    obtain rfl := Option.some.inj H
    exact fin hk _ [(.int .i64 u16)] rfl ⟨rfl, trivial⟩ ⟨_, rfl, ⟨o14, lh15⟩, (hs.pick [(0, 1)] rfl).dnil⟩

noncomputable def laws_markOram.f (x0 : S_Oram) (x1 : Int) : Option (Int × (List Int) × (List S_Block) × (List (List S_Block))) :=
  ((laws_markIntS.f x0.Pos x1).bind fun y4 => ((laws_markBlockS.f x0.Stash y4.1).bind fun y11 => ((laws_markBlockSS.f x0.Buckets y11.1).bind fun y18 => (some (y18.1, y4.2, y11.2, y18.2)))))
set_option maxRecDepth 100000 in
set_option maxHeartbeats 0 in
theorem laws_markOram_t (w0 : World) (x0 : S_Oram) (A0_0 : Option Addr) (p0_0 : Nat) (k0_0 : Chunk) (v0_0 : Own (Lay.int .i64) 3 A0_0 p0_0 x0.Pos k0_0) (A0_1 : Option Addr) (p0_1 : Nat) (k0_1 : Chunk) (v0_1 : Own L_Block 102 A0_1 p0_1 x0.Stash k0_1) (A0_2 : Option Addr) (p0_2 : Nat) (k0_2 : Chunk) (v0_2 : Own (Lay.sl L_Block 102) 28 A0_2 p0_2 x0.Buckets k0_2) (x1 : Int) (hs0 : Sat (blks [(1, k0_0), (2, k0_1), (3, k0_2)]) w0 w0 [] [(1, k0_0), (2, k0_1), (3, k0_2)]) (r : Int × (List Int) × (List S_Block) × (List (List S_Block))) (H : laws_markOram.f x0 x1 = some r) :
    Calls Try.prog 14 #[.agg #[.slice A0_0 x0.Pos.length p0_0, .slice A0_1 x0.Stash.length p0_1, .slice A0_2 x0.Buckets.length p0_2], .int .i64 x1] w0 (Ret (fun v w => ∃ (k0 : Chunk), ∃ (k1 : Chunk), ∃ (k2 : Chunk), v = .int .i64 r.1 ∧ (Own (Lay.int .i64) 3 A0_0 p0_0 r.2.1 k0 ∧ r.2.1.length = x0.Pos.length) ∧ (Own L_Block 102 A0_1 p0_1 r.2.2.1 k1 ∧ r.2.2.1.length = x0.Stash.length) ∧ (Own (Lay.sl L_Block 102) 28 A0_2 p0_2 r.2.2.2 k2 ∧ r.2.2.2.length = x0.Buckets.length) ∧ Sat (blks [(1, k0_0), (2, k0_1), (3, k0_2)]) w0 w [] [(0, k0), (1, k1), (2, k2)])) := by
  have hs := hs0
  unfold laws_markOram.f at H
  refine enter Try.func14 rfl Try.ntmps14 rfl fun a hk => ?_
  apply wp_seq_k; intro K1 hK1
  apply wp_region_lit
  refine sbx 4 hs rfl hk rfl rfl rfl rfl fun b2 w a hk hs => ?_
  refine sa _ rfl hk rfl rfl rfl fun a hk => ?_
  show wpList _ _ _ [] _ _
  refine wpList_nil ?_
  refine hK1 _ _ ?_
  apply wp_seq_k; intro K3 hK3
  apply wp_region_lit
  refine sf ⟨b2, 0, none⟩ rfl hk rfl rfl rfl fd31_0 rfl fun a hk => ?_
  refine sl rfl hk rfl rfl rfl ag22 (box_cell hs (k := 4) rfl rfl) fun a hk => ?_
  refine sm _ rfl hk rfl rfl rfl fun a hk => ?_
  obtain ⟨y4, h5, H⟩ := bind_some H
  refine sc rfl en70 hk rfl rfl rfl (laws_markIntS_t _ A0_0 p0_0 x0.Pos _ v0_0 x1 ((hs.hand [(1, 1)] rfl).dpick [] rfl) _ h5) ?_
  rintro _ w ⟨k6, rfl, ⟨o7, lh8⟩, hG⟩ a hk
  have hs := hs.back [(1, 1)] rfl hG [1] rfl
  have lh9 : y4.2.length = x0.Pos.length := lh8
  refine sa _ rfl hk rfl rfl rfl fun a hk => ?_
  show wpList _ _ _ [] _ _
  refine wpList_nil ?_
  refine hK3 _ _ ?_
  apply wp_seq_k; intro K10 hK10
  apply wp_region_lit
  refine sf ⟨b2, 1, none⟩ rfl hk rfl rfl rfl fd31_1 rfl fun a hk => ?_
  refine sl rfl hk rfl rfl rfl ag28 (box_cell hs (k := 4) rfl rfl) fun a hk => ?_
  refine sm _ rfl hk rfl rfl rfl fun a hk => ?_
  obtain ⟨y11, h12, H⟩ := bind_some H
  refine sc rfl en71 hk rfl rfl rfl (laws_markBlockS_t _ A0_1 p0_1 x0.Stash _ v0_1 y4.1 ((hs.hand [(1, 2)] rfl).dpick [] rfl) _ h12) ?_
  rintro _ w ⟨k13, rfl, ⟨o14, lh15⟩, hG⟩ a hk
  have hs := hs.back [(1, 2)] rfl hG [2] rfl
  have lh16 : y11.2.length = x0.Stash.length := lh15
  refine sa _ rfl hk rfl rfl rfl fun a hk => ?_
  show wpList _ _ _ [] _ _
  refine wpList_nil ?_
  refine hK10 _ _ ?_
  apply wp_seq_k; intro K17 hK17
  apply wp_region_lit
  refine sf ⟨b2, 2, none⟩ rfl hk rfl rfl rfl fd31_2 rfl fun a hk => ?_
  refine sl rfl hk rfl rfl rfl ag29 (box_cell hs (k := 4) rfl rfl) fun a hk => ?_
  refine sm _ rfl hk rfl rfl rfl fun a hk => ?_
  obtain ⟨y18, h19, H⟩ := bind_some H
  refine sc rfl en72 hk rfl rfl rfl (laws_markBlockSS_t _ A0_2 p0_2 x0.Buckets _ v0_2 y11.1 ((hs.hand [(1, 3)] rfl).dpick [] rfl) _ h19) ?_
  rintro _ w ⟨k20, rfl, ⟨o21, lh22⟩, hG⟩ a hk
  have hs := hs.back [(1, 3)] rfl hG [3] rfl
  have lh23 : y18.2.length = x0.Buckets.length := lh22
  refine sa _ rfl hk rfl rfl rfl fun a hk => ?_
  show wpList _ _ _ [] _ _
  refine wpList_nil ?_
  refine hK17 _ _ ?_
  apply wp_seq_k; intro K24 hK24
  apply wp_region_lit
  refine sm _ rfl hk rfl rfl rfl fun a hk => ?_
  refine sa _ rfl hk rfl rfl rfl fun a hk => ?_
  show wpList _ _ _ [] _ _
  refine wpList_nil ?_
  refine hK24 _ _ ?_
  refine wp_ret ?_
  obtain rfl := Option.some.inj H
  exact fin hk _ [(.int .i64 y18.1)] rfl ⟨rfl, trivial⟩ ⟨_, _, _, rfl, ⟨o7, lh9⟩, ⟨o14, lh16⟩, ⟨o21, lh23⟩, (hs.pick [(0, 1), (1, 2), (2, 3)] rfl).dnil⟩

noncomputable def laws_markEnc.f (x0 : S_Enc) (x1 : Int) : Option (Int × (List Int) × (List Int) × (List S_Block) × (List (List S_Block))) :=
  ((laws_markIntS.f x0.Keys x1).bind fun y4 => ((laws_markOram.f x0.Oram y4.1).bind fun y11 => (some (y11.1, y4.2, y11.2.1, y11.2.2.1, y11.2.2.2))))
set_option maxRecDepth 100000 in
set_option maxHeartbeats 0 in
theorem laws_markEnc_t (w0 : World) (x0 : S_Enc) (A0_0 : Option Addr) (p0_0 : Nat) (k0_0 : Chunk) (v0_0 : Own (Lay.int .i64) 3 A0_0 p0_0 x0.Keys k0_0) (A0_1 : Option Addr) (p0_1 : Nat) (k0_1 : Chunk) (v0_1 : Own (Lay.int .i64) 3 A0_1 p0_1 x0.Oram.Pos k0_1) (A0_2 : Option Addr) (p0_2 : Nat) (k0_2 : Chunk) (v0_2 : Own L_Block 102 A0_2 p0_2 x0.Oram.Stash k0_2) (A0_3 : Option Addr) (p0_3 : Nat) (k0_3 : Chunk) (v0_3 : Own (Lay.sl L_Block 102) 28 A0_3 p0_3 x0.Oram.Buckets k0_3) (x1 : Int) (hs0 : Sat (blks [(1, k0_0), (2, k0_1), (3, k0_2), (4, k0_3)]) w0 w0 [] [(1, k0_0), (2, k0_1), (3, k0_2), (4, k0_3)]) (r : Int × (List Int) × (List Int) × (List S_Block) × (List (List S_Block))) (H : laws_markEnc.f x0 x1 = some r) :
    Calls Try.prog 30 #[.agg #[.slice A0_0 x0.Keys.length p0_0, .slice A0_1 x0.Oram.Pos.length p0_1, .slice A0_2 x0.Oram.Stash.length p0_2, .slice A0_3 x0.Oram.Buckets.length p0_3], .int .i64 x1] w0 (Ret (fun v w => ∃ (k0 : Chunk), ∃ (k1 : Chunk), ∃ (k2 : Chunk), ∃ (k3 : Chunk), v = .int .i64 r.1 ∧ (Own (Lay.int .i64) 3 A0_0 p0_0 r.2.1 k0 ∧ r.2.1.length = x0.Keys.length) ∧ (Own (Lay.int .i64) 3 A0_1 p0_1 r.2.2.1 k1 ∧ r.2.2.1.length = x0.Oram.Pos.length) ∧ (Own L_Block 102 A0_2 p0_2 r.2.2.2.1 k2 ∧ r.2.2.2.1.length = x0.Oram.Stash.length) ∧ (Own (Lay.sl L_Block 102) 28 A0_3 p0_3 r.2.2.2.2 k3 ∧ r.2.2.2.2.length = x0.Oram.Buckets.length) ∧ Sat (blks [(1, k0_0), (2, k0_1), (3, k0_2), (4, k0_3)]) w0 w [] [(0, k0), (1, k1), (2, k2), (3, k3)])) := by
  have hs := hs0
  unfold laws_markEnc.f at H
  refine enter Try.func30 rfl Try.ntmps30 rfl fun a hk => ?_
  apply wp_seq_k; intro K1 hK1
  apply wp_region_lit
  refine sbx 5 hs rfl hk rfl rfl rfl rfl fun b2 w a hk hs => ?_
  refine sa _ rfl hk rfl rfl rfl fun a hk => ?_
  show wpList _ _ _ [] _ _
  refine wpList_nil ?_
  refine hK1 _ _ ?_
  apply wp_seq_k; intro K3 hK3
  apply wp_region_lit
  refine sf ⟨b2, 0, none⟩ rfl hk rfl rfl rfl fd54_0 rfl fun a hk => ?_
  refine sl rfl hk rfl rfl rfl ag22 (box_cell hs (k := 5) rfl rfl) fun a hk => ?_
  refine sm _ rfl hk rfl rfl rfl fun a hk => ?_
  obtain ⟨y4, h5, H⟩ := bind_some H
  refine sc rfl en70 hk rfl rfl rfl (laws_markIntS_t _ A0_0 p0_0 x0.Keys _ v0_0 x1 ((hs.hand [(1, 1)] rfl).dpick [] rfl) _ h5) ?_
  rintro _ w ⟨k6, rfl, ⟨o7, lh8⟩, hG⟩ a hk
  have hs := hs.back [(1, 1)] rfl hG [1] rfl
  have lh9 : y4.2.length = x0.Keys.length := lh8
  refine sa _ rfl hk rfl rfl rfl fun a hk => ?_
  show wpList _ _ _ [] _ _
  refine wpList_nil ?_
  refine hK3 _ _ ?_
  apply wp_seq_k; intro K10 hK10
  apply wp_region_lit
  refine sf ⟨b2, 1, none⟩ rfl hk rfl rfl rfl fd54_1 rfl fun a hk => ?_
  refine sln [.slice A0_1 x0.Oram.Pos.length p0_1, .slice A0_2 x0.Oram.Stash.length p0_2, .slice A0_3 x0.Oram.Buckets.length p0_3] rfl hk rfl rfl rfl ag31 sz31 (box_part hs (k := 5) rfl rfl) fun a hk => ?_
  refine sm _ rfl hk rfl rfl rfl fun a hk => ?_
  obtain ⟨y11, h12, H⟩ := bind_some H
  refine sc rfl en14 hk rfl rfl rfl (laws_markOram_t _ x0.Oram A0_1 p0_1 _ v0_1 A0_2 p0_2 _ v0_2 A0_3 p0_3 _ v0_3 y4.1 ((hs.hand [(1, 2), (2, 3), (3, 4)] rfl).dpick [] rfl) _ h12) ?_
  rintro _ w ⟨k13, k16, k19, rfl, ⟨o14, lh15⟩, ⟨o17, lh18⟩, ⟨o20, lh21⟩, hG⟩ a hk
  have hs := hs.back [(1, 2), (2, 3), (3, 4)] rfl hG [2, 3, 4] rfl
  have lh22 : y11.2.1.length = x0.Oram.Pos.length := lh15
  have lh23 : y11.2.2.1.length = x0.Oram.Stash.length := lh18
  have lh24 : y11.2.2.2.length = x0.Oram.Buckets.length := lh21
  refine sa _ rfl hk rfl rfl rfl fun a hk => ?_
  show wpList _ _ _ [] _ _
  refine wpList_nil ?_
  refine hK10 _ _ ?_
  apply wp_seq_k; intro K25 hK25
  apply wp_region_lit
  refine sm _ rfl hk rfl rfl rfl fun a hk => ?_
  refine sa _ rfl hk rfl rfl rfl fun a hk => ?_
  show wpList _ _ _ [] _ _
  refine wpList_nil ?_
  refine hK25 _ _ ?_
  refine wp_ret ?_
  obtain rfl := Option.some.inj H
  exact fin hk _ [(.int .i64 y11.1)] rfl ⟨rfl, trivial⟩ ⟨_, _, _, _, rfl, ⟨o7, lh9⟩, ⟨o14, lh22⟩, ⟨o17, lh23⟩, ⟨o20, lh24⟩, (hs.pick [(0, 1), (1, 2), (2, 3), (3, 4)] rfl).dnil⟩

noncomputable def laws_markEntryS.s0 (l0 : List S_Entry) (u6 : List S_Entry) (u10 : Int) (u11 : Int) : Option (((List S_Entry) × Int × Int) ⊕ Ex ((List S_Entry) × Int) (Int × (List S_Entry))) :=
  (bif (decide (u11 < (l0.length : Int))) then (if 0 ≤ u11 ∧ u11 < (l0.length : Int) then (if 0 ≤ u11 ∧ u11 < (l0.length : Int) then (some (.inl (((u6.set u11.toNat (⟨u10, (u6.getD u11.toNat z_Entry).Value⟩ : S_Entry)).set u11.toNat (⟨((u6.set u11.toNat (⟨u10, (u6.getD u11.toNat z_Entry).Value⟩ : S_Entry)).getD u11.toNat z_Entry).Key, (w64 (u10 + 1))⟩ : S_Entry)), (w64 ((w64 (u10 + 1)) + 1)), (w64 (u11 + 1))))) else none) else none) else (some (.inr (.out (u6, u10)))))
noncomputable def laws_markEntryS.f (l0 : List S_Entry) (x1 : Int) : Option (Int × (List S_Entry)) :=
  ((loopO (fun s => laws_markEntryS.s0 l0 s.1 s.2.1 s.2.2) (l0, x1, 0)).bind fun o => match o with | .out (u12, u16) => (some (u16, u12)) | .ret r => (some r))
set_option maxRecDepth 100000 in
set_option maxHeartbeats 0 in
theorem laws_markEntryS_t (w0 : World) (A0_ : Option Addr) (p0_ : Nat) (l0 : List S_Entry) (k0_ : Chunk) (v0_ : Own L_Entry 116 A0_ p0_ l0 k0_) (x1 : Int) (hs0 : Sat (blks [(1, k0_)]) w0 w0 [] [(1, k0_)]) (r : Int × (List S_Entry)) (H : laws_markEntryS.f l0 x1 = some r) :
    Calls Try.prog 31 #[.slice A0_ l0.length p0_, .int .i64 x1] w0 (Ret (fun v w => ∃ (k0 : Chunk), v = .int .i64 r.1 ∧ (Own L_Entry 116 A0_ p0_ r.2 k0 ∧ r.2.length = l0.length) ∧ Sat (blks [(1, k0_)]) w0 w [] [(0, k0)])) := by
  have hs := hs0
  unfold laws_markEntryS.f at H
  refine enter Try.func31 rfl Try.ntmps31 rfl fun a hk => ?_
  apply wp_seq_k; intro K1 hK1
  apply wp_region_lit
  refine sa _ rfl hk rfl rfl rfl fun a hk => ?_
  show wpList _ _ _ [] _ _
  refine wpList_nil ?_
  refine hK1 _ _ ?_
  apply wp_seq_k; intro K2 hK2
  apply wp_seq_k; intro K3 hK3
  apply wp_region_lit
  refine sa _ rfl hk rfl rfl rfl fun a hk => ?_
  show wpList _ _ _ [] _ _
  refine wpList_nil ?_
  refine hK3 _ _ ?_
  obtain ⟨o17, h18, HL19⟩ := bind_some H
  clear H
  obtain ⟨R20, hR20⟩ : ∃ R : Act → World → Prop, R = fun a w => ∃ (u12 : List S_Entry) (u16 : Int) (k13 : Chunk), o17 = .out (u12, u16) ∧ Kn [(0, (.slice A0_ l0.length p0_)), (1, (.int .i64 u16))] 27 a ∧ Sat (blks [(1, k0_)]) w0 w [] [(1, k13)] ∧ Own L_Entry 116 A0_ p0_ u12 k13 ∧ u12.length = l0.length := ⟨_, rfl⟩
  refine wp_cutq R20 ?_ ?_
  · refine wp_block ?_
    obtain ⟨fu22, h18⟩ := loopO_some h18
    obtain ⟨I21, hI21⟩ : ∃ I : Nat → Act → World → Prop, I = fun fu a w => ∃ (u6 : List S_Entry) (u10 : Int) (u11 : Int) (k7 : Chunk), loopN (fun s => laws_markEntryS.s0 l0 s.1 s.2.1 s.2.2) fu (u6, u10, u11) = some o17 ∧ Kn [(0, (.slice A0_ l0.length p0_)), (1, (.int .i64 u10)), (5, (.int .i64 u11))] 27 a ∧ Sat (blks [(1, k0_)]) w0 w [] [(1, k7)] ∧ Own L_Entry 116 A0_ p0_ u6 k7 ∧ u6.length = l0.length := ⟨_, rfl⟩
    refine wp_loop_ghost I21 fu22 ?_ ?_
    · rw [hI21]
      exact ⟨l0, x1, 0, _, h18, (hk.c 0 rfl (hk.c 1 rfl (hk.c 5 rfl hk.k))), (hs.pick [(1, 1)] rfl), v0_, rfl⟩
    · clear h18 hk hs
      intro fu22 a w hI0
      rw [hI21] at hI0
      obtain ⟨u6, u10, u11, k7, hi, hk, hs, o8, lh9⟩ := hI0
      obtain ⟨x23, H, h24⟩ := loop_round hi
      try dsimp only at H
      unfold laws_markEntryS.s0 at H
      apply wp_seq_k; intro K25 hK25
      apply wp_seq_k; intro K26 hK26
      apply wp_region_lit
      refine sm _ rfl hk rfl rfl rfl fun a hk => ?_
      refine sm _ rfl hk rfl rfl rfl fun a hk => ?_
      refine sle rfl hk rfl rfl rfl un50 fun a hk => ?_
      refine sv (.bool (decide (u11 < (l0.length : Int)))) hk rfl rfl rfl fun a hk => ?_
      show wpList _ _ _ [] _ _
      refine wpList_nil ?_
      refine hK26 _ _ ?_
      rcases cond_some H with ⟨c27, H⟩ | ⟨c27, H⟩
      · have hk := hk.lit 9 c27 rfl
        refine cnd_true hk rfl rfl ?_
        refine wp_skip ?_
        refine hK25 _ _ ?_
        apply wp_seq_k; intro K28 hK28
        refine wp_block ?_
        apply wp_seq_k; intro K29 hK29
        apply wp_region_lit
        refine sm _ rfl hk rfl rfl rfl fun a hk => ?_
        refine sm _ rfl hk rfl rfl rfl fun a hk => ?_
        refine sm _ rfl hk rfl rfl rfl fun a hk => ?_
        rcases ite_some H with ⟨c30, H⟩ | ⟨_, H⟩
        rotate_left
        · cases H
        obtain ⟨b31, q32, hAc30⟩ := (o8.view).some_ u11 c30.1 (by rw [lh9]; exact c30.2)
        refine si rfl hk rfl rfl rfl rfl un50 sz116 c30.1 c30.2 hAc30 fun a hk => ?_
        refine sf (padd A0_ (u11.toNat * 2 + 0)) rfl hk rfl rfl rfl fd116_0 (padd_add _ _ _) fun a hk => ?_
        refine so (j := 0) 1 z_Entry (⟨u10, (u6.getD u11.toNat z_Entry).Value⟩ : S_Entry) hs rfl o8 c30.1 (by rw [lh9]; exact c30.2) rfl hk rfl rfl rfl rfl rfl sz3 (by simp [Value.cells, Value.oneCell']) (Nat.le_of_ble_eq_true rfl) (fun _ _ h => ⟨by rw [h.1]; rfl, h.2⟩) fun k33 w a hk o34 hs => ?_
        have lh35 : (u6.set u11.toNat (⟨u10, (u6.getD u11.toNat z_Entry).Value⟩ : S_Entry)).length = l0.length := by rw [List.length_set]; exact lh9
        show wpList _ _ _ [] _ _
        refine wpList_nil ?_
        refine hK29 _ _ ?_
        apply wp_seq_k; intro K36 hK36
        apply wp_region_lit
        refine sm _ rfl hk rfl rfl rfl fun a hk => ?_
        refine sv (.int .i64 (w64 (u10 + 1))) hk rfl rfl rfl fun a hk => ?_
        refine sa _ rfl hk rfl rfl rfl fun a hk => ?_
        show wpList _ _ _ [] _ _
        refine wpList_nil ?_
        refine hK36 _ _ ?_
        apply wp_seq_k; intro K37 hK37
        apply wp_region_lit
        refine sm _ rfl hk rfl rfl rfl fun a hk => ?_
        refine sm _ rfl hk rfl rfl rfl fun a hk => ?_
        refine sm _ rfl hk rfl rfl rfl fun a hk => ?_
        rcases ite_some H with ⟨c38, H⟩ | ⟨_, H⟩
        rotate_left
        · cases H
        obtain ⟨b39, q40, hAc38⟩ := (o34.view).some_ u11 c38.1 (by rw [lh35]; exact c38.2)
        refine si rfl hk rfl rfl rfl rfl un50 sz116 c38.1 c38.2 hAc38 fun a hk => ?_
        refine sf (padd A0_ (u11.toNat * 2 + 1)) rfl hk rfl rfl rfl fd116_1 (padd_add _ _ _) fun a hk => ?_
        refine so (j := 1) 1 z_Entry (⟨((u6.set u11.toNat (⟨u10, (u6.getD u11.toNat z_Entry).Value⟩ : S_Entry)).getD u11.toNat z_Entry).Key, (w64 (u10 + 1))⟩ : S_Entry) hs rfl o34 c38.1 (by rw [lh35]; exact c38.2) rfl hk rfl rfl rfl rfl rfl sz3 (by simp [Value.cells, Value.oneCell']) (Nat.le_of_ble_eq_true rfl) (fun _ _ h => ⟨by rw [h.1]; rfl, h.2⟩) fun k41 w a hk o42 hs => ?_
        have lh43 : ((u6.set u11.toNat (⟨u10, (u6.getD u11.toNat z_Entry).Value⟩ : S_Entry)).set u11.toNat (⟨((u6.set u11.toNat (⟨u10, (u6.getD u11.toNat z_Entry).Value⟩ : S_Entry)).getD u11.toNat z_Entry).Key, (w64 (u10 + 1))⟩ : S_Entry)).length = l0.length := by rw [List.length_set]; exact lh35
        show wpList _ _ _ [] _ _
        refine wpList_nil ?_
        refine hK37 _ _ ?_
        apply wp_region_lit
        refine sm _ rfl hk rfl rfl rfl fun a hk => ?_
        refine sv (.int .i64 (w64 ((w64 (u10 + 1)) + 1))) hk rfl rfl rfl fun a hk => ?_
        refine sa _ rfl hk rfl rfl rfl fun a hk => ?_
        show wpList _ _ _ [] _ _
        refine wpList_nil ?_
        refine hK28 _ _ ?_
        apply wp_region_lit
        refine sm _ rfl hk rfl rfl rfl fun a hk => ?_
        refine sv (.int .i64 (w64 (u11 + 1))) hk rfl rfl rfl fun a hk => ?_
        refine sa _ rfl hk rfl rfl rfl fun a hk => ?_
        show wpList _ _ _ [] _ _
        refine wpList_nil ?_
        obtain rfl := Option.some.inj H
        obtain ⟨m44, hmm44, h24⟩ := h24
        show ∃ n', n' < _ ∧ I21 n' _ _
        refine ⟨m44, hmm44, ?_⟩
        rw [hI21]
        exact ⟨((u6.set u11.toNat (⟨u10, (u6.getD u11.toNat z_Entry).Value⟩ : S_Entry)).set u11.toNat (⟨((u6.set u11.toNat (⟨u10, (u6.getD u11.toNat z_Entry).Value⟩ : S_Entry)).getD u11.toNat z_Entry).Key, (w64 (u10 + 1))⟩ : S_Entry)), (w64 ((w64 (u10 + 1)) + 1)), (w64 (u11 + 1)), _, h24, (hk.c 0 rfl (hk.c 1 rfl (hk.c 5 rfl hk.k))), (hs.pick [(1, 1)] rfl), o42, lh43⟩
      · have hk := hk.lit 9 c27 rfl
        refine cnd_false hk rfl rfl ?_
        refine wp_exit ?_
        obtain rfl := Option.some.inj H
        show R20 _ _
        rw [hR20]
        exact ⟨u6, u10, _, h24.symm, (hk.c 0 rfl (hk.c 1 rfl hk.k)), (hs.pick [(1, 1)] rfl), o8, lh9⟩
  · intro a w hR0
    rw [hR20] at hR0
    obtain ⟨u12, u16, k13, rfl, hk, hs, o14, lh15⟩ := hR0
    have H := HL19
    try dsimp only at H
    refine hK2 _ _ ?_
    apply wp_seq_k; intro K45 hK45
    apply wp_region_lit
    refine sm _ rfl hk rfl rfl rfl fun a hk => ?_
    refine sa _ rfl hk rfl rfl rfl fun a hk => ?_
    show wpList _ _ _ [] _ _
    refine wpList_nil ?_
    refine hK45 _ _ ?_
    refine wp_ret ?_
    obtain rfl := Option.some.inj H
    exact fin hk _ [(.int .i64 u16)] rfl ⟨rfl, trivial⟩ ⟨_, rfl, ⟨o14, lh15⟩, (hs.pick [(0, 1)] rfl).dnil⟩

noncomputable def laws_heldEntryS.s0 (l0 : List S_Entry) (u6 : Int) (u7 : Int) : Option ((Int × Int) ⊕ Ex (Int) (Int)) :=
  (bif (decide (u7 < (l0.length : Int))) then (if 0 ≤ u7 ∧ u7 < (l0.length : Int) then (bif (((l0.getD u7.toNat z_Entry).Key) != u6) then (some (.inr (.ret (-1)))) else (if 0 ≤ u7 ∧ u7 < (l0.length : Int) then (bif (((l0.getD u7.toNat z_Entry).Value) != (w64 (u6 + 1))) then (some (.inr (.ret (-1)))) else (some (.inl ((w64 ((w64 (u6 + 1)) + 1)), (w64 (u7 + 1)))))) else none)) else none) else (some (.inr (.out u6))))
noncomputable def laws_heldEntryS.f (l0 : List S_Entry) (x1 : Int) : Option (Int) :=
  ((loopO (fun s => laws_heldEntryS.s0 l0 s.1 s.2) (x1, 0)).bind fun o => match o with | .out u8 => (some u8) | .ret r => (some r))
set_option maxRecDepth 100000 in
set_option maxHeartbeats 0 in
theorem laws_heldEntryS_t (w0 : World) (A0_ : Option Addr) (p0_ : Nat) (l0 : List S_Entry) (k0_ : Chunk) (v0_ : View L_Entry A0_ p0_ l0 k0_) (w0_ : Has w0 k0_) (x1 : Int) (r : Int) (H : laws_heldEntryS.f l0 x1 = some r) :
    Calls Try.prog 32 #[.slice A0_ l0.length p0_, .int .i64 x1] w0 (Ret (fun v w => v = .int .i64 r ∧ Sat [] w0 w [] [])) := by
  have hs : Sat [] w0 w0 [(1, k0_)] [] := Sat.init w0 [(1, k0_)] [] (by simp only [List.mem_cons, List.not_mem_nil, or_false]; rintro x (rfl) <;> assumption) (by simp) List.nodup_nil (by simp [blks])
  unfold laws_heldEntryS.f at H
  refine enter Try.func32 rfl Try.ntmps32 rfl fun a hk => ?_
  apply wp_seq_k; intro K1 hK1
  apply wp_region_lit
  refine sa _ rfl hk rfl rfl rfl fun a hk => ?_
  show wpList _ _ _ [] _ _
  refine wpList_nil ?_
  refine hK1 _ _ ?_
  apply wp_seq_k; intro K2 hK2
  apply wp_seq_k; intro K3 hK3
  apply wp_region_lit
  refine sa _ rfl hk rfl rfl rfl fun a hk => ?_
  show wpList _ _ _ [] _ _
  refine wpList_nil ?_
  refine hK3 _ _ ?_
  obtain ⟨o9, h10, HL11⟩ := bind_some H
  clear H
  obtain ⟨R12, hR12⟩ : ∃ R : Act → World → Prop, R = fun a w => ∃ (u8 : Int), o9 = .out u8 ∧ Kn [(1, (.int .i64 u8))] 31 a ∧ Sat [] w0 w [(1, k0_)] [] := ⟨_, rfl⟩
  refine wp_cutq R12 ?_ ?_
  · refine wp_block ?_
    obtain ⟨fu14, h10⟩ := loopO_some h10
    obtain ⟨I13, hI13⟩ : ∃ I : Nat → Act → World → Prop, I = fun fu a w => ∃ (u6 : Int) (u7 : Int), loopN (fun s => laws_heldEntryS.s0 l0 s.1 s.2) fu (u6, u7) = some o9 ∧ Kn [(0, (.slice A0_ l0.length p0_)), (1, (.int .i64 u6)), (5, (.int .i64 u7))] 31 a ∧ Sat [] w0 w [(1, k0_)] [] := ⟨_, rfl⟩
    refine wp_loop_ghost I13 fu14 ?_ ?_
    · rw [hI13]
      exact ⟨x1, 0, h10, (hk.c 0 rfl (hk.c 1 rfl (hk.c 5 rfl hk.k))), (hs.pick [] rfl)⟩
    · clear h10 hk hs
      intro fu14 a w hI0
      rw [hI13] at hI0
      obtain ⟨u6, u7, hi, hk, hs⟩ := hI0
      obtain ⟨x15, H, h16⟩ := loop_round hi
      try dsimp only at H
      unfold laws_heldEntryS.s0 at H
      apply wp_seq_k; intro K17 hK17
      apply wp_seq_k; intro K18 hK18
      apply wp_region_lit
      refine sm _ rfl hk rfl rfl rfl fun a hk => ?_
      refine sm _ rfl hk rfl rfl rfl fun a hk => ?_
      refine sle rfl hk rfl rfl rfl un50 fun a hk => ?_
      refine sv (.bool (decide (u7 < (l0.length : Int)))) hk rfl rfl rfl fun a hk => ?_
      show wpList _ _ _ [] _ _
      refine wpList_nil ?_
      refine hK18 _ _ ?_
      rcases cond_some H with ⟨c19, H⟩ | ⟨c19, H⟩
      · have hk := hk.lit 9 c19 rfl
        refine cnd_true hk rfl rfl ?_
        refine wp_skip ?_
        refine hK17 _ _ ?_
        apply wp_seq_k; intro K20 hK20
        refine wp_block ?_
        apply wp_seq_k; intro K21 hK21
        apply wp_seq_k; intro K22 hK22
        apply wp_region_lit
        refine sm _ rfl hk rfl rfl rfl fun a hk => ?_
        refine sm _ rfl hk rfl rfl rfl fun a hk => ?_
        rcases ite_some H with ⟨c23, H⟩ | ⟨_, H⟩
        rotate_left
        · cases H
        obtain ⟨b24, q25, hAc23⟩ := (v0_).some_ u7 c23.1 c23.2
        refine si rfl hk rfl rfl rfl rfl un50 sz116 c23.1 c23.2 hAc23 fun a hk => ?_
        refine sf (padd A0_ (u7.toNat * 2 + 0)) rfl hk rfl rfl rfl fd116_0 (padd_add _ _ _) fun a hk => ?_
        obtain ⟨_, rfl, e26⟩ := (v0_).at_ z_Entry u7 c23.1 c23.2
        refine sl (v := (.int .i64 ((l0.getD u7.toNat z_Entry).Key))) rfl hk rfl rfl rfl ag3 ((e26 0 _ rfl).cell (hs.hasD (k := 1) rfl)) fun a hk => ?_
        refine sm _ rfl hk rfl rfl rfl fun a hk => ?_
        refine sv (.bool (((l0.getD u7.toNat z_Entry).Key) != u6)) hk rfl rfl rfl fun a hk => ?_
        show wpList _ _ _ [] _ _
        refine wpList_nil ?_
        refine hK22 _ _ ?_
        rcases cond_some H with ⟨c27, H⟩ | ⟨c27, H⟩
        · have hk := hk.lit 18 c27 rfl
          refine cnd_true hk rfl rfl ?_
          apply wp_seq_k; intro K28 hK28
          apply wp_region_lit
          refine sa _ rfl hk rfl rfl rfl fun a hk => ?_
          show wpList _ _ _ [] _ _
          refine wpList_nil ?_
          refine hK28 _ _ ?_
          refine wp_ret ?_
          obtain rfl := Option.some.inj H
          have ho9 := h16
          try dsimp only at ho9
          subst ho9
          have H := HL11
          try dsimp only at H
          obtain rfl := Option.some.inj H
          exact fin hk _ [(.int .i64 (-1))] rfl ⟨rfl, trivial⟩ ⟨rfl, (hs.pick [] rfl).dnil⟩
        · have hk := hk.lit 18 c27 rfl
          refine cnd_false hk rfl rfl ?_
          refine wp_skip ?_
          refine hK21 _ _ ?_
          apply wp_seq_k; intro K29 hK29
          apply wp_region_lit
          refine sm _ rfl hk rfl rfl rfl fun a hk => ?_
          refine sv (.int .i64 (w64 (u6 + 1))) hk rfl rfl rfl fun a hk => ?_
          refine sa _ rfl hk rfl rfl rfl fun a hk => ?_
          show wpList _ _ _ [] _ _
          refine wpList_nil ?_
          refine hK29 _ _ ?_
          apply wp_seq_k; intro K30 hK30
          apply wp_seq_k; intro K31 hK31
          apply wp_region_lit
          refine sm _ rfl hk rfl rfl rfl fun a hk => ?_
          refine sm _ rfl hk rfl rfl rfl fun a hk => ?_
          rcases ite_some H with ⟨c32, H⟩ | ⟨_, H⟩
          rotate_left
          · cases H
          obtain ⟨b33, q34, hAc32⟩ := (v0_).some_ u7 c32.1 c32.2
          refine si rfl hk rfl rfl rfl rfl un50 sz116 c32.1 c32.2 hAc32 fun a hk => ?_
          refine sf (padd A0_ (u7.toNat * 2 + 1)) rfl hk rfl rfl rfl fd116_1 (padd_add _ _ _) fun a hk => ?_
          obtain ⟨_, rfl, e35⟩ := (v0_).at_ z_Entry u7 c32.1 c32.2
          refine sl (v := (.int .i64 ((l0.getD u7.toNat z_Entry).Value))) rfl hk rfl rfl rfl ag3 ((e35 1 _ rfl).cell (hs.hasD (k := 1) rfl)) fun a hk => ?_
          refine sm _ rfl hk rfl rfl rfl fun a hk => ?_
          refine sv (.bool (((l0.getD u7.toNat z_Entry).Value) != (w64 (u6 + 1)))) hk rfl rfl rfl fun a hk => ?_
          show wpList _ _ _ [] _ _
          refine wpList_nil ?_
          refine hK31 _ _ ?_
          rcases cond_some H with ⟨c36, H⟩ | ⟨c36, H⟩
          · have hk := hk.lit 27 c36 rfl
            refine cnd_true hk rfl rfl ?_
            apply wp_seq_k; intro K37 hK37
            apply wp_region_lit
            refine sa _ rfl hk rfl rfl rfl fun a hk => ?_
            show wpList _ _ _ [] _ _
            refine wpList_nil ?_
            refine hK37 _ _ ?_
            refine wp_ret ?_
            obtain rfl := Option.some.inj H
            have ho9 := h16
            try dsimp only at ho9
            subst ho9
            have H := HL11
            try dsimp only at H
            obtain rfl := Option.some.inj H
            exact fin hk _ [(.int .i64 (-1))] rfl ⟨rfl, trivial⟩ ⟨rfl, (hs.pick [] rfl).dnil⟩
          · have hk := hk.lit 27 c36 rfl
            refine cnd_false hk rfl rfl ?_
            refine wp_skip ?_
            refine hK30 _ _ ?_
            apply wp_region_lit
            refine sm _ rfl hk rfl rfl rfl fun a hk => ?_
            refine sv (.int .i64 (w64 ((w64 (u6 + 1)) + 1))) hk rfl rfl rfl fun a hk => ?_
            refine sa _ rfl hk rfl rfl rfl fun a hk => ?_
            show wpList _ _ _ [] _ _
            refine wpList_nil ?_
            refine hK20 _ _ ?_
            apply wp_region_lit
            refine sm _ rfl hk rfl rfl rfl fun a hk => ?_
            refine sv (.int .i64 (w64 (u7 + 1))) hk rfl rfl rfl fun a hk => ?_
            refine sa _ rfl hk rfl rfl rfl fun a hk => ?_
            show wpList _ _ _ [] _ _
            refine wpList_nil ?_
            obtain rfl := Option.some.inj H
            obtain ⟨m38, hmm38, h16⟩ := h16
            show ∃ n', n' < _ ∧ I13 n' _ _
            refine ⟨m38, hmm38, ?_⟩
            rw [hI13]
            exact ⟨(w64 ((w64 (u6 + 1)) + 1)), (w64 (u7 + 1)), h16, (hk.c 0 rfl (hk.c 1 rfl (hk.c 5 rfl hk.k))), (hs.pick [] rfl)⟩
      · have hk := hk.lit 9 c19 rfl
        refine cnd_false hk rfl rfl ?_
        refine wp_exit ?_
        obtain rfl := Option.some.inj H
        show R12 _ _
        rw [hR12]
        exact ⟨u6, h16.symm, (hk.c 1 rfl hk.k), (hs.pick [] rfl)⟩
  · intro a w hR0
    rw [hR12] at hR0
    obtain ⟨u8, rfl, hk, hs⟩ := hR0
    have H := HL11
    try dsimp only at H
    refine hK2 _ _ ?_
    apply wp_seq_k; intro K39 hK39
    apply wp_region_lit
    refine sm _ rfl hk rfl rfl rfl fun a hk => ?_
    refine sa _ rfl hk rfl rfl rfl fun a hk => ?_
    show wpList _ _ _ [] _ _
    refine wpList_nil ?_
    refine hK39 _ _ ?_
    refine wp_ret ?_
    obtain rfl := Option.some.inj H
    exact fin hk _ [(.int .i64 u8)] rfl ⟨rfl, trivial⟩ ⟨rfl, (hs.pick [] rfl).dnil⟩

noncomputable def laws_FnExactMapOf.f (x0 : S_Enc) : Option (Bool) :=
  ((laws_szEnc.f x0 1048576).bind fun y5 => (bif (decide (y5 < 0)) then (some true) else ((laws_toEnc.f x0).bind fun y12 => ((spec_MapOf.f y12).bind fun y30 => ((laws_toEnc.f x0).bind fun y37 => ((impl_MapOf.f y37).bind fun y57 => ((((laws_eqEntryS.f y57.1 y30.1).bind fun y71 => (bif (!y71) then (some true) else (some (y57.2 != y30.2)))) : Option (Bool)).bind fun u66 => (bif u66 then (some false) else ((laws_toEnc.f x0).bind fun y79 => ((laws_eqEnc.f y37 y79).bind fun y97 => (bif (!y97) then (some false) else ((laws_markEnc.f y37 1).bind fun y103 => (((bif (decide (y103.1 < 0)) then (some true) else ((laws_eqEntryS.f y57.1 y30.1).bind fun y130 => (bif (!y130) then (some true) else (some (y57.2 != y30.2))))) : Option (Bool)).bind fun u124 => (bif u124 then (some false) else ((laws_markEntryS.f y57.1 1).bind fun y137 => ((laws_heldEntryS.f y137.2 1).bind fun y145 => (bif (decide (y145 < 0)) then (some false) else (bif (y145 != y137.1) then (some false) else ((laws_toEnc.f x0).bind fun y156 => ((impl_MapOf.f y156).bind fun y174 => ((((laws_eqEntryS.f y174.1 y30.1).bind fun y188 => (bif (!y188) then (some true) else (some (y174.2 != y30.2)))) : Option (Bool)).bind fun u183 => (bif u183 then (some false) else ((laws_heldEntryS.f y137.2 1).bind fun y195 => (bif (decide (y195 < 0)) then (some false) else (bif (y195 != y137.1) then (some false) else (some true))))))))))))))))))))))))))
set_option maxRecDepth 100000 in
set_option maxHeartbeats 0 in
theorem laws_FnExactMapOf_t (w0 : World) (x0 : S_Enc) (A0_0 : Option Addr) (p0_0 : Nat) (k0_0 : Chunk) (v0_0 : View (Lay.int .i64) A0_0 p0_0 x0.Keys k0_0) (w0_0 : Has w0 k0_0) (A0_1 : Option Addr) (p0_1 : Nat) (k0_1 : Chunk) (v0_1 : View (Lay.int .i64) A0_1 p0_1 x0.Oram.Pos k0_1) (w0_1 : Has w0 k0_1) (A0_2 : Option Addr) (p0_2 : Nat) (k0_2 : Chunk) (v0_2 : View L_Block A0_2 p0_2 x0.Oram.Stash k0_2) (w0_2 : Has w0 k0_2) (A0_3 : Option Addr) (p0_3 : Nat) (k0_3 : Chunk) (v0_3 : View (Lay.sl L_Block 135) A0_3 p0_3 x0.Oram.Buckets k0_3) (w0_3 : Has w0 k0_3) (r : Bool) (H : laws_FnExactMapOf.f x0 = some r) :
    Calls Try.prog 5 #[.agg #[.slice A0_0 x0.Keys.length p0_0, .slice A0_1 x0.Oram.Pos.length p0_1, .slice A0_2 x0.Oram.Stash.length p0_2, .slice A0_3 x0.Oram.Buckets.length p0_3]] w0 (Ret (fun v w => v = .bool r ∧ Sat [] w0 w [] [])) := by
  have hs : Sat [] w0 w0 [(1, k0_0), (2, k0_1), (3, k0_2), (4, k0_3)] [] := Sat.init w0 [(1, k0_0), (2, k0_1), (3, k0_2), (4, k0_3)] [] (by simp only [List.mem_cons, List.not_mem_nil, or_false]; rintro x (rfl | rfl | rfl | rfl) <;> assumption) (by simp) List.nodup_nil (by simp [blks])
  unfold laws_FnExactMapOf.f at H
  refine enter Try.func5 rfl Try.ntmps5 rfl fun a hk => ?_
  apply wp_seq_k; intro K1 hK1
  apply wp_region_lit
  refine sbx 5 hs rfl hk rfl rfl rfl rfl fun b2 w a hk hs => ?_
  refine sa _ rfl hk rfl rfl rfl fun a hk => ?_
  show wpList _ _ _ [] _ _
  refine wpList_nil ?_
  refine hK1 _ _ ?_
  apply wp_seq_k; intro K3 hK3
  apply wp_region_lit
  refine sa _ rfl hk rfl rfl rfl fun a hk => ?_
  show wpList _ _ _ [] _ _
  refine wpList_nil ?_
  refine hK3 _ _ ?_
  apply wp_seq_k; intro K4 hK4
  apply wp_region_lit
  refine sln [.slice A0_0 x0.Keys.length p0_0, .slice A0_1 x0.Oram.Pos.length p0_1, .slice A0_2 x0.Oram.Stash.length p0_2, .slice A0_3 x0.Oram.Buckets.length p0_3] rfl hk rfl rfl rfl ag48 sz48 (box_cells hs (k := 5) rfl) fun a hk => ?_
  refine sm _ rfl hk rfl rfl rfl fun a hk => ?_
  obtain ⟨y5, h6, H⟩ := bind_some H
  refine sc rfl en24 hk rfl rfl rfl (laws_szEnc_t _ x0 A0_0 p0_0 _ v0_0 (hs.hasD (k := 1) rfl) A0_1 p0_1 _ v0_1 (hs.hasD (k := 2) rfl) A0_2 p0_2 _ v0_2 (hs.hasD (k := 3) rfl) A0_3 p0_3 _ v0_3 (hs.hasD (k := 4) rfl) 1048576 _ h6) ?_
  rintro _ w ⟨rfl, hG⟩ a hk
  have hs := hs.call0 hG
  refine sa _ rfl hk rfl rfl rfl fun a hk => ?_
  show wpList _ _ _ [] _ _
  refine wpList_nil ?_
  refine hK4 _ _ ?_
  apply wp_seq_k; intro K7 hK7
  apply wp_seq_k; intro K8 hK8
  apply wp_region_lit
  refine sm _ rfl hk rfl rfl rfl fun a hk => ?_
  refine sv (.bool (decide (y5 < 0))) hk rfl rfl rfl fun a hk => ?_
  show wpList _ _ _ [] _ _
  refine wpList_nil ?_
  refine hK8 _ _ ?_
  rcases cond_some H with ⟨c9, H⟩ | ⟨c9, H⟩
  · have hk := hk.lit 18 c9 rfl
    refine cnd_true hk rfl rfl ?_
    apply wp_seq_k; intro K10 hK10
    apply wp_region_lit
    refine sa _ rfl hk rfl rfl rfl fun a hk => ?_
    show wpList _ _ _ [] _ _
    refine wpList_nil ?_
    refine hK10 _ _ ?_
    refine wp_ret ?_
    obtain rfl := Option.some.inj H
    exact fin hk _ [(.bool true)] rfl ⟨rfl, trivial⟩ ⟨rfl, (hs.pick [] rfl).dnil⟩
  · have hk := hk.lit 18 c9 rfl
    refine cnd_false hk rfl rfl ?_
    refine wp_skip ?_
    refine hK7 _ _ ?_
    apply wp_seq_k; intro K11 hK11
    apply wp_region_lit
    refine sln [.slice A0_0 x0.Keys.length p0_0, .slice A0_1 x0.Oram.Pos.length p0_1, .slice A0_2 x0.Oram.Stash.length p0_2, .slice A0_3 x0.Oram.Buckets.length p0_3] rfl hk rfl rfl rfl ag48 sz48 (box_cells hs (k := 5) rfl) fun a hk => ?_
    obtain ⟨y12, h13, H⟩ := bind_some H
    refine sc rfl en26 hk rfl rfl rfl (laws_toEnc_t _ x0 A0_0 p0_0 _ v0_0 (hs.hasD (k := 1) rfl) A0_1 p0_1 _ v0_1 (hs.hasD (k := 2) rfl) A0_2 p0_2 _ v0_2 (hs.hasD (k := 3) rfl) A0_3 p0_3 _ v0_3 (hs.hasD (k := 4) rfl) _ h13) ?_
    rintro _ w ⟨A14, p15, k16, A18, p19, k20, A22, p23, k24, A26, p27, k28, rfl, o17, o21, o25, o29, hG⟩ a hk
    have hs := hs.call0k hG [6, 7, 8, 9] rfl
    obtain ⟨y30, h31, H⟩ := bind_some H
    refine sc rfl en25 hk rfl rfl rfl (spec_MapOf_t _ y12 A14 p15 _ o17.view (hs.hasG (k := 6) rfl) A18 p19 _ o21.view (hs.hasG (k := 7) rfl) A22 p23 _ o25.view (hs.hasG (k := 8) rfl) A26 p27 _ o29.view (hs.hasG (k := 9) rfl) _ h31) ?_
    rintro _ w ⟨A32, p33, k34, rfl, o35, hG⟩ a hk
    have hs := hs.call0k hG [10] rfl
    refine sm _ rfl hk rfl rfl rfl fun a hk => ?_
    refine sv (.slice A32 y30.1.length p33) hk rfl rfl rfl fun a hk => ?_
    refine sv (.int .i64 y30.2) hk rfl rfl rfl fun a hk => ?_
    refine sa _ rfl hk rfl rfl rfl fun a hk => ?_
    refine sa _ rfl hk rfl rfl rfl fun a hk => ?_
    show wpList _ _ _ [] _ _
    refine wpList_nil ?_
    refine hK11 _ _ ?_
    apply wp_seq_k; intro K36 hK36
    apply wp_region_lit
    refine sln [.slice A0_0 x0.Keys.length p0_0, .slice A0_1 x0.Oram.Pos.length p0_1, .slice A0_2 x0.Oram.Stash.length p0_2, .slice A0_3 x0.Oram.Buckets.length p0_3] rfl hk rfl rfl rfl ag48 sz48 (box_cells hs (k := 5) rfl) fun a hk => ?_
    obtain ⟨y37, h38, H⟩ := bind_some H
    refine sc rfl en26 hk rfl rfl rfl (laws_toEnc_t _ x0 A0_0 p0_0 _ v0_0 (hs.hasD (k := 1) rfl) A0_1 p0_1 _ v0_1 (hs.hasD (k := 2) rfl) A0_2 p0_2 _ v0_2 (hs.hasD (k := 3) rfl) A0_3 p0_3 _ v0_3 (hs.hasD (k := 4) rfl) _ h38) ?_
    rintro _ w ⟨A39, p40, k41, A43, p44, k45, A47, p48, k49, A51, p52, k53, rfl, o42, o46, o50, o54, hG⟩ a hk
    have hs := hs.call0k hG [11, 12, 13, 14] rfl
    refine salx 15 hs rfl hk rfl rfl ze54 rfl fun b55 w a hk hs => ?_
    refine ssw 15 hs rfl rfl hk rfl rfl rfl rfl sz54 (by simp [Value.oneCell']) rfl fun w a hk hs => ?_
    show wpList _ _ _ [] _ _
    refine wpList_nil ?_
    refine hK36 _ _ ?_
    apply wp_seq_k; intro K56 hK56
    apply wp_region_lit
    refine sln [.slice A39 y37.Keys.length p40, .slice A43 y37.Oram.Pos.length p44, .slice A47 y37.Oram.Stash.length p48, .slice A51 y37.Oram.Buckets.length p52] rfl hk rfl rfl rfl ag54 sz54 (box_cells hs (k := 15) rfl) fun a hk => ?_
    obtain ⟨y57, h58, H⟩ := bind_some H
    refine sc rfl en27 hk rfl rfl rfl (impl_MapOf_t _ y37 A39 p40 _ o42.view (hs.hasG (k := 11) rfl) A43 p44 _ o46.view (hs.hasG (k := 12) rfl) A47 p48 _ o50.view (hs.hasG (k := 13) rfl) A51 p52 _ o54.view (hs.hasG (k := 14) rfl) _ h58) ?_
    rintro _ w ⟨A59, p60, k61, rfl, o62, hG⟩ a hk
    have hs := hs.call0k hG [16] rfl
    refine sm _ rfl hk rfl rfl rfl fun a hk => ?_
    refine sv (.slice A59 y57.1.length p60) hk rfl rfl rfl fun a hk => ?_
    refine sv (.int .i64 y57.2) hk rfl rfl rfl fun a hk => ?_
    refine sa _ rfl hk rfl rfl rfl fun a hk => ?_
    refine sa _ rfl hk rfl rfl rfl fun a hk => ?_
    show wpList _ _ _ [] _ _
    refine wpList_nil ?_
    refine hK56 _ _ ?_
    apply wp_seq_k; intro K63 hK63
    apply wp_seq_k; intro K64 hK64
    obtain ⟨o67, h68, HL69⟩ := bind_some H
    clear H
    obtain ⟨R70, hR70⟩ : ∃ R : Act → World → Prop, R = fun a w => ∃ (u66 : Bool), u66 = o67 ∧ Kn [(1, (.pointer (some ⟨b2, 0, none⟩))), (4, (.slice A32 y30.1.length p33)), (5, (.int .i64 y30.2)), (6, (.pointer (some ⟨b55, 0, none⟩))), (7, (.slice A59 y57.1.length p60)), (8, (.int .i64 y57.2)), (40, (.bool u66))] 96 a ∧ Sat [] w0 w [(1, k0_0), (2, k0_1), (3, k0_2), (4, k0_3)] [(10, k34), (16, k61), (5, [(b2, .cells #[.slice A0_0 x0.Keys.length p0_0, .slice A0_1 x0.Oram.Pos.length p0_1, .slice A0_2 x0.Oram.Stash.length p0_2, .slice A0_3 x0.Oram.Buckets.length p0_3] 48 (0, 0))]), (15, [(b55, .cells #[.slice A39 y37.Keys.length p40, .slice A43 y37.Oram.Pos.length p44, .slice A47 y37.Oram.Stash.length p48, .slice A51 y37.Oram.Buckets.length p52] 54 (0, 0))]), (11, k41), (12, k45), (13, k49), (14, k53)] := ⟨_, rfl⟩
    refine wp_cutq R70 ?_ ?_
    · have H := h68
      apply wp_region_lit
      refine sm _ rfl hk rfl rfl rfl fun a hk => ?_
      refine sm _ rfl hk rfl rfl rfl fun a hk => ?_
      obtain ⟨y71, h72, H⟩ := bind_some H
      refine sc rfl en28 hk rfl rfl rfl (laws_eqEntryS_t _ A59 p60 y57.1 _ o62.view (hs.hasG (k := 16) rfl) A32 p33 y30.1 _ o35.view (hs.hasG (k := 10) rfl) _ h72) ?_
      rintro _ w ⟨rfl, hG⟩ a hk
      have hs := hs.call0 hG
      refine sv (.bool (!y71)) hk rfl rfl rfl fun a hk => ?_
      refine sm _ rfl hk rfl rfl rfl fun a hk => ?_
      rcases cond_some H with ⟨c73, H⟩ | ⟨c73, H⟩
      · have hk := hk.lit 36 c73 rfl
        refine sk hk rfl rfl rfl fun a hk => ?_
        refine sk hk rfl rfl rfl fun a hk => ?_
        refine sk hk rfl rfl rfl fun a hk => ?_
        refine sv (.bool true) hk rfl rfl rfl fun a hk => ?_
        show wpList _ _ _ [] _ _
        refine wpList_nil ?_
        obtain rfl := Option.some.inj H
        show R70 _ _
        rw [hR70]
        exact ⟨true, rfl, (hk.c 1 rfl (hk.c 4 rfl (hk.c 5 rfl (hk.c 6 rfl (hk.c 7 rfl (hk.c 8 rfl (hk.c 40 rfl hk.k))))))), (hs.pick [(10, 10), (16, 16), (5, 5), (15, 15), (11, 11), (12, 12), (13, 13), (14, 14)] rfl)⟩
      · have hk := hk.lit 36 c73 rfl
        refine sm _ rfl hk rfl rfl rfl fun a hk => ?_
        refine sm _ rfl hk rfl rfl rfl fun a hk => ?_
        refine sv (.bool (y57.2 != y30.2)) hk rfl rfl rfl fun a hk => ?_
        refine sv (.bool (y57.2 != y30.2)) hk rfl rfl rfl fun a hk => ?_
        show wpList _ _ _ [] _ _
        refine wpList_nil ?_
        obtain rfl := Option.some.inj H
        show R70 _ _
        rw [hR70]
        exact ⟨(y57.2 != y30.2), rfl, (hk.c 1 rfl (hk.c 4 rfl (hk.c 5 rfl (hk.c 6 rfl (hk.c 7 rfl (hk.c 8 rfl (hk.c 40 rfl hk.k))))))), (hs.pick [(10, 10), (16, 16), (5, 5), (15, 15), (11, 11), (12, 12), (13, 13), (14, 14)] rfl)⟩
    · intro a w hR0
      rw [hR70] at hR0
      obtain ⟨u66, rfl, hk, hs⟩ := hR0
      have H := HL69
      try dsimp only at H
      refine hK64 _ _ ?_
      rcases cond_some H with ⟨c74, H⟩ | ⟨c74, H⟩
      · have hk := hk.lit 40 c74 rfl
        refine cnd_true hk rfl rfl ?_
        apply wp_seq_k; intro K75 hK75
        apply wp_region_lit
        refine sa _ rfl hk rfl rfl rfl fun a hk => ?_
        show wpList _ _ _ [] _ _
        refine wpList_nil ?_
        refine hK75 _ _ ?_
        refine wp_ret ?_
        obtain rfl := Option.some.inj H
        exact fin hk _ [(.bool false)] rfl ⟨rfl, trivial⟩ ⟨rfl, (hs.pick [] rfl).dnil⟩
      · have hk := hk.lit 40 c74 rfl
        refine cnd_false hk rfl rfl ?_
        refine wp_skip ?_
        refine hK63 _ _ ?_
        apply wp_seq_k; intro K76 hK76
        apply wp_seq_k; intro K77 hK77
        refine wp_region_tree (.q 0 (.alt 1 (.alt 2 (.alt 3 (.alt 4 .done .stop) .stop) .stop) .stop)) mo (by kernel_rfl) (hs.pick [(10, 10), (16, 16), (5, 5), (15, 15), (11, 11), (12, 12), (13, 13), (14, 14)] rfl) fun _ => ?_
        have hs := hs.drew
        refine tqst (.agg #[.slice A39 y37.Keys.length p40, .slice A43 y37.Oram.Pos.length p44, .slice A47 y37.Oram.Stash.length p48, .slice A51 y37.Oram.Buckets.length p52]) hk rfl rfl rfl rfl (fun w hs => sln [.slice A39 y37.Keys.length p40, .slice A43 y37.Oram.Pos.length p44, .slice A47 y37.Oram.Stash.length p48, .slice A51 y37.Oram.Buckets.length p52] rfl hk rfl rfl rfl ag54 sz54 (box_cells hs (k := 15) rfl) fun a hk => qe hk) fun a hk => ?_
        refine tsst hk rfl rfl (fun K_r78_1 hK_r78_1 w hF => ?_) wt_stop
        have hs := hs.f hF
        refine sln [.slice A0_0 x0.Keys.length p0_0, .slice A0_1 x0.Oram.Pos.length p0_1, .slice A0_2 x0.Oram.Stash.length p0_2, .slice A0_3 x0.Oram.Buckets.length p0_3] rfl hk rfl rfl rfl ag48 sz48 (box_cells hs (k := 5) rfl) fun a hk => ?_
        refine se (hs.pick [(10, 10), (16, 16), (5, 5), (15, 15), (11, 11), (12, 12), (13, 13), (14, 14)] rfl) hk (hK_r78_1 _ _ ?_)
        refine tsst hk rfl rfl (fun K_r78_2 hK_r78_2 w hF => ?_) wt_stop
        have hs := hs.f hF
        obtain ⟨y79, h80, H⟩ := bind_some H
        refine sc rfl en26 hk rfl rfl rfl (laws_toEnc_t _ x0 A0_0 p0_0 _ v0_0 (hs.hasD (k := 1) rfl) A0_1 p0_1 _ v0_1 (hs.hasD (k := 2) rfl) A0_2 p0_2 _ v0_2 (hs.hasD (k := 3) rfl) A0_3 p0_3 _ v0_3 (hs.hasD (k := 4) rfl) _ h80) ?_
        rintro _ w ⟨A81, p82, k83, A85, p86, k87, A89, p90, k91, A93, p94, k95, rfl, o84, o88, o92, o96, hG⟩ a hk
        have hs := hs.call0k hG [19, 20, 21, 22] rfl
        refine se (hs.pick [(10, 10), (16, 16), (5, 5), (15, 15), (11, 11), (12, 12), (13, 13), (14, 14)] rfl) hk (hK_r78_2 _ _ ?_)
        refine tsst hk rfl rfl (fun K_r78_3 hK_r78_3 w hF => ?_) wt_stop
        have hs := hs.f hF
        obtain ⟨y97, h98, H⟩ := bind_some H
        refine sc rfl en29 hk rfl rfl rfl (laws_eqEnc_t _ y37 A39 p40 _ o42.view (hs.hasG (k := 11) rfl) A43 p44 _ o46.view (hs.hasG (k := 12) rfl) A47 p48 _ o50.view (hs.hasG (k := 13) rfl) A51 p52 _ o54.view (hs.hasG (k := 14) rfl) y79 A81 p82 _ o84.view (hs.hasG (k := 19) rfl) A85 p86 _ o88.view (hs.hasG (k := 20) rfl) A89 p90 _ o92.view (hs.hasG (k := 21) rfl) A93 p94 _ o96.view (hs.hasG (k := 22) rfl) _ h98) ?_
        rintro _ w ⟨rfl, hG⟩ a hk
        have hs := hs.call0 hG
        refine se (hs.pick [(10, 10), (16, 16), (5, 5), (15, 15), (11, 11), (12, 12), (13, 13), (14, 14)] rfl) hk (hK_r78_3 _ _ ?_)
        refine tsst hk rfl rfl (fun K_r78_4 hK_r78_4 w hF => ?_) wt_stop
        have hs := hs.f hF
        refine sv (.bool (!y97)) hk rfl rfl rfl fun a hk => ?_
        refine se (hs.pick [(10, 10), (16, 16), (5, 5), (15, 15), (11, 11), (12, 12), (13, 13), (14, 14)] rfl) hk (hK_r78_4 _ _ ?_)
        refine wtl_nil fun w hF _ => ?_
        have hs := hs.f hF
        refine hK77 _ _ ?_
        rcases cond_some H with ⟨c99, H⟩ | ⟨c99, H⟩
        · have hk := hk.lit 45 c99 rfl
          refine cnd_true hk rfl rfl ?_
          apply wp_seq_k; intro K100 hK100
          apply wp_region_lit
          refine sa _ rfl hk rfl rfl rfl fun a hk => ?_
          show wpList _ _ _ [] _ _
          refine wpList_nil ?_
          refine hK100 _ _ ?_
          refine wp_ret ?_
          obtain rfl := Option.some.inj H
          exact fin hk _ [(.bool false)] rfl ⟨rfl, trivial⟩ ⟨rfl, (hs.pick [] rfl).dnil⟩
        · have hk := hk.lit 45 c99 rfl
          refine cnd_false hk rfl rfl ?_
          refine wp_skip ?_
          refine hK76 _ _ ?_
          apply wp_seq_k; intro K101 hK101
          apply wp_region_lit
          refine sa _ rfl hk rfl rfl rfl fun a hk => ?_
          show wpList _ _ _ [] _ _
          refine wpList_nil ?_
          refine hK101 _ _ ?_
          apply wp_seq_k; intro K102 hK102
          apply wp_region_lit
          refine sln [.slice A39 y37.Keys.length p40, .slice A43 y37.Oram.Pos.length p44, .slice A47 y37.Oram.Stash.length p48, .slice A51 y37.Oram.Buckets.length p52] rfl hk rfl rfl rfl ag54 sz54 (box_cells hs (k := 15) rfl) fun a hk => ?_
          refine sm _ rfl hk rfl rfl rfl fun a hk => ?_
          obtain ⟨y103, h104, H⟩ := bind_some H
          refine sc rfl en30 hk rfl rfl rfl (laws_markEnc_t _ y37 A39 p40 _ o42 A43 p44 _ o46 A47 p48 _ o50 A51 p52 _ o54 1 ((hs.hand [(1, 11), (2, 12), (3, 13), (4, 14)] rfl).dpick [] rfl) _ h104) ?_
          rintro _ w ⟨k105, k108, k111, k114, rfl, ⟨o106, lh107⟩, ⟨o109, lh110⟩, ⟨o112, lh113⟩, ⟨o115, lh116⟩, hG⟩ a hk
          have hs := hs.back [(1, 11), (2, 12), (3, 13), (4, 14)] rfl hG [11, 12, 13, 14] rfl
          have lh117 : y103.2.1.length = y37.Keys.length := lh107
          have lh118 : y103.2.2.1.length = y37.Oram.Pos.length := lh110
          have lh119 : y103.2.2.2.1.length = y37.Oram.Stash.length := lh113
          have lh120 : y103.2.2.2.2.length = y37.Oram.Buckets.length := lh116
          refine sa _ rfl hk rfl rfl rfl fun a hk => ?_
          show wpList _ _ _ [] _ _
          refine wpList_nil ?_
          refine hK102 _ _ ?_
          apply wp_seq_k; intro K121 hK121
          apply wp_seq_k; intro K122 hK122
          obtain ⟨o125, h126, HL127⟩ := bind_some H
          clear H
          obtain ⟨R128, hR128⟩ : ∃ R : Act → World → Prop, R = fun a w => ∃ (u124 : Bool), u124 = o125 ∧ Kn [(1, (.pointer (some ⟨b2, 0, none⟩))), (4, (.slice A32 y30.1.length p33)), (5, (.int .i64 y30.2)), (7, (.slice A59 y57.1.length p60)), (61, (.bool u124))] 96 a ∧ Sat [] w0 w [(1, k0_0), (2, k0_1), (3, k0_2), (4, k0_3)] [(10, k34), (16, k61), (5, [(b2, .cells #[.slice A0_0 x0.Keys.length p0_0, .slice A0_1 x0.Oram.Pos.length p0_1, .slice A0_2 x0.Oram.Stash.length p0_2, .slice A0_3 x0.Oram.Buckets.length p0_3] 48 (0, 0))])] := ⟨_, rfl⟩
          refine wp_cutq R128 ?_ ?_
          · have H := h126
            apply wp_region_lit
            refine sm _ rfl hk rfl rfl rfl fun a hk => ?_
            refine sv (.bool (decide (y103.1 < 0))) hk rfl rfl rfl fun a hk => ?_
            refine sm _ rfl hk rfl rfl rfl fun a hk => ?_
            rcases cond_some H with ⟨c129, H⟩ | ⟨c129, H⟩
            · have hk := hk.lit 51 c129 rfl
              refine sk hk rfl rfl rfl fun a hk => ?_
              refine sk hk rfl rfl rfl fun a hk => ?_
              refine sk hk rfl rfl rfl fun a hk => ?_
              refine sk hk rfl rfl rfl fun a hk => ?_
              refine sv (.bool true) hk rfl rfl rfl fun a hk => ?_
              refine sm _ rfl hk rfl rfl rfl fun a hk => ?_
              refine sk hk rfl rfl rfl fun a hk => ?_
              refine sk hk rfl rfl rfl fun a hk => ?_
              refine sk hk rfl rfl rfl fun a hk => ?_
              refine sv (.bool true) hk rfl rfl rfl fun a hk => ?_
              show wpList _ _ _ [] _ _
              refine wpList_nil ?_
              obtain rfl := Option.some.inj H
              show R128 _ _
              rw [hR128]
              exact ⟨true, rfl, (hk.c 1 rfl (hk.c 4 rfl (hk.c 5 rfl (hk.c 7 rfl (hk.c 61 rfl hk.k))))), (hs.pick [(10, 10), (16, 16), (5, 5)] rfl)⟩
            · have hk := hk.lit 51 c129 rfl
              refine sm _ rfl hk rfl rfl rfl fun a hk => ?_
              refine sm _ rfl hk rfl rfl rfl fun a hk => ?_
              obtain ⟨y130, h131, H⟩ := bind_some H
              refine sc rfl en28 hk rfl rfl rfl (laws_eqEntryS_t _ A59 p60 y57.1 _ o62.view (hs.hasG (k := 16) rfl) A32 p33 y30.1 _ o35.view (hs.hasG (k := 10) rfl) _ h131) ?_
              rintro _ w ⟨rfl, hG⟩ a hk
              have hs := hs.call0 hG
              refine sv (.bool (!y130)) hk rfl rfl rfl fun a hk => ?_
              refine sv (.bool (!y130)) hk rfl rfl rfl fun a hk => ?_
              refine sm _ rfl hk rfl rfl rfl fun a hk => ?_
              rcases cond_some H with ⟨c132, H⟩ | ⟨c132, H⟩
              · have hk := hk.lit 57 c132 rfl
                refine sk hk rfl rfl rfl fun a hk => ?_
                refine sk hk rfl rfl rfl fun a hk => ?_
                refine sk hk rfl rfl rfl fun a hk => ?_
                refine sv (.bool true) hk rfl rfl rfl fun a hk => ?_
                show wpList _ _ _ [] _ _
                refine wpList_nil ?_
                obtain rfl := Option.some.inj H
                show R128 _ _
                rw [hR128]
                exact ⟨true, rfl, (hk.c 1 rfl (hk.c 4 rfl (hk.c 5 rfl (hk.c 7 rfl (hk.c 61 rfl hk.k))))), (hs.pick [(10, 10), (16, 16), (5, 5)] rfl)⟩
              · have hk := hk.lit 57 c132 rfl
                refine sm _ rfl hk rfl rfl rfl fun a hk => ?_
                refine sm _ rfl hk rfl rfl rfl fun a hk => ?_
                refine sv (.bool (y57.2 != y30.2)) hk rfl rfl rfl fun a hk => ?_
                refine sv (.bool (y57.2 != y30.2)) hk rfl rfl rfl fun a hk => ?_
                show wpList _ _ _ [] _ _
                refine wpList_nil ?_
                obtain rfl := Option.some.inj H
                show R128 _ _
                rw [hR128]
                exact ⟨(y57.2 != y30.2), rfl, (hk.c 1 rfl (hk.c 4 rfl (hk.c 5 rfl (hk.c 7 rfl (hk.c 61 rfl hk.k))))), (hs.pick [(10, 10), (16, 16), (5, 5)] rfl)⟩
          · intro a w hR0
            rw [hR128] at hR0
            obtain ⟨u124, rfl, hk, hs⟩ := hR0
            have H := HL127
            try dsimp only at H
            refine hK122 _ _ ?_
            rcases cond_some H with ⟨c133, H⟩ | ⟨c133, H⟩
            · have hk := hk.lit 61 c133 rfl
              refine cnd_true hk rfl rfl ?_
              apply wp_seq_k; intro K134 hK134
              apply wp_region_lit
              refine sa _ rfl hk rfl rfl rfl fun a hk => ?_
              show wpList _ _ _ [] _ _
              refine wpList_nil ?_
              refine hK134 _ _ ?_
              refine wp_ret ?_
              obtain rfl := Option.some.inj H
              exact fin hk _ [(.bool false)] rfl ⟨rfl, trivial⟩ ⟨rfl, (hs.pick [] rfl).dnil⟩
            · have hk := hk.lit 61 c133 rfl
              refine cnd_false hk rfl rfl ?_
              refine wp_skip ?_
              refine hK121 _ _ ?_
              apply wp_seq_k; intro K135 hK135
              apply wp_region_lit
              refine sa _ rfl hk rfl rfl rfl fun a hk => ?_
              show wpList _ _ _ [] _ _
              refine wpList_nil ?_
              refine hK135 _ _ ?_
              apply wp_seq_k; intro K136 hK136
              apply wp_region_lit
              refine sm _ rfl hk rfl rfl rfl fun a hk => ?_
              refine sm _ rfl hk rfl rfl rfl fun a hk => ?_
              obtain ⟨y137, h138, H⟩ := bind_some H
              refine sc rfl en31 hk rfl rfl rfl (laws_markEntryS_t _ A59 p60 y57.1 _ o62 1 ((hs.hand [(1, 16)] rfl).dpick [] rfl) _ h138) ?_
              rintro _ w ⟨k139, rfl, ⟨o140, lh141⟩, hG⟩ a hk
              have hs := hs.back [(1, 16)] rfl hG [16] rfl
              have lh142 : y137.2.length = y57.1.length := lh141
              refine sa _ rfl hk rfl rfl rfl fun a hk => ?_
              show wpList _ _ _ [] _ _
              refine wpList_nil ?_
              refine hK136 _ _ ?_
              apply wp_seq_k; intro K143 hK143
              apply wp_region_lit
              refine sa _ rfl hk rfl rfl rfl fun a hk => ?_
              show wpList _ _ _ [] _ _
              refine wpList_nil ?_
              refine hK143 _ _ ?_
              apply wp_seq_k; intro K144 hK144
              apply wp_region_lit
              refine sm _ rfl hk rfl rfl rfl fun a hk => ?_
              refine sm _ rfl hk rfl rfl rfl fun a hk => ?_
              have hk := hk.re 65 (v' := (.slice A59 y137.2.length p60)) rfl (by rw [lh142])
              obtain ⟨y145, h146, H⟩ := bind_some H
              refine sc rfl en32 hk rfl rfl rfl (laws_heldEntryS_t _ A59 p60 y137.2 _ o140.view (hs.hasG (k := 16) rfl) 1 _ h146) ?_
              rintro _ w ⟨rfl, hG⟩ a hk
              have hs := hs.call0 hG
              refine sa _ rfl hk rfl rfl rfl fun a hk => ?_
              show wpList _ _ _ [] _ _
              refine wpList_nil ?_
              refine hK144 _ _ ?_
              apply wp_seq_k; intro K147 hK147
              apply wp_seq_k; intro K148 hK148
              apply wp_region_lit
              refine sm _ rfl hk rfl rfl rfl fun a hk => ?_
              refine sv (.bool (decide (y145 < 0))) hk rfl rfl rfl fun a hk => ?_
              show wpList _ _ _ [] _ _
              refine wpList_nil ?_
              refine hK148 _ _ ?_
              rcases cond_some H with ⟨c149, H⟩ | ⟨c149, H⟩
              · have hk := hk.lit 69 c149 rfl
                refine cnd_true hk rfl rfl ?_
                apply wp_seq_k; intro K150 hK150
                apply wp_region_lit
                refine sa _ rfl hk rfl rfl rfl fun a hk => ?_
                show wpList _ _ _ [] _ _
                refine wpList_nil ?_
                refine hK150 _ _ ?_
                refine wp_ret ?_
                obtain rfl := Option.some.inj H
                exact fin hk _ [(.bool false)] rfl ⟨rfl, trivial⟩ ⟨rfl, (hs.pick [] rfl).dnil⟩
              · have hk := hk.lit 69 c149 rfl
                refine cnd_false hk rfl rfl ?_
                refine wp_skip ?_
                refine hK147 _ _ ?_
                apply wp_seq_k; intro K151 hK151
                apply wp_seq_k; intro K152 hK152
                apply wp_region_lit
                refine sm _ rfl hk rfl rfl rfl fun a hk => ?_
                refine sm _ rfl hk rfl rfl rfl fun a hk => ?_
                refine sv (.bool (y145 != y137.1)) hk rfl rfl rfl fun a hk => ?_
                show wpList _ _ _ [] _ _
                refine wpList_nil ?_
                refine hK152 _ _ ?_
                rcases cond_some H with ⟨c153, H⟩ | ⟨c153, H⟩
                · have hk := hk.lit 72 c153 rfl
                  refine cnd_true hk rfl rfl ?_
                  apply wp_seq_k; intro K154 hK154
                  apply wp_region_lit
                  refine sa _ rfl hk rfl rfl rfl fun a hk => ?_
                  show wpList _ _ _ [] _ _
                  refine wpList_nil ?_
                  refine hK154 _ _ ?_
                  refine wp_ret ?_
                  obtain rfl := Option.some.inj H
                  exact fin hk _ [(.bool false)] rfl ⟨rfl, trivial⟩ ⟨rfl, (hs.pick [] rfl).dnil⟩
                · have hk := hk.lit 72 c153 rfl
                  refine cnd_false hk rfl rfl ?_
                  refine wp_skip ?_
                  refine hK151 _ _ ?_
                  apply wp_seq_k; intro K155 hK155
                  apply wp_region_lit
                  refine sln [.slice A0_0 x0.Keys.length p0_0, .slice A0_1 x0.Oram.Pos.length p0_1, .slice A0_2 x0.Oram.Stash.length p0_2, .slice A0_3 x0.Oram.Buckets.length p0_3] rfl hk rfl rfl rfl ag48 sz48 (box_cells hs (k := 5) rfl) fun a hk => ?_
                  obtain ⟨y156, h157, H⟩ := bind_some H
                  refine sc rfl en26 hk rfl rfl rfl (laws_toEnc_t _ x0 A0_0 p0_0 _ v0_0 (hs.hasD (k := 1) rfl) A0_1 p0_1 _ v0_1 (hs.hasD (k := 2) rfl) A0_2 p0_2 _ v0_2 (hs.hasD (k := 3) rfl) A0_3 p0_3 _ v0_3 (hs.hasD (k := 4) rfl) _ h157) ?_
                  rintro _ w ⟨A158, p159, k160, A162, p163, k164, A166, p167, k168, A170, p171, k172, rfl, o161, o165, o169, o173, hG⟩ a hk
                  have hs := hs.call0k hG [24, 25, 26, 27] rfl
                  obtain ⟨y174, h175, H⟩ := bind_some H
                  refine sc rfl en27 hk rfl rfl rfl (impl_MapOf_t _ y156 A158 p159 _ o161.view (hs.hasG (k := 24) rfl) A162 p163 _ o165.view (hs.hasG (k := 25) rfl) A166 p167 _ o169.view (hs.hasG (k := 26) rfl) A170 p171 _ o173.view (hs.hasG (k := 27) rfl) _ h175) ?_
                  rintro _ w ⟨A176, p177, k178, rfl, o179, hG⟩ a hk
                  have hs := hs.call0k hG [28] rfl
                  refine sm _ rfl hk rfl rfl rfl fun a hk => ?_
                  refine sv (.slice A176 y174.1.length p177) hk rfl rfl rfl fun a hk => ?_
                  refine sv (.int .i64 y174.2) hk rfl rfl rfl fun a hk => ?_
                  refine sa _ rfl hk rfl rfl rfl fun a hk => ?_
                  refine sa _ rfl hk rfl rfl rfl fun a hk => ?_
                  show wpList _ _ _ [] _ _
                  refine wpList_nil ?_
                  refine hK155 _ _ ?_
                  apply wp_seq_k; intro K180 hK180
                  apply wp_seq_k; intro K181 hK181
                  obtain ⟨o184, h185, HL186⟩ := bind_some H
                  clear H
                  obtain ⟨R187, hR187⟩ : ∃ R : Act → World → Prop, R = fun a w => ∃ (u183 : Bool), u183 = o184 ∧ Kn [(7, (.slice A59 y57.1.length p60)), (10, (.int .i64 y137.1)), (87, (.bool u183))] 96 a ∧ Sat [] w0 w [(1, k0_0), (2, k0_1), (3, k0_2), (4, k0_3)] [(16, k139)] := ⟨_, rfl⟩
                  refine wp_cutq R187 ?_ ?_
                  · have H := h185
                    apply wp_region_lit
                    refine sm _ rfl hk rfl rfl rfl fun a hk => ?_
                    refine sm _ rfl hk rfl rfl rfl fun a hk => ?_
                    obtain ⟨y188, h189, H⟩ := bind_some H
                    refine sc rfl en28 hk rfl rfl rfl (laws_eqEntryS_t _ A176 p177 y174.1 _ o179.view (hs.hasG (k := 28) rfl) A32 p33 y30.1 _ o35.view (hs.hasG (k := 10) rfl) _ h189) ?_
                    rintro _ w ⟨rfl, hG⟩ a hk
                    have hs := hs.call0 hG
                    refine sv (.bool (!y188)) hk rfl rfl rfl fun a hk => ?_
                    refine sm _ rfl hk rfl rfl rfl fun a hk => ?_
                    rcases cond_some H with ⟨c190, H⟩ | ⟨c190, H⟩
                    · have hk := hk.lit 83 c190 rfl
                      refine sk hk rfl rfl rfl fun a hk => ?_
                      refine sk hk rfl rfl rfl fun a hk => ?_
                      refine sk hk rfl rfl rfl fun a hk => ?_
                      refine sv (.bool true) hk rfl rfl rfl fun a hk => ?_
                      show wpList _ _ _ [] _ _
                      refine wpList_nil ?_
                      obtain rfl := Option.some.inj H
                      show R187 _ _
                      rw [hR187]
                      exact ⟨true, rfl, (hk.c 7 rfl (hk.c 10 rfl (hk.c 87 rfl hk.k))), (hs.pick [(16, 16)] rfl)⟩
                    · have hk := hk.lit 83 c190 rfl
                      refine sm _ rfl hk rfl rfl rfl fun a hk => ?_
                      refine sm _ rfl hk rfl rfl rfl fun a hk => ?_
                      refine sv (.bool (y174.2 != y30.2)) hk rfl rfl rfl fun a hk => ?_
                      refine sv (.bool (y174.2 != y30.2)) hk rfl rfl rfl fun a hk => ?_
                      show wpList _ _ _ [] _ _
                      refine wpList_nil ?_
                      obtain rfl := Option.some.inj H
                      show R187 _ _
                      rw [hR187]
                      exact ⟨(y174.2 != y30.2), rfl, (hk.c 7 rfl (hk.c 10 rfl (hk.c 87 rfl hk.k))), (hs.pick [(16, 16)] rfl)⟩
                  · intro a w hR0
                    rw [hR187] at hR0
                    obtain ⟨u183, rfl, hk, hs⟩ := hR0
                    have H := HL186
                    try dsimp only at H
                    refine hK181 _ _ ?_
                    rcases cond_some H with ⟨c191, H⟩ | ⟨c191, H⟩
                    · have hk := hk.lit 87 c191 rfl
                      refine cnd_true hk rfl rfl ?_
                      apply wp_seq_k; intro K192 hK192
                      apply wp_region_lit
                      refine sa _ rfl hk rfl rfl rfl fun a hk => ?_
                      show wpList _ _ _ [] _ _
                      refine wpList_nil ?_
                      refine hK192 _ _ ?_
                      refine wp_ret ?_
                      obtain rfl := Option.some.inj H
                      exact fin hk _ [(.bool false)] rfl ⟨rfl, trivial⟩ ⟨rfl, (hs.pick [] rfl).dnil⟩
                    · have hk := hk.lit 87 c191 rfl
                      refine cnd_false hk rfl rfl ?_
                      refine wp_skip ?_
                      refine hK180 _ _ ?_
                      apply wp_seq_k; intro K193 hK193
                      apply wp_region_lit
                      refine sa _ rfl hk rfl rfl rfl fun a hk => ?_
                      show wpList _ _ _ [] _ _
                      refine wpList_nil ?_
                      refine hK193 _ _ ?_
                      apply wp_seq_k; intro K194 hK194
                      apply wp_region_lit
                      refine sm _ rfl hk rfl rfl rfl fun a hk => ?_
                      refine sm _ rfl hk rfl rfl rfl fun a hk => ?_
                      have hk := hk.re 88 (v' := (.slice A59 y137.2.length p60)) rfl (by rw [lh142])
                      obtain ⟨y195, h196, H⟩ := bind_some H
                      refine sc rfl en32 hk rfl rfl rfl (laws_heldEntryS_t _ A59 p60 y137.2 _ o140.view (hs.hasG (k := 16) rfl) 1 _ h196) ?_
                      rintro _ w ⟨rfl, hG⟩ a hk
                      have hs := hs.call0 hG
                      refine sa _ rfl hk rfl rfl rfl fun a hk => ?_
                      show wpList _ _ _ [] _ _
                      refine wpList_nil ?_
                      refine hK194 _ _ ?_
                      apply wp_seq_k; intro K197 hK197
                      apply wp_seq_k; intro K198 hK198
                      apply wp_region_lit
                      refine sm _ rfl hk rfl rfl rfl fun a hk => ?_
                      refine sv (.bool (decide (y195 < 0))) hk rfl rfl rfl fun a hk => ?_
                      show wpList _ _ _ [] _ _
                      refine wpList_nil ?_
                      refine hK198 _ _ ?_
                      rcases cond_some H with ⟨c199, H⟩ | ⟨c199, H⟩
                      · have hk := hk.lit 92 c199 rfl
                        refine cnd_true hk rfl rfl ?_
                        apply wp_seq_k; intro K200 hK200
                        apply wp_region_lit
                        refine sa _ rfl hk rfl rfl rfl fun a hk => ?_
                        show wpList _ _ _ [] _ _
                        refine wpList_nil ?_
                        refine hK200 _ _ ?_
                        refine wp_ret ?_
                        obtain rfl := Option.some.inj H
                        exact fin hk _ [(.bool false)] rfl ⟨rfl, trivial⟩ ⟨rfl, (hs.pick [] rfl).dnil⟩
                      · have hk := hk.lit 92 c199 rfl
                        refine cnd_false hk rfl rfl ?_
                        refine wp_skip ?_
                        refine hK197 _ _ ?_
                        apply wp_seq_k; intro K201 hK201
                        apply wp_seq_k; intro K202 hK202
                        apply wp_region_lit
                        refine sm _ rfl hk rfl rfl rfl fun a hk => ?_
                        refine sm _ rfl hk rfl rfl rfl fun a hk => ?_
                        refine sv (.bool (y195 != y137.1)) hk rfl rfl rfl fun a hk => ?_
                        show wpList _ _ _ [] _ _
                        refine wpList_nil ?_
                        refine hK202 _ _ ?_
                        rcases cond_some H with ⟨c203, H⟩ | ⟨c203, H⟩
                        · have hk := hk.lit 95 c203 rfl
                          refine cnd_true hk rfl rfl ?_
                          apply wp_seq_k; intro K204 hK204
                          apply wp_region_lit
                          refine sa _ rfl hk rfl rfl rfl fun a hk => ?_
                          show wpList _ _ _ [] _ _
                          refine wpList_nil ?_
                          refine hK204 _ _ ?_
                          refine wp_ret ?_
                          obtain rfl := Option.some.inj H
                          exact fin hk _ [(.bool false)] rfl ⟨rfl, trivial⟩ ⟨rfl, (hs.pick [] rfl).dnil⟩
                        · have hk := hk.lit 95 c203 rfl
                          refine cnd_false hk rfl rfl ?_
                          refine wp_skip ?_
                          refine hK201 _ _ ?_
                          apply wp_seq_k; intro K205 hK205
                          apply wp_region_lit
                          refine sa _ rfl hk rfl rfl rfl fun a hk => ?_
                          show wpList _ _ _ [] _ _
                          refine wpList_nil ?_
                          refine hK205 _ _ ?_
                          refine wp_ret ?_
                          obtain rfl := Option.some.inj H
                          exact fin hk _ [(.bool true)] rfl ⟨rfl, trivial⟩ ⟨rfl, (hs.pick [] rfl).dnil⟩

end Go.Proofs.Ytjlhmcieholdiaa
