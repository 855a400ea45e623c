/- The functions that FnExactReadBucket reaches: for each a model and the walk that shows that the Go code comes to it. -/
import Derived.Test.YtmgfkpfacdlfbaaT
namespace Go.Proofs.Ytmgfkpfacdlfbaa
open Go Go.Z Go.Proofs Go.MuLone Go.ChangeShapes Go.WideShapes Go.ChangeAt Go.RowKit
set_option linter.unusedVariables false
set_option linter.unusedSimpArgs false
noncomputable def laws_eqBlock.f (x0 : S_Block) (x1 : S_Block) : Option (Bool) :=
  (bif (x0.Id != x1.Id) then (some false) else (bif (x0.Leaf != x1.Leaf) then (some false) else (bif (x0.Value != x1.Value) then (some false) else (some true))))
set_option maxRecDepth 100000 in
set_option maxHeartbeats 0 in
theorem laws_eqBlock_t (w0 : World) (x0 : S_Block) (x1 : S_Block) (r : Bool) (H : laws_eqBlock.f x0 x1 = some r) :
    Calls Try.prog 59 #[.agg #[.int .i64 x0.Id, .int .i64 x0.Leaf, .int .i64 x0.Value], .agg #[.int .i64 x1.Id, .int .i64 x1.Leaf, .int .i64 x1.Value]] w0 (Ret (fun v w => v = .bool r ∧ Sat [] w0 w [] [])) := by
  have hs : Sat [] w0 w0 [] [] := Sat.init w0 [] [] (by simp) (by simp) List.nodup_nil (by simp [blks])
  unfold laws_eqBlock.f at H
  refine enter Try.func59 rfl Try.ntmps59 rfl fun a hk => ?_
  apply wp_seq_k; intro K1 hK1
  apply wp_region_lit
  refine sbx 1 hs rfl hk rfl rfl rfl rfl fun b2 w a hk hs => ?_
  refine sbx 2 hs rfl hk rfl rfl rfl rfl fun b3 w a hk hs => ?_
  refine sa _ rfl hk rfl rfl rfl fun a hk => ?_
  show wpList _ _ _ [] _ _
  refine wpList_nil ?_
  refine hK1 _ _ ?_
  apply wp_seq_k; intro K4 hK4
  apply wp_seq_k; intro K5 hK5
  apply wp_region_lit
  refine sf ⟨b2, 0, none⟩ rfl hk rfl rfl rfl fd81_0 rfl fun a hk => ?_
  refine sl rfl hk rfl rfl rfl ag3 (box_cell hs (k := 1) rfl rfl) fun a hk => ?_
  refine sf ⟨b3, 0, none⟩ rfl hk rfl rfl rfl fd81_0 rfl fun a hk => ?_
  refine sl rfl hk rfl rfl rfl ag3 (box_cell hs (k := 2) rfl rfl) fun a hk => ?_
  refine sv (.bool (x0.Id != x1.Id)) hk rfl rfl rfl fun a hk => ?_
  show wpList _ _ _ [] _ _
  refine wpList_nil ?_
  refine hK5 _ _ ?_
  rcases cond_some H with ⟨c6, H⟩ | ⟨c6, H⟩
  · have hk := hk.lit 9 c6 rfl
    refine cnd_true hk rfl rfl ?_
    apply wp_seq_k; intro K7 hK7
    apply wp_region_lit
    refine sa _ rfl hk rfl rfl rfl fun a hk => ?_
    show wpList _ _ _ [] _ _
    refine wpList_nil ?_
    refine hK7 _ _ ?_
    refine wp_ret ?_
    obtain rfl := Option.some.inj H
    exact fin hk _ [(.bool false)] rfl ⟨rfl, trivial⟩ ⟨rfl, (hs.pick [] rfl).dnil⟩
  · have hk := hk.lit 9 c6 rfl
    refine cnd_false hk rfl rfl ?_
    refine wp_skip ?_
    refine hK4 _ _ ?_
    apply wp_seq_k; intro K8 hK8
    apply wp_seq_k; intro K9 hK9
    apply wp_region_lit
    refine sf ⟨b2, 1, none⟩ rfl hk rfl rfl rfl fd81_1 rfl fun a hk => ?_
    refine sl rfl hk rfl rfl rfl ag3 (box_cell hs (k := 1) rfl rfl) fun a hk => ?_
    refine sf ⟨b3, 1, none⟩ rfl hk rfl rfl rfl fd81_1 rfl fun a hk => ?_
    refine sl rfl hk rfl rfl rfl ag3 (box_cell hs (k := 2) rfl rfl) fun a hk => ?_
    refine sv (.bool (x0.Leaf != x1.Leaf)) hk rfl rfl rfl fun a hk => ?_
    show wpList _ _ _ [] _ _
    refine wpList_nil ?_
    refine hK9 _ _ ?_
    rcases cond_some H with ⟨c10, H⟩ | ⟨c10, H⟩
    · have hk := hk.lit 14 c10 rfl
      refine cnd_true hk rfl rfl ?_
      apply wp_seq_k; intro K11 hK11
      apply wp_region_lit
      refine sa _ rfl hk rfl rfl rfl fun a hk => ?_
      show wpList _ _ _ [] _ _
      refine wpList_nil ?_
      refine hK11 _ _ ?_
      refine wp_ret ?_
      obtain rfl := Option.some.inj H
      exact fin hk _ [(.bool false)] rfl ⟨rfl, trivial⟩ ⟨rfl, (hs.pick [] rfl).dnil⟩
    · have hk := hk.lit 14 c10 rfl
      refine cnd_false hk rfl rfl ?_
      refine wp_skip ?_
      refine hK8 _ _ ?_
      apply wp_seq_k; intro K12 hK12
      apply wp_seq_k; intro K13 hK13
      apply wp_region_lit
      refine sf ⟨b2, 2, none⟩ rfl hk rfl rfl rfl fd81_2 rfl fun a hk => ?_
      refine sl rfl hk rfl rfl rfl ag3 (box_cell hs (k := 1) rfl rfl) fun a hk => ?_
      refine sf ⟨b3, 2, none⟩ rfl hk rfl rfl rfl fd81_2 rfl fun a hk => ?_
      refine sl rfl hk rfl rfl rfl ag3 (box_cell hs (k := 2) rfl rfl) fun a hk => ?_
      refine sv (.bool (x0.Value != x1.Value)) hk rfl rfl rfl fun a hk => ?_
      show wpList _ _ _ [] _ _
      refine wpList_nil ?_
      refine hK13 _ _ ?_
      rcases cond_some H with ⟨c14, H⟩ | ⟨c14, H⟩
      · have hk := hk.lit 19 c14 rfl
        refine cnd_true hk rfl rfl ?_
        apply wp_seq_k; intro K15 hK15
        apply wp_region_lit
        refine sa _ rfl hk rfl rfl rfl fun a hk => ?_
        show wpList _ _ _ [] _ _
        refine wpList_nil ?_
        refine hK15 _ _ ?_
        refine wp_ret ?_
        obtain rfl := Option.some.inj H
        exact fin hk _ [(.bool false)] rfl ⟨rfl, trivial⟩ ⟨rfl, (hs.pick [] rfl).dnil⟩
      · have hk := hk.lit 19 c14 rfl
        refine cnd_false hk rfl rfl ?_
        refine wp_skip ?_
        refine hK12 _ _ ?_
        apply wp_seq_k; intro K16 hK16
        apply wp_region_lit
        refine sa _ rfl hk rfl rfl rfl fun a hk => ?_
        show wpList _ _ _ [] _ _
        refine wpList_nil ?_
        refine hK16 _ _ ?_
        refine wp_ret ?_
        obtain rfl := Option.some.inj H
        exact fin hk _ [(.bool true)] rfl ⟨rfl, trivial⟩ ⟨rfl, (hs.pick [] rfl).dnil⟩

noncomputable def laws_eqBlockS.s0 (l0 : List S_Block) (l1 : List S_Block) (u10 : Int) : Option ((Int) ⊕ Ex (Unit) (Bool)) :=
  (bif (decide (u10 < (l0.length : Int))) then (if 0 ≤ u10 ∧ u10 < (l0.length : Int) then (if 0 ≤ u10 ∧ u10 < (l1.length : Int) then ((laws_eqBlock.f (l0.getD u10.toNat z_Block) (l1.getD u10.toNat z_Block)).bind fun y33 => (bif (!y33) then (some (.inr (.ret false))) else (some (.inl (w64 (u10 + 1)))))) else none) else none) else (some (.inr (.out ()))))
noncomputable def laws_eqBlockS.f (l0 : List S_Block) (l1 : List S_Block) : Option (Bool) :=
  (bif ((l0.length : Int) != (l1.length : Int)) then (some false) else ((loopO (fun s => laws_eqBlockS.s0 l0 l1 s) 0).bind fun o => match o with | .out _ => (some true) | .ret r => (some r)))
set_option maxRecDepth 100000 in
set_option maxHeartbeats 0 in
theorem laws_eqBlockS_t (w0 : World) (A0_ : Option Addr) (p0_ : Nat) (l0 : List S_Block) (k0_ : Chunk) (v0_ : View L_Block A0_ p0_ l0 k0_) (w0_ : Has w0 k0_) (A1_ : Option Addr) (p1_ : Nat) (l1 : List S_Block) (k1_ : Chunk) (v1_ : View L_Block A1_ p1_ l1 k1_) (w1_ : Has w0 k1_) (r : Bool) (H : laws_eqBlockS.f l0 l1 = some r) :
    Calls Try.prog 15 #[.slice A0_ l0.length p0_, .slice A1_ l1.length p1_] w0 (Ret (fun v w => v = .bool r ∧ Sat [] w0 w [] [])) := by
  have hs : Sat [] w0 w0 [(1, k0_), (2, k1_)] [] := Sat.init w0 [(1, k0_), (2, k1_)] [] (by simp only [List.mem_cons, List.not_mem_nil, or_false]; rintro x (rfl | rfl) <;> assumption) (by simp) List.nodup_nil (by simp [blks])
  unfold laws_eqBlockS.f at H
  refine enter Try.func15 rfl Try.ntmps15 rfl fun a hk => ?_
  apply wp_seq_k; intro K1 hK1
  apply wp_region_lit
  refine sa _ rfl hk rfl rfl rfl fun a hk => ?_
  show wpList _ _ _ [] _ _
  refine wpList_nil ?_
  refine hK1 _ _ ?_
  apply wp_seq_k; intro K2 hK2
  apply wp_seq_k; intro K3 hK3
  apply wp_region_lit
  refine sm _ rfl hk rfl rfl rfl fun a hk => ?_
  refine sle rfl hk rfl rfl rfl un26 fun a hk => ?_
  refine sm _ rfl hk rfl rfl rfl fun a hk => ?_
  refine sle rfl hk rfl rfl rfl un26 fun a hk => ?_
  refine sv (.bool ((l0.length : Int) != (l1.length : Int))) hk rfl rfl rfl fun a hk => ?_
  show wpList _ _ _ [] _ _
  refine wpList_nil ?_
  refine hK3 _ _ ?_
  rcases cond_some H with ⟨c4, H⟩ | ⟨c4, H⟩
  · have hk := hk.lit 10 c4 rfl
    refine cnd_true hk rfl rfl ?_
    apply wp_seq_k; intro K5 hK5
    apply wp_region_lit
    refine sa _ rfl hk rfl rfl rfl fun a hk => ?_
    show wpList _ _ _ [] _ _
    refine wpList_nil ?_
    refine hK5 _ _ ?_
    refine wp_ret ?_
    obtain rfl := Option.some.inj H
    exact fin hk _ [(.bool false)] rfl ⟨rfl, trivial⟩ ⟨rfl, (hs.pick [] rfl).dnil⟩
  · have hk := hk.lit 10 c4 rfl
    refine cnd_false hk rfl rfl ?_
    refine wp_skip ?_
    refine hK2 _ _ ?_
    apply wp_seq_k; intro K6 hK6
    apply wp_seq_k; intro K7 hK7
    apply wp_region_lit
    refine sa _ rfl hk rfl rfl rfl fun a hk => ?_
    show wpList _ _ _ [] _ _
    refine wpList_nil ?_
    refine hK7 _ _ ?_
    obtain ⟨o11, h12, HL13⟩ := bind_some H
    clear H
    obtain ⟨R14, hR14⟩ : ∃ R : Act → World → Prop, R = fun a w => o11 = .out () ∧ Kn [] 27 a ∧ Sat [] w0 w [(1, k0_), (2, k1_)] [] := ⟨_, rfl⟩
    refine wp_cutq R14 ?_ ?_
    · refine wp_block ?_
      obtain ⟨fu16, h12⟩ := loopO_some h12
      obtain ⟨I15, hI15⟩ : ∃ I : Nat → Act → World → Prop, I = fun fu a w => ∃ (u10 : Int), loopN (fun s => laws_eqBlockS.s0 l0 l1 s) fu u10 = some o11 ∧ Kn [(0, (.slice A0_ l0.length p0_)), (1, (.slice A1_ l1.length p1_)), (5, (.int .i64 u10))] 27 a ∧ Sat [] w0 w [(1, k0_), (2, k1_)] [] := ⟨_, rfl⟩
      refine wp_loop_ghost I15 fu16 ?_ ?_
      · rw [hI15]
        exact ⟨0, h12, (hk.c 0 rfl (hk.c 1 rfl (hk.c 5 rfl hk.k))), (hs.pick [] rfl)⟩
      · clear h12 hk hs
        intro fu16 a w hI0
        rw [hI15] at hI0
        obtain ⟨u10, hi, hk, hs⟩ := hI0
        obtain ⟨x17, H, h18⟩ := loop_round hi
        try dsimp only at H
        unfold laws_eqBlockS.s0 at H
        apply wp_seq_k; intro K19 hK19
        apply wp_seq_k; intro K20 hK20
        apply wp_region_lit
        refine sm _ rfl hk rfl rfl rfl fun a hk => ?_
        refine sm _ rfl hk rfl rfl rfl fun a hk => ?_
        refine sle rfl hk rfl rfl rfl un26 fun a hk => ?_
        refine sv (.bool (decide (u10 < (l0.length : Int)))) hk rfl rfl rfl fun a hk => ?_
        show wpList _ _ _ [] _ _
        refine wpList_nil ?_
        refine hK20 _ _ ?_
        rcases cond_some H with ⟨c21, H⟩ | ⟨c21, H⟩
        · have hk := hk.lit 14 c21 rfl
          refine cnd_true hk rfl rfl ?_
          refine wp_skip ?_
          refine hK19 _ _ ?_
          apply wp_seq_k; intro K22 hK22
          refine wp_block ?_
          apply wp_seq_k; intro K23 hK23
          refine wp_region_tree (.q 0 (.q 1 (.q 2 (.q 3 (.q 4 (.alt 5 (.alt 6 (.alt 7 (.alt 8 (.alt 9 .done .stop) .stop) .stop) .stop) .stop)))))) mo (by kernel_rfl) (hs.pick [] rfl) fun _ => ?_
          have hs := hs.drew
          refine tqst (.slice A0_ l0.length p0_) hk rfl rfl rfl rfl (fun w hs => sm _ rfl hk rfl rfl rfl fun a hk => qe hk) fun a hk => ?_
          refine tqst (.int .i64 u10) hk rfl rfl rfl rfl (fun w hs => sm _ rfl hk rfl rfl rfl fun a hk => qe hk) fun a hk => ?_
          rcases ite_some H with ⟨c25, H⟩ | ⟨_, H⟩
          rotate_left
          · cases H
          obtain ⟨b26, q27, hAc25⟩ := (v0_).some_ u10 c25.1 c25.2
          refine tqst (.pointer (some (padd A0_ (u10.toNat * 3)))) hk rfl rfl rfl rfl (fun w hs => si rfl hk rfl rfl rfl rfl un26 sz81 c25.1 c25.2 hAc25 fun a hk => qe hk) fun a hk => ?_
          obtain ⟨_, rfl, e28⟩ := (v0_).at_ z_Block u10 c25.1 c25.2
          refine tqst (.agg #[.int .i64 ((l0.getD u10.toNat z_Block).Id), .int .i64 ((l0.getD u10.toNat z_Block).Leaf), .int .i64 ((l0.getD u10.toNat z_Block).Value)]) hk rfl rfl rfl rfl (fun w hs => sln [.int .i64 ((l0.getD u10.toNat z_Block).Id), .int .i64 ((l0.getD u10.toNat z_Block).Leaf), .int .i64 ((l0.getD u10.toNat z_Block).Value)] rfl hk rfl rfl rfl ag81 sz81 (cells_at e28 (hs.hasD (k := 1) rfl)) fun a hk => qe hk) fun a hk => ?_
          refine tqst (.slice A1_ l1.length p1_) hk rfl rfl rfl rfl (fun w hs => sm _ rfl hk rfl rfl rfl fun a hk => qe hk) fun a hk => ?_
          refine tsst hk rfl rfl (fun K_r24_5 hK_r24_5 w hF => ?_) wt_stop
          have hs := hs.f hF
          refine sm _ rfl hk rfl rfl rfl fun a hk => ?_
          refine se (hs.pick [] rfl) hk (hK_r24_5 _ _ ?_)
          refine tsst hk rfl rfl (fun K_r24_6 hK_r24_6 w hF => ?_) wt_stop
          have hs := hs.f hF
          rcases ite_some H with ⟨c29, H⟩ | ⟨_, H⟩
          rotate_left
          · cases H
          obtain ⟨b30, q31, hAc29⟩ := (v1_).some_ u10 c29.1 c29.2
          refine si rfl hk rfl rfl rfl rfl un26 sz81 c29.1 c29.2 hAc29 fun a hk => ?_
          refine se (hs.pick [] rfl) hk (hK_r24_6 _ _ ?_)
          refine tsst hk rfl rfl (fun K_r24_7 hK_r24_7 w hF => ?_) wt_stop
          have hs := hs.f hF
          obtain ⟨_, rfl, e32⟩ := (v1_).at_ z_Block u10 c29.1 c29.2
          refine sln [.int .i64 ((l1.getD u10.toNat z_Block).Id), .int .i64 ((l1.getD u10.toNat z_Block).Leaf), .int .i64 ((l1.getD u10.toNat z_Block).Value)] rfl hk rfl rfl rfl ag81 sz81 (cells_at e32 (hs.hasD (k := 2) rfl)) fun a hk => ?_
          refine se (hs.pick [] rfl) hk (hK_r24_7 _ _ ?_)
          refine tsst hk rfl rfl (fun K_r24_8 hK_r24_8 w hF => ?_) wt_stop
          have hs := hs.f hF
          obtain ⟨y33, h34, H⟩ := bind_some H
          refine sc rfl en59 hk rfl rfl rfl (laws_eqBlock_t _ (l0.getD u10.toNat z_Block) (l1.getD u10.toNat z_Block) _ h34) ?_
          rintro _ w ⟨rfl, hG⟩ a hk
          have hs := hs.call0 hG
          refine se (hs.pick [] rfl) hk (hK_r24_8 _ _ ?_)
          refine tsst hk rfl rfl (fun K_r24_9 hK_r24_9 w hF => ?_) wt_stop
          have hs := hs.f hF
          refine sv (.bool (!y33)) hk rfl rfl rfl fun a hk => ?_
          refine se (hs.pick [] rfl) hk (hK_r24_9 _ _ ?_)
          refine wtl_nil fun w hF _ => ?_
          have hs := hs.f hF
          refine hK23 _ _ ?_
          rcases cond_some H with ⟨c35, H⟩ | ⟨c35, H⟩
          · have hk := hk.lit 26 c35 rfl
            refine cnd_true hk rfl rfl ?_
            apply wp_seq_k; intro K36 hK36
            apply wp_region_lit
            refine sa _ rfl hk rfl rfl rfl fun a hk => ?_
            show wpList _ _ _ [] _ _
            refine wpList_nil ?_
            refine hK36 _ _ ?_
            refine wp_ret ?_
            obtain rfl := Option.some.inj H
            have ho11 := h18
            try dsimp only at ho11
            subst ho11
            have H := HL13
            try dsimp only at H
            obtain rfl := Option.some.inj H
            exact fin hk _ [(.bool false)] rfl ⟨rfl, trivial⟩ ⟨rfl, (hs.pick [] rfl).dnil⟩
          · have hk := hk.lit 26 c35 rfl
            refine cnd_false hk rfl rfl ?_
            refine wp_skip ?_
            refine hK22 _ _ ?_
            apply wp_region_lit
            refine sm _ rfl hk rfl rfl rfl fun a hk => ?_
            refine sv (.int .i64 (w64 (u10 + 1))) hk rfl rfl rfl fun a hk => ?_
            refine sa _ rfl hk rfl rfl rfl fun a hk => ?_
            show wpList _ _ _ [] _ _
            refine wpList_nil ?_
            obtain rfl := Option.some.inj H
            obtain ⟨m37, hmm37, h18⟩ := h18
            show ∃ n', n' < _ ∧ I15 n' _ _
            refine ⟨m37, hmm37, ?_⟩
            rw [hI15]
            exact ⟨(w64 (u10 + 1)), h18, (hk.c 0 rfl (hk.c 1 rfl (hk.c 5 rfl hk.k))), (hs.pick [] rfl)⟩
        · have hk := hk.lit 14 c21 rfl
          refine cnd_false hk rfl rfl ?_
          refine wp_exit ?_
          obtain rfl := Option.some.inj H
          show R14 _ _
          rw [hR14]
          exact ⟨h18.symm, hk.k, (hs.pick [] rfl)⟩
    · intro a w hR0
      rw [hR14] at hR0
      obtain ⟨rfl, hk, hs⟩ := hR0
      have H := HL13
      try dsimp only at H
      refine hK6 _ _ ?_
      apply wp_seq_k; intro K38 hK38
      apply wp_region_lit
      refine sa _ rfl hk rfl rfl rfl fun a hk => ?_
      show wpList _ _ _ [] _ _
      refine wpList_nil ?_
      refine hK38 _ _ ?_
      refine wp_ret ?_
      obtain rfl := Option.some.inj H
      exact fin hk _ [(.bool true)] rfl ⟨rfl, trivial⟩ ⟨rfl, (hs.pick [] rfl).dnil⟩

noncomputable def spec_l01In.f (x0 : Int) (x1 : Int) (x2 : Int) : Option (Bool) :=
  (((bif (decide (x1 ≤ x0)) then (some (decide (x0 ≤ x2))) else (some false)) : Option (Bool)).bind fun u4 => (some u4))
set_option maxRecDepth 100000 in
set_option maxHeartbeats 0 in
theorem spec_l01In_t (w0 : World) (x0 : Int) (x1 : Int) (x2 : Int) (r : Bool) (H : spec_l01In.f x0 x1 x2 = some r) :
    Calls Try.prog 81 #[.int .i64 x0, .int .i64 x1, .int .i64 x2] w0 (Ret (fun v w => v = .bool r ∧ Sat [] w0 w [] [])) := by
  have hs : Sat [] w0 w0 [] [] := Sat.init w0 [] [] (by simp) (by simp) List.nodup_nil (by simp [blks])
  unfold spec_l01In.f at H
  refine enter Try.func81 rfl Try.ntmps81 rfl fun a hk => ?_
  apply wp_seq_k; intro K1 hK1
  apply wp_region_lit
  refine sa _ rfl hk rfl rfl rfl fun a hk => ?_
  show wpList _ _ _ [] _ _
  refine wpList_nil ?_
  refine hK1 _ _ ?_
  apply wp_seq_k; intro K2 hK2
  obtain ⟨o5, h6, HL7⟩ := bind_some H
  clear H
  obtain ⟨R8, hR8⟩ : ∃ R : Act → World → Prop, R = fun a w => ∃ (u4 : Bool), u4 = o5 ∧ Kn [(6, (.bool u4))] 15 a ∧ Sat [] w0 w [] [] := ⟨_, rfl⟩
  refine wp_cutq R8 ?_ ?_
  · have H := h6
    apply wp_region_lit
    refine sm _ rfl hk rfl rfl rfl fun a hk => ?_
    refine sm _ rfl hk rfl rfl rfl fun a hk => ?_
    refine sv (.bool (decide (x1 ≤ x0))) hk rfl rfl rfl fun a hk => ?_
    refine sm _ rfl hk rfl rfl rfl fun a hk => ?_
    rcases cond_some H with ⟨c9, H⟩ | ⟨c9, H⟩
    · have hk := hk.lit 10 c9 rfl
      refine sm _ rfl hk rfl rfl rfl fun a hk => ?_
      refine sm _ rfl hk rfl rfl rfl fun a hk => ?_
      refine sv (.bool (decide (x0 ≤ x2))) hk rfl rfl rfl fun a hk => ?_
      refine sv (.bool (decide (x0 ≤ x2))) hk rfl rfl rfl fun a hk => ?_
      refine sa _ rfl hk rfl rfl rfl fun a hk => ?_
      show wpList _ _ _ [] _ _
      refine wpList_nil ?_
      obtain rfl := Option.some.inj H
      show R8 _ _
      rw [hR8]
      exact ⟨(decide (x0 ≤ x2)), rfl, (hk.c 6 rfl hk.k), (hs.pick [] rfl)⟩
    · have hk := hk.lit 10 c9 rfl
      refine sk hk rfl rfl rfl fun a hk => ?_
      refine sk hk rfl rfl rfl fun a hk => ?_
      refine sk hk rfl rfl rfl fun a hk => ?_
      refine sv (.bool false) hk rfl rfl rfl fun a hk => ?_
      refine sa _ rfl hk rfl rfl rfl fun a hk => ?_
      show wpList _ _ _ [] _ _
      refine wpList_nil ?_
      obtain rfl := Option.some.inj H
      show R8 _ _
      rw [hR8]
      exact ⟨false, rfl, (hk.c 6 rfl hk.k), (hs.pick [] rfl)⟩
  · intro a w hR0
    rw [hR8] at hR0
    obtain ⟨u4, rfl, hk, hs⟩ := hR0
    have H := HL7
    try dsimp only at H
    refine hK2 _ _ ?_
    refine wp_ret ?_
    obtain rfl := Option.some.inj H
    exact fin hk _ [(.bool u4)] rfl ⟨rfl, trivial⟩ ⟨rfl, (hs.pick [] rfl).dnil⟩

noncomputable def spec_l12Blocks.s0 (l0 : List S_Block) (u6 : Int) : Option ((Int) ⊕ Ex (Unit) (Bool)) :=
  (bif (decide (u6 < (l0.length : Int))) then (if 0 ≤ u6 ∧ u6 < (l0.length : Int) then ((((spec_l01In.f ((l0.getD u6.toNat z_Block).Id) 0 11).bind fun y32 => (bif (!y32) then (some true) else ((spec_l01In.f ((l0.getD u6.toNat z_Block).Leaf) 0 7).bind fun y35 => (bif (!y35) then (some true) else ((spec_l01In.f ((l0.getD u6.toNat z_Block).Value) 0 999999).bind fun y38 => (some (!y38))))))) : Option (Bool)).bind fun u27 => (bif u27 then (some (.inr (.ret false))) else (some (.inl (w64 (u6 + 1)))))) else none) else (some (.inr (.out ()))))
noncomputable def spec_l12Blocks.f (l0 : List S_Block) : Option (Bool) :=
  ((loopO (fun s => spec_l12Blocks.s0 l0 s) 0).bind fun o => match o with | .out _ => (some (decide ((l0.length : Int) ≤ 2))) | .ret r => (some r))
set_option maxRecDepth 100000 in
set_option maxHeartbeats 0 in
theorem spec_l12Blocks_t (w0 : World) (A0_ : Option Addr) (p0_ : Nat) (l0 : List S_Block) (k0_ : Chunk) (v0_ : View L_Block A0_ p0_ l0 k0_) (w0_ : Has w0 k0_) (r : Bool) (H : spec_l12Blocks.f l0 = some r) :
    Calls Try.prog 53 #[.slice A0_ l0.length p0_] w0 (Ret (fun v w => v = .bool r ∧ Sat [] w0 w [] [])) := by
  have hs : Sat [] w0 w0 [(1, k0_)] [] := Sat.init w0 [(1, k0_)] [] (by simp only [List.mem_cons, List.not_mem_nil, or_false]; rintro x (rfl) <;> assumption) (by simp) List.nodup_nil (by simp [blks])
  unfold spec_l12Blocks.f at H
  refine enter Try.func53 rfl Try.ntmps53 rfl fun a hk => ?_
  apply wp_seq_k; intro K1 hK1
  apply wp_region_lit
  refine sa _ rfl hk rfl rfl rfl fun a hk => ?_
  show wpList _ _ _ [] _ _
  refine wpList_nil ?_
  refine hK1 _ _ ?_
  apply wp_seq_k; intro K2 hK2
  apply wp_seq_k; intro K3 hK3
  apply wp_region_lit
  refine sa _ rfl hk rfl rfl rfl fun a hk => ?_
  show wpList _ _ _ [] _ _
  refine wpList_nil ?_
  refine hK3 _ _ ?_
  obtain ⟨o7, h8, HL9⟩ := bind_some H
  clear H
  obtain ⟨R10, hR10⟩ : ∃ R : Act → World → Prop, R = fun a w => o7 = .out () ∧ Kn [(0, (.slice A0_ l0.length p0_))] 34 a ∧ Sat [] w0 w [(1, k0_)] [] := ⟨_, rfl⟩
  refine wp_cutq R10 ?_ ?_
  · refine wp_block ?_
    obtain ⟨fu12, h8⟩ := loopO_some h8
    obtain ⟨I11, hI11⟩ : ∃ I : Nat → Act → World → Prop, I = fun fu a w => ∃ (u6 : Int), loopN (fun s => spec_l12Blocks.s0 l0 s) fu u6 = some o7 ∧ Kn [(0, (.slice A0_ l0.length p0_)), (3, (.int .i64 u6))] 34 a ∧ Sat [] w0 w [(1, k0_)] [] := ⟨_, rfl⟩
    refine wp_loop_ghost I11 fu12 ?_ ?_
    · rw [hI11]
      exact ⟨0, h8, (hk.c 0 rfl (hk.c 3 rfl hk.k)), (hs.pick [] rfl)⟩
    · clear h8 hk hs
      intro fu12 a w hI0
      rw [hI11] at hI0
      obtain ⟨u6, hi, hk, hs⟩ := hI0
      obtain ⟨x13, H, h14⟩ := loop_round hi
      try dsimp only at H
      unfold spec_l12Blocks.s0 at H
      apply wp_seq_k; intro K15 hK15
      apply wp_seq_k; intro K16 hK16
      apply wp_region_lit
      refine sm _ rfl hk rfl rfl rfl fun a hk => ?_
      refine sm _ rfl hk rfl rfl rfl fun a hk => ?_
      refine sle rfl hk rfl rfl rfl un26 fun a hk => ?_
      refine sv (.bool (decide (u6 < (l0.length : Int)))) hk rfl rfl rfl fun a hk => ?_
      show wpList _ _ _ [] _ _
      refine wpList_nil ?_
      refine hK16 _ _ ?_
      rcases cond_some H with ⟨c17, H⟩ | ⟨c17, H⟩
      · have hk := hk.lit 8 c17 rfl
        refine cnd_true hk rfl rfl ?_
        refine wp_skip ?_
        refine hK15 _ _ ?_
        apply wp_seq_k; intro K18 hK18
        refine wp_block ?_
        apply wp_seq_k; intro K19 hK19
        apply wp_region_lit
        refine sm _ rfl hk rfl rfl rfl fun a hk => ?_
        refine sm _ rfl hk rfl rfl rfl fun a hk => ?_
        rcases ite_some H with ⟨c20, H⟩ | ⟨_, H⟩
        rotate_left
        · cases H
        obtain ⟨b21, q22, hAc20⟩ := (v0_).some_ u6 c20.1 c20.2
        refine si rfl hk rfl rfl rfl rfl un26 sz81 c20.1 c20.2 hAc20 fun a hk => ?_
        obtain ⟨_, rfl, e23⟩ := (v0_).at_ z_Block u6 c20.1 c20.2
        refine sln [.int .i64 ((l0.getD u6.toNat z_Block).Id), .int .i64 ((l0.getD u6.toNat z_Block).Leaf), .int .i64 ((l0.getD u6.toNat z_Block).Value)] rfl hk rfl rfl rfl ag81 sz81 (cells_at e23 (hs.hasD (k := 1) rfl)) fun a hk => ?_
        refine salx 3 hs rfl hk rfl rfl ze81 rfl fun b24 w a hk hs => ?_
        refine ssw 3 hs rfl rfl hk rfl rfl rfl rfl sz81 (by simp [Value.oneCell']) rfl fun w a hk hs => ?_
        show wpList _ _ _ [] _ _
        refine wpList_nil ?_
        refine hK19 _ _ ?_
        apply wp_seq_k; intro K25 hK25
        obtain ⟨o28, h29, HL30⟩ := bind_some H
        clear H
        obtain ⟨R31, hR31⟩ : ∃ R : Act → World → Prop, R = fun a w => ∃ (u27 : Bool), u27 = o28 ∧ Kn [(0, (.slice A0_ l0.length p0_)), (3, (.int .i64 u6)), (30, (.bool u27))] 34 a ∧ Sat [] w0 w [(1, k0_)] [] := ⟨_, rfl⟩
        refine wp_cutq R31 ?_ ?_
        · have H := h29
          apply wp_region_lit
          refine sf ⟨b24, 0, none⟩ rfl hk rfl rfl rfl fd81_0 rfl fun a hk => ?_
          refine sl rfl hk rfl rfl rfl ag3 (box_cell hs (k := 3) rfl rfl) fun a hk => ?_
          obtain ⟨y32, h33, H⟩ := bind_some H
          refine sc rfl en81 hk rfl rfl rfl (spec_l01In_t _ ((l0.getD u6.toNat z_Block).Id) 0 11 _ h33) ?_
          rintro _ w ⟨rfl, hG⟩ a hk
          have hs := hs.call0 hG
          refine sv (.bool (!y32)) hk rfl rfl rfl fun a hk => ?_
          refine sm _ rfl hk rfl rfl rfl fun a hk => ?_
          rcases cond_some H with ⟨c34, H⟩ | ⟨c34, H⟩
          · have hk := hk.lit 19 c34 rfl
            refine sk hk rfl rfl rfl fun a hk => ?_
            refine sk hk rfl rfl rfl fun a hk => ?_
            refine sk hk rfl rfl rfl fun a hk => ?_
            refine sk hk rfl rfl rfl fun a hk => ?_
            refine sv (.bool true) hk rfl rfl rfl fun a hk => ?_
            refine sm _ rfl hk rfl rfl rfl fun a hk => ?_
            refine sk hk rfl rfl rfl fun a hk => ?_
            refine sk hk rfl rfl rfl fun a hk => ?_
            refine sk hk rfl rfl rfl fun a hk => ?_
            refine sk hk rfl rfl rfl fun a hk => ?_
            refine sv (.bool true) hk rfl rfl rfl fun a hk => ?_
            show wpList _ _ _ [] _ _
            refine wpList_nil ?_
            obtain rfl := Option.some.inj H
            show R31 _ _
            rw [hR31]
            exact ⟨true, rfl, (hk.c 0 rfl (hk.c 3 rfl (hk.c 30 rfl hk.k))), (hs.pick [] rfl)⟩
          · have hk := hk.lit 19 c34 rfl
            refine sf ⟨b24, 1, none⟩ rfl hk rfl rfl rfl fd81_1 rfl fun a hk => ?_
            refine sl rfl hk rfl rfl rfl ag3 (box_cell hs (k := 3) rfl rfl) fun a hk => ?_
            obtain ⟨y35, h36, H⟩ := bind_some H
            refine sc rfl en81 hk rfl rfl rfl (spec_l01In_t _ ((l0.getD u6.toNat z_Block).Leaf) 0 7 _ h36) ?_
            rintro _ w ⟨rfl, hG⟩ a hk
            have hs := hs.call0 hG
            refine sv (.bool (!y35)) hk rfl rfl rfl fun a hk => ?_
            refine sv (.bool (!y35)) hk rfl rfl rfl fun a hk => ?_
            refine sm _ rfl hk rfl rfl rfl fun a hk => ?_
            rcases cond_some H with ⟨c37, H⟩ | ⟨c37, H⟩
            · have hk := hk.lit 25 c37 rfl
              refine sk hk rfl rfl rfl fun a hk => ?_
              refine sk hk rfl rfl rfl fun a hk => ?_
              refine sk hk rfl rfl rfl fun a hk => ?_
              refine sk hk rfl rfl rfl fun a hk => ?_
              refine sv (.bool true) hk rfl rfl rfl fun a hk => ?_
              show wpList _ _ _ [] _ _
              refine wpList_nil ?_
              obtain rfl := Option.some.inj H
              show R31 _ _
              rw [hR31]
              exact ⟨true, rfl, (hk.c 0 rfl (hk.c 3 rfl (hk.c 30 rfl hk.k))), (hs.pick [] rfl)⟩
            · have hk := hk.lit 25 c37 rfl
              refine sf ⟨b24, 2, none⟩ rfl hk rfl rfl rfl fd81_2 rfl fun a hk => ?_
              refine sl rfl hk rfl rfl rfl ag3 (box_cell hs (k := 3) rfl rfl) fun a hk => ?_
              obtain ⟨y38, h39, H⟩ := bind_some H
              refine sc rfl en81 hk rfl rfl rfl (spec_l01In_t _ ((l0.getD u6.toNat z_Block).Value) 0 999999 _ h39) ?_
              rintro _ w ⟨rfl, hG⟩ a hk
              have hs := hs.call0 hG
              refine sv (.bool (!y38)) hk rfl rfl rfl fun a hk => ?_
              refine sv (.bool (!y38)) hk rfl rfl rfl fun a hk => ?_
              show wpList _ _ _ [] _ _
              refine wpList_nil ?_
              obtain rfl := Option.some.inj H
              show R31 _ _
              rw [hR31]
              exact ⟨(!y38), rfl, (hk.c 0 rfl (hk.c 3 rfl (hk.c 30 rfl hk.k))), (hs.pick [] rfl)⟩
        · intro a w hR0
          rw [hR31] at hR0
          obtain ⟨u27, rfl, hk, hs⟩ := hR0
          have H := HL30
          try dsimp only at H
          refine hK25 _ _ ?_
          rcases cond_some H with ⟨c40, H⟩ | ⟨c40, H⟩
          · have hk := hk.lit 30 c40 rfl
            refine cnd_true hk rfl rfl ?_
            apply wp_seq_k; intro K41 hK41
            apply wp_region_lit
            refine sa _ rfl hk rfl rfl rfl fun a hk => ?_
            show wpList _ _ _ [] _ _
            refine wpList_nil ?_
            refine hK41 _ _ ?_
            refine wp_ret ?_
            obtain rfl := Option.some.inj H
            have ho7 := h14
            try dsimp only at ho7
            subst ho7
            have H := HL9
            try dsimp only at H
            obtain rfl := Option.some.inj H
            exact fin hk _ [(.bool false)] rfl ⟨rfl, trivial⟩ ⟨rfl, (hs.pick [] rfl).dnil⟩
          · have hk := hk.lit 30 c40 rfl
            refine cnd_false hk rfl rfl ?_
            refine wp_skip ?_
            refine hK18 _ _ ?_
            apply wp_region_lit
            refine sm _ rfl hk rfl rfl rfl fun a hk => ?_
            refine sv (.int .i64 (w64 (u6 + 1))) hk rfl rfl rfl fun a hk => ?_
            refine sa _ rfl hk rfl rfl rfl fun a hk => ?_
            show wpList _ _ _ [] _ _
            refine wpList_nil ?_
            obtain rfl := Option.some.inj H
            obtain ⟨m42, hmm42, h14⟩ := h14
            show ∃ n', n' < _ ∧ I11 n' _ _
            refine ⟨m42, hmm42, ?_⟩
            rw [hI11]
            exact ⟨(w64 (u6 + 1)), h14, (hk.c 0 rfl (hk.c 3 rfl hk.k)), (hs.pick [] rfl)⟩
      · have hk := hk.lit 8 c17 rfl
        refine cnd_false hk rfl rfl ?_
        refine wp_exit ?_
        obtain rfl := Option.some.inj H
        show R10 _ _
        rw [hR10]
        exact ⟨h14.symm, (hk.c 0 rfl hk.k), (hs.pick [] rfl)⟩
  · intro a w hR0
    rw [hR10] at hR0
    obtain ⟨rfl, hk, hs⟩ := hR0
    have H := HL9
    try dsimp only at H
    refine hK2 _ _ ?_
    apply wp_seq_k; intro K43 hK43
    apply wp_region_lit
    refine sm _ rfl hk rfl rfl rfl fun a hk => ?_
    refine sle rfl hk rfl rfl rfl un26 fun a hk => ?_
    refine sv (.bool (decide ((l0.length : Int) ≤ 2))) hk rfl rfl rfl fun a hk => ?_
    refine sa _ rfl hk rfl rfl rfl fun a hk => ?_
    show wpList _ _ _ [] _ _
    refine wpList_nil ?_
    refine hK43 _ _ ?_
    refine wp_ret ?_
    obtain rfl := Option.some.inj H
    exact fin hk _ [(.bool (decide ((l0.length : Int) ≤ 2)))] rfl ⟨rfl, trivial⟩ ⟨rfl, (hs.pick [] rfl).dnil⟩

noncomputable def spec_l02Word.f (x0 : ByteArray) (x1 : Int) : Option (Int) :=
  (if 0 ≤ x1 ∧ x1 < (x0.size : Int) then (if 0 ≤ (w64 (x1 + 1)) ∧ (w64 (x1 + 1)) < (x0.size : Int) then (if 0 ≤ (w64 (x1 + 2)) ∧ (w64 (x1 + 2)) < (x0.size : Int) then (if 0 ≤ (w64 (x1 + 3)) ∧ (w64 (x1 + 3)) < (x0.size : Int) then (some (IntKind.wrap .i64 ((BitVec.ofInt 64 (IntKind.wrap .i64 ((BitVec.ofInt 64 (IntKind.wrap .i64 ((BitVec.ofInt 64 (IntKind.wrap .i64 (byteAt x0 x1)) ||| BitVec.ofInt 64 (IntKind.wrap .i64 ((IntKind.wrap .i64 (byteAt x0 (w64 (x1 + 1)))) * 2 ^ 8))).toNat : Int)) ||| BitVec.ofInt 64 (IntKind.wrap .i64 ((IntKind.wrap .i64 (byteAt x0 (w64 (x1 + 2)))) * 2 ^ 16))).toNat : Int)) ||| BitVec.ofInt 64 (IntKind.wrap .i64 ((IntKind.wrap .i64 (byteAt x0 (w64 (x1 + 3)))) * 2 ^ 24))).toNat : Int))) else none) else none) else none) else none)
set_option maxRecDepth 100000 in
set_option maxHeartbeats 0 in
theorem spec_l02Word_t (w0 : World) (x0 : ByteArray) (x1 : Int) (r : Int) (H : spec_l02Word.f x0 x1 = some r) :
    Calls Try.prog 189 #[.string x0, .int .i64 x1] w0 (Ret (fun v w => v = .int .i64 r ∧ Sat [] w0 w [] [])) := by
  have hs : Sat [] w0 w0 [] [] := Sat.init w0 [] [] (by simp) (by simp) List.nodup_nil (by simp [blks])
  unfold spec_l02Word.f at H
  refine enter Try.func189 rfl Try.ntmps189 rfl fun a hk => ?_
  apply wp_seq_k; intro K1 hK1
  apply wp_region_lit
  refine sa _ rfl hk rfl rfl rfl fun a hk => ?_
  show wpList _ _ _ [] _ _
  refine wpList_nil ?_
  refine hK1 _ _ ?_
  apply wp_seq_k; intro K2 hK2
  refine wp_region_tree (.q 0 (.q 1 (.q 2 (.q 3 (.q 4 (.q 5 (.q 6 (.q 7 (.q 8 (.q 9 (.q 10 (.q 11 (.q 12 (.q 13 (.q 14 (.q 15 (.q 16 (.q 17 (.q 18 (.alt 19 (.alt 20 (.alt 21 (.alt 22 (.alt 23 (.alt 24 (.last 25) .stop) .stop) .stop) .stop) .stop) .stop)))))))))))))))))))) mo (by kernel_rfl) (hs.pick [] rfl) fun _ => ?_
  have hs := hs.drew
  refine tqst (.string x0) hk rfl rfl rfl rfl (fun w hs => sm _ rfl hk rfl rfl rfl fun a hk => qe hk) fun a hk => ?_
  refine tqst (.int .i64 x1) hk rfl rfl rfl rfl (fun w hs => sm _ rfl hk rfl rfl rfl fun a hk => qe hk) fun a hk => ?_
  rcases ite_some H with ⟨c4, H⟩ | ⟨_, H⟩
  rotate_left
  · cases H
  refine tqst (.int .u8 (byteAt x0 x1)) hk rfl rfl rfl rfl (fun w hs => six rfl hk rfl rfl rfl rfl un9 c4.1 c4.2 fun a hk => qe hk) fun a hk => ?_
  refine tqst (.int .i64 (IntKind.wrap .i64 (byteAt x0 x1))) hk rfl rfl rfl rfl (fun w hs => scn rfl hk rfl rfl rfl un3 un5 fun a hk => qe hk) fun a hk => ?_
  refine tqst (.string x0) hk rfl rfl rfl rfl (fun w hs => sm _ rfl hk rfl rfl rfl fun a hk => qe hk) fun a hk => ?_
  refine tqst (.int .i64 x1) hk rfl rfl rfl rfl (fun w hs => sm _ rfl hk rfl rfl rfl fun a hk => qe hk) fun a hk => ?_
  refine tqst (.int .i64 (w64 (x1 + 1))) hk rfl rfl rfl rfl (fun w hs => sv (.int .i64 (w64 (x1 + 1))) hk rfl rfl rfl fun a hk => qe hk) fun a hk => ?_
  rcases ite_some H with ⟨c5, H⟩ | ⟨_, H⟩
  rotate_left
  · cases H
  refine tqst (.int .u8 (byteAt x0 (w64 (x1 + 1)))) hk rfl rfl rfl rfl (fun w hs => six rfl hk rfl rfl rfl rfl un9 c5.1 c5.2 fun a hk => qe hk) fun a hk => ?_
  refine tqst (.int .i64 (IntKind.wrap .i64 (byteAt x0 (w64 (x1 + 1))))) hk rfl rfl rfl rfl (fun w hs => scn rfl hk rfl rfl rfl un3 un5 fun a hk => qe hk) fun a hk => ?_
  refine tqst (.int .i64 (IntKind.wrap .i64 ((IntKind.wrap .i64 (byteAt x0 (w64 (x1 + 1)))) * 2 ^ 8))) hk rfl rfl rfl rfl (fun w hs => sv (.int .i64 (IntKind.wrap .i64 ((IntKind.wrap .i64 (byteAt x0 (w64 (x1 + 1)))) * 2 ^ 8))) hk rfl rfl rfl fun a hk => qe hk) fun a hk => ?_
  refine tqst (.int .i64 (IntKind.wrap .i64 ((BitVec.ofInt 64 (IntKind.wrap .i64 (byteAt x0 x1)) ||| BitVec.ofInt 64 (IntKind.wrap .i64 ((IntKind.wrap .i64 (byteAt x0 (w64 (x1 + 1)))) * 2 ^ 8))).toNat : Int))) hk rfl rfl rfl rfl (fun w hs => sv (.int .i64 (IntKind.wrap .i64 ((BitVec.ofInt 64 (IntKind.wrap .i64 (byteAt x0 x1)) ||| BitVec.ofInt 64 (IntKind.wrap .i64 ((IntKind.wrap .i64 (byteAt x0 (w64 (x1 + 1)))) * 2 ^ 8))).toNat : Int))) hk rfl rfl rfl fun a hk => qe hk) fun a hk => ?_
  refine tqst (.string x0) hk rfl rfl rfl rfl (fun w hs => sm _ rfl hk rfl rfl rfl fun a hk => qe hk) fun a hk => ?_
  refine tqst (.int .i64 x1) hk rfl rfl rfl rfl (fun w hs => sm _ rfl hk rfl rfl rfl fun a hk => qe hk) fun a hk => ?_
  refine tqst (.int .i64 (w64 (x1 + 2))) hk rfl rfl rfl rfl (fun w hs => sv (.int .i64 (w64 (x1 + 2))) hk rfl rfl rfl fun a hk => qe hk) fun a hk => ?_
  rcases ite_some H with ⟨c6, H⟩ | ⟨_, H⟩
  rotate_left
  · cases H
  refine tqst (.int .u8 (byteAt x0 (w64 (x1 + 2)))) hk rfl rfl rfl rfl (fun w hs => six rfl hk rfl rfl rfl rfl un9 c6.1 c6.2 fun a hk => qe hk) fun a hk => ?_
  refine tqst (.int .i64 (IntKind.wrap .i64 (byteAt x0 (w64 (x1 + 2))))) hk rfl rfl rfl rfl (fun w hs => scn rfl hk rfl rfl rfl un3 un5 fun a hk => qe hk) fun a hk => ?_
  refine tqst (.int .i64 (IntKind.wrap .i64 ((IntKind.wrap .i64 (byteAt x0 (w64 (x1 + 2)))) * 2 ^ 16))) hk rfl rfl rfl rfl (fun w hs => sv (.int .i64 (IntKind.wrap .i64 ((IntKind.wrap .i64 (byteAt x0 (w64 (x1 + 2)))) * 2 ^ 16))) hk rfl rfl rfl fun a hk => qe hk) fun a hk => ?_
  refine tqst (.int .i64 (IntKind.wrap .i64 ((BitVec.ofInt 64 (IntKind.wrap .i64 ((BitVec.ofInt 64 (IntKind.wrap .i64 (byteAt x0 x1)) ||| BitVec.ofInt 64 (IntKind.wrap .i64 ((IntKind.wrap .i64 (byteAt x0 (w64 (x1 + 1)))) * 2 ^ 8))).toNat : Int)) ||| BitVec.ofInt 64 (IntKind.wrap .i64 ((IntKind.wrap .i64 (byteAt x0 (w64 (x1 + 2)))) * 2 ^ 16))).toNat : Int))) hk rfl rfl rfl rfl (fun w hs => sv (.int .i64 (IntKind.wrap .i64 ((BitVec.ofInt 64 (IntKind.wrap .i64 ((BitVec.ofInt 64 (IntKind.wrap .i64 (byteAt x0 x1)) ||| BitVec.ofInt 64 (IntKind.wrap .i64 ((IntKind.wrap .i64 (byteAt x0 (w64 (x1 + 1)))) * 2 ^ 8))).toNat : Int)) ||| BitVec.ofInt 64 (IntKind.wrap .i64 ((IntKind.wrap .i64 (byteAt x0 (w64 (x1 + 2)))) * 2 ^ 16))).toNat : Int))) hk rfl rfl rfl fun a hk => qe hk) fun a hk => ?_
  refine tqst (.string x0) hk rfl rfl rfl rfl (fun w hs => sm _ rfl hk rfl rfl rfl fun a hk => qe hk) fun a hk => ?_
  refine tsst hk rfl rfl (fun K_r3_19 hK_r3_19 w hF => ?_) wt_stop
  have hs := hs.f hF
  refine sm _ rfl hk rfl rfl rfl fun a hk => ?_
  refine se (hs.pick [] rfl) hk (hK_r3_19 _ _ ?_)
  refine tsst hk rfl rfl (fun K_r3_20 hK_r3_20 w hF => ?_) wt_stop
  have hs := hs.f hF
  refine sv (.int .i64 (w64 (x1 + 3))) hk rfl rfl rfl fun a hk => ?_
  refine se (hs.pick [] rfl) hk (hK_r3_20 _ _ ?_)
  refine tsst hk rfl rfl (fun K_r3_21 hK_r3_21 w hF => ?_) wt_stop
  have hs := hs.f hF
  rcases ite_some H with ⟨c7, H⟩ | ⟨_, H⟩
  rotate_left
  · cases H
  refine six rfl hk rfl rfl rfl rfl un9 c7.1 c7.2 fun a hk => ?_
  refine se (hs.pick [] rfl) hk (hK_r3_21 _ _ ?_)
  refine tsst hk rfl rfl (fun K_r3_22 hK_r3_22 w hF => ?_) wt_stop
  have hs := hs.f hF
  refine scn rfl hk rfl rfl rfl un3 un5 fun a hk => ?_
  refine se (hs.pick [] rfl) hk (hK_r3_22 _ _ ?_)
  refine tsst hk rfl rfl (fun K_r3_23 hK_r3_23 w hF => ?_) wt_stop
  have hs := hs.f hF
  refine sv (.int .i64 (IntKind.wrap .i64 ((IntKind.wrap .i64 (byteAt x0 (w64 (x1 + 3)))) * 2 ^ 24))) hk rfl rfl rfl fun a hk => ?_
  refine se (hs.pick [] rfl) hk (hK_r3_23 _ _ ?_)
  refine tsst hk rfl rfl (fun K_r3_24 hK_r3_24 w hF => ?_) wt_stop
  have hs := hs.f hF
  refine sv (.int .i64 (IntKind.wrap .i64 ((BitVec.ofInt 64 (IntKind.wrap .i64 ((BitVec.ofInt 64 (IntKind.wrap .i64 ((BitVec.ofInt 64 (IntKind.wrap .i64 (byteAt x0 x1)) ||| BitVec.ofInt 64 (IntKind.wrap .i64 ((IntKind.wrap .i64 (byteAt x0 (w64 (x1 + 1)))) * 2 ^ 8))).toNat : Int)) ||| BitVec.ofInt 64 (IntKind.wrap .i64 ((IntKind.wrap .i64 (byteAt x0 (w64 (x1 + 2)))) * 2 ^ 16))).toNat : Int)) ||| BitVec.ofInt 64 (IntKind.wrap .i64 ((IntKind.wrap .i64 (byteAt x0 (w64 (x1 + 3)))) * 2 ^ 24))).toNat : Int))) hk rfl rfl rfl fun a hk => ?_
  refine se (hs.pick [] rfl) hk (hK_r3_24 _ _ ?_)
  refine tlst hk rfl rfl fun K_r3_25 hK_r3_25 w hF => ?_
  have hs := hs.f hF
  refine sa _ rfl hk rfl rfl rfl fun a hk => ?_
  refine se trivial hk (hK_r3_25 _ _ fun w hF => ?_)
  have hs := hs.f hF
  refine hK2 _ _ ?_
  refine wp_ret ?_
  obtain rfl := Option.some.inj H
  exact fin hk _ [(.int .i64 (IntKind.wrap .i64 ((BitVec.ofInt 64 (IntKind.wrap .i64 ((BitVec.ofInt 64 (IntKind.wrap .i64 ((BitVec.ofInt 64 (IntKind.wrap .i64 (byteAt x0 x1)) ||| BitVec.ofInt 64 (IntKind.wrap .i64 ((IntKind.wrap .i64 (byteAt x0 (w64 (x1 + 1)))) * 2 ^ 8))).toNat : Int)) ||| BitVec.ofInt 64 (IntKind.wrap .i64 ((IntKind.wrap .i64 (byteAt x0 (w64 (x1 + 2)))) * 2 ^ 16))).toNat : Int)) ||| BitVec.ofInt 64 (IntKind.wrap .i64 ((IntKind.wrap .i64 (byteAt x0 (w64 (x1 + 3)))) * 2 ^ 24))).toNat : Int)))] rfl ⟨rfl, trivial⟩ ⟨rfl, (hs.pick [] rfl).dnil⟩

noncomputable def spec_l06ToInts.s0 (x0 : ByteArray) (u15 : List Int) (u14 : Int) : Option (((List Int) × Int) ⊕ Ex ((List Int)) ((List Int) × Bool)) :=
  (bif (decide ((w64 (u14 + 4)) ≤ (x0.size : Int))) then ((spec_l02Word.f x0 u14).bind fun y37 => (if u15.length + ([y37]).length ≤ 1073741824 then (some (.inl ((u15 ++ ([y37])), (w64 (u14 + 4))))) else none)) else (some (.inr (.out u15))))
noncomputable def spec_l06ToInts.f (x0 : ByteArray) : Option ((List Int) × Bool) :=
  ((loopO (fun s => spec_l06ToInts.s0 x0 s.1 s.2) (([] : List Int), 0)).bind fun o => match o with | .out u20 => (some (u20, ((Int.tmod (x0.size : Int) 4) == 0))) | .ret r => (some r))
set_option maxRecDepth 100000 in
set_option maxHeartbeats 0 in
theorem spec_l06ToInts_t (w0 : World) (x0 : ByteArray) (r : (List Int) × Bool) (H : spec_l06ToInts.f x0 = some r) :
    Calls Try.prog 169 #[.string x0] w0 (Ret (fun v w => ∃ (A0 : Option Addr) (p0 : Nat) (k0 : Chunk), v = .tuple #[.slice A0 r.1.length p0, .bool r.2] ∧ Own (Lay.int .i64) 3 A0 p0 r.1 k0 ∧ Sat [] w0 w [] [(0, k0)])) := by
  have hs : Sat [] w0 w0 [] [] := Sat.init w0 [] [] (by simp) (by simp) List.nodup_nil (by simp [blks])
  unfold spec_l06ToInts.f at H
  refine enter Try.func169 rfl Try.ntmps169 rfl fun a hk => ?_
  apply wp_seq_k; intro K1 hK1
  apply wp_region_lit
  refine sa _ rfl hk rfl rfl rfl fun a hk => ?_
  refine sa _ rfl hk rfl rfl rfl fun a hk => ?_
  show wpList _ _ _ [] _ _
  refine wpList_nil ?_
  refine hK1 _ _ ?_
  apply wp_seq_k; intro K2 hK2
  apply wp_region_lit
  refine sbs0 1 (Lay.int .i64) hs rfl hk rfl rfl un31 sz3 fun b3 k4 w a hk o5 hs => ?_
  refine sa _ rfl hk rfl rfl rfl fun a hk => ?_
  show wpList _ _ _ [] _ _
  refine wpList_nil ?_
  refine hK2 _ _ ?_
  apply wp_seq_k; intro K6 hK6
  apply wp_seq_k; intro K7 hK7
  apply wp_region_lit
  refine sa _ rfl hk rfl rfl rfl fun a hk => ?_
  show wpList _ _ _ [] _ _
  refine wpList_nil ?_
  refine hK7 _ _ ?_
  obtain ⟨o25, h26, HL27⟩ := bind_some H
  clear H
  obtain ⟨R28, hR28⟩ : ∃ R : Act → World → Prop, R = fun a w => ∃ (u20 : List Int) (A23 : Option Addr) (p24 : Nat) (k21 : Chunk), o25 = .out u20 ∧ Kn [(0, (.string x0)), (4, (.slice A23 u20.length p24))] 25 a ∧ Sat [] w0 w [] [(1, k21)] ∧ Own (Lay.int .i64) 3 A23 p24 u20 k21 := ⟨_, rfl⟩
  refine wp_cutq R28 ?_ ?_
  · refine wp_block ?_
    obtain ⟨fu30, h26⟩ := loopO_some h26
    obtain ⟨I29, hI29⟩ : ∃ I : Nat → Act → World → Prop, I = fun fu a w => ∃ (u15 : List Int) (u14 : Int) (A18 : Option Addr) (p19 : Nat) (k16 : Chunk), loopN (fun s => spec_l06ToInts.s0 x0 s.1 s.2) fu (u15, u14) = some o25 ∧ Kn [(0, (.string x0)), (4, (.slice A18 u15.length p19)), (5, (.int .i64 u14))] 25 a ∧ Sat [] w0 w [] [(1, k16)] ∧ Own (Lay.int .i64) 3 A18 p19 u15 k16 := ⟨_, rfl⟩
    refine wp_loop_ghost I29 fu30 ?_ ?_
    · rw [hI29]
      exact ⟨([] : List Int), 0, (some ⟨b3, 0, none⟩), 0, _, h26, (hk.c 0 rfl (hk.c 4 rfl (hk.c 5 rfl hk.k))), (hs.pick [(1, 1)] rfl), o5⟩
    · clear h26 hk hs
      intro fu30 a w hI0
      rw [hI29] at hI0
      obtain ⟨u15, u14, A18, p19, k16, hi, hk, hs, o17⟩ := hI0
      obtain ⟨x31, H, h32⟩ := loop_round hi
      try dsimp only at H
      unfold spec_l06ToInts.s0 at H
      apply wp_seq_k; intro K33 hK33
      apply wp_seq_k; intro K34 hK34
      apply wp_region_lit
      refine sm _ rfl hk rfl rfl rfl fun a hk => ?_
      refine sv (.int .i64 (w64 (u14 + 4))) hk rfl rfl rfl fun a hk => ?_
      refine sm _ rfl hk rfl rfl rfl fun a hk => ?_
      refine sles rfl hk rfl rfl rfl un9 fun a hk => ?_
      refine sv (.bool (decide ((w64 (u14 + 4)) ≤ (x0.size : Int)))) hk rfl rfl rfl fun a hk => ?_
      show wpList _ _ _ [] _ _
      refine wpList_nil ?_
      refine hK34 _ _ ?_
      rcases cond_some H with ⟨c35, H⟩ | ⟨c35, H⟩
      · have hk := hk.lit 11 c35 rfl
        refine cnd_true hk rfl rfl ?_
        refine wp_skip ?_
        refine hK33 _ _ ?_
        apply wp_seq_k; intro K36 hK36
        refine wp_block ?_
        apply wp_region_lit
        refine sm _ rfl hk rfl rfl rfl fun a hk => ?_
        refine sm _ rfl hk rfl rfl rfl fun a hk => ?_
        refine sm _ rfl hk rfl rfl rfl fun a hk => ?_
        obtain ⟨y37, h38, H⟩ := bind_some H
        refine sc rfl en189 hk rfl rfl rfl (spec_l02Word_t _ x0 u14 _ h38) ?_
        rintro _ w ⟨rfl, hG⟩ a hk
        have hs := hs.call0 hG
        refine sbs (L := (Lay.int .i64)) (pv := [(0, (.int .i64 y37))]) (xs := [y37]) (ess := [[.int .i64 y37]]) 3 hs rfl hk rfl rfl rfl un31 (bs3_0 y37) (AllOwn.cons0 ⟨rfl, rfl⟩ AllOwn.nil) rfl rfl rfl fun b39 k40 w a hk o41 hs => ?_
        rcases ite_some H with ⟨c42, H⟩ | ⟨_, H⟩
        rotate_left
        · cases H
        refine sap 1 (xs := u15) (ys := [y37]) (flat_flat : ((Lay.int .i64)).Flat) hs rfl o17 o41.view (hs.hasG (k := 3) rfl) rfl hk rfl rfl rfl rfl rfl rfl un31 mk3 rfl rfl rfl c42 fun A43 p44 k45 w a hk o46 hs => ?_
        refine sa _ rfl hk rfl rfl rfl fun a hk => ?_
        show wpList _ _ _ [] _ _
        refine wpList_nil ?_
        refine hK36 _ _ ?_
        apply wp_region_lit
        refine sm _ rfl hk rfl rfl rfl fun a hk => ?_
        refine sv (.int .i64 (w64 (u14 + 4))) hk rfl rfl rfl fun a hk => ?_
        refine sa _ rfl hk rfl rfl rfl fun a hk => ?_
        show wpList _ _ _ [] _ _
        refine wpList_nil ?_
        obtain rfl := Option.some.inj H
        obtain ⟨m47, hmm47, h32⟩ := h32
        show ∃ n', n' < _ ∧ I29 n' _ _
        refine ⟨m47, hmm47, ?_⟩
        rw [hI29]
        exact ⟨(u15 ++ ([y37])), (w64 (u14 + 4)), A43, p44, _, h32, (hk.c 0 rfl (hk.c 4 rfl (hk.c 5 rfl hk.k))), (hs.pick [(1, 1)] rfl), o46⟩
      · have hk := hk.lit 11 c35 rfl
        refine cnd_false hk rfl rfl ?_
        refine wp_exit ?_
        obtain rfl := Option.some.inj H
        show R28 _ _
        rw [hR28]
        exact ⟨u15, A18, p19, _, h32.symm, (hk.c 0 rfl (hk.c 4 rfl hk.k)), (hs.pick [(1, 1)] rfl), o17⟩
  · intro a w hR0
    rw [hR28] at hR0
    obtain ⟨u20, A23, p24, k21, rfl, hk, hs, o22⟩ := hR0
    have H := HL27
    try dsimp only at H
    refine hK6 _ _ ?_
    apply wp_seq_k; intro K48 hK48
    apply wp_region_lit
    refine sm _ rfl hk rfl rfl rfl fun a hk => ?_
    refine sm _ rfl hk rfl rfl rfl fun a hk => ?_
    refine sles rfl hk rfl rfl rfl un9 fun a hk => ?_
    refine sv (.int .i64 (Int.tmod (x0.size : Int) 4)) hk rfl rfl rfl fun a hk => ?_
    refine sv (.bool ((Int.tmod (x0.size : Int) 4) == 0)) hk rfl rfl rfl fun a hk => ?_
    refine sa _ rfl hk rfl rfl rfl fun a hk => ?_
    refine sa _ rfl hk rfl rfl rfl fun a hk => ?_
    show wpList _ _ _ [] _ _
    refine wpList_nil ?_
    refine hK48 _ _ ?_
    refine wp_ret ?_
    obtain rfl := Option.some.inj H
    exact fin hk _ [(.slice A23 u20.length p24), (.bool ((Int.tmod (x0.size : Int) 4) == 0))] rfl ⟨rfl, ⟨rfl, trivial⟩⟩ ⟨A23, p24, _, rfl, o22, (hs.pick [(0, 1)] rfl).dnil⟩

noncomputable def spec_l12Read.f (x0 : ByteArray) (x1 : Int) : Option (S_l12Reader) :=
  ((spec_l06ToInts.f x0).bind fun y3 => (((bif (!y3.2) then (some true) else (some ((y3.1.length : Int) != x1))) : Option (Bool)).bind fun u12 => (bif u12 then (some (⟨([] : List Int), 1⟩ : S_l12Reader)) else (some (⟨y3.1, 0⟩ : S_l12Reader)))))
set_option maxRecDepth 100000 in
set_option maxHeartbeats 0 in
theorem spec_l12Read_t (w0 : World) (x0 : ByteArray) (x1 : Int) (r : S_l12Reader) (H : spec_l12Read.f x0 x1 = some r) :
    Calls Try.prog 131 #[.string x0, .int .i64 x1] w0 (Ret (fun v w => ∃ (bb0 : Nat), ∃ (A0 : Option Addr) (p0 : Nat) (k0 : Chunk), v = .pointer (some ⟨bb0, 0, none⟩) ∧ Own (Lay.int .i64) 3 A0 p0 r.list k0 ∧ Sat [] w0 w [] [(0, [(bb0, .cells #[.slice A0 r.list.length p0, .int .i64 r.at_] 181 (0, 0))]), (1, k0)])) := by
  have hs : Sat [] w0 w0 [] [] := Sat.init w0 [] [] (by simp) (by simp) List.nodup_nil (by simp [blks])
  unfold spec_l12Read.f at H
  refine enter Try.func131 rfl Try.ntmps131 rfl fun a hk => ?_
  apply wp_seq_k; intro K1 hK1
  apply wp_region_lit
  refine sa _ rfl hk rfl rfl rfl fun a hk => ?_
  show wpList _ _ _ [] _ _
  refine wpList_nil ?_
  refine hK1 _ _ ?_
  apply wp_seq_k; intro K2 hK2
  apply wp_region_lit
  refine sm _ rfl hk rfl rfl rfl fun a hk => ?_
  obtain ⟨y3, h4, H⟩ := bind_some H
  refine sc rfl en169 hk rfl rfl rfl (spec_l06ToInts_t _ x0 _ h4) ?_
  rintro _ w ⟨A5, p6, k7, rfl, o8, hG⟩ a hk
  have hs := hs.call0k hG [1] rfl
  refine sm _ rfl hk rfl rfl rfl fun a hk => ?_
  refine sv (.slice A5 y3.1.length p6) hk rfl rfl rfl fun a hk => ?_
  refine sv (.bool y3.2) hk rfl rfl rfl fun a hk => ?_
  refine sa _ rfl hk rfl rfl rfl fun a hk => ?_
  refine sa _ rfl hk rfl rfl rfl fun a hk => ?_
  show wpList _ _ _ [] _ _
  refine wpList_nil ?_
  refine hK2 _ _ ?_
  apply wp_seq_k; intro K9 hK9
  apply wp_seq_k; intro K10 hK10
  obtain ⟨o13, h14, HL15⟩ := bind_some H
  clear H
  obtain ⟨R16, hR16⟩ : ∃ R : Act → World → Prop, R = fun a w => ∃ (u12 : Bool), u12 = o13 ∧ Kn [(5, (.slice A5 y3.1.length p6)), (19, (.bool u12))] 25 a ∧ Sat [] w0 w [] [(1, k7)] := ⟨_, rfl⟩
  refine wp_cutq R16 ?_ ?_
  · have H := h14
    apply wp_region_lit
    refine sm _ rfl hk rfl rfl rfl fun a hk => ?_
    refine sv (.bool (!y3.2)) hk rfl rfl rfl fun a hk => ?_
    refine sm _ rfl hk rfl rfl rfl fun a hk => ?_
    rcases cond_some H with ⟨c17, H⟩ | ⟨c17, H⟩
    · have hk := hk.lit 14 c17 rfl
      refine sk hk rfl rfl rfl fun a hk => ?_
      refine sk hk rfl rfl rfl fun a hk => ?_
      refine sk hk rfl rfl rfl fun a hk => ?_
      refine sk hk rfl rfl rfl fun a hk => ?_
      refine sv (.bool true) hk rfl rfl rfl fun a hk => ?_
      show wpList _ _ _ [] _ _
      refine wpList_nil ?_
      obtain rfl := Option.some.inj H
      show R16 _ _
      rw [hR16]
      exact ⟨true, rfl, (hk.c 5 rfl (hk.c 19 rfl hk.k)), (hs.pick [(1, 1)] rfl)⟩
    · have hk := hk.lit 14 c17 rfl
      refine sm _ rfl hk rfl rfl rfl fun a hk => ?_
      refine sle rfl hk rfl rfl rfl un31 fun a hk => ?_
      refine sm _ rfl hk rfl rfl rfl fun a hk => ?_
      refine sv (.bool ((y3.1.length : Int) != x1)) hk rfl rfl rfl fun a hk => ?_
      refine sv (.bool ((y3.1.length : Int) != x1)) hk rfl rfl rfl fun a hk => ?_
      show wpList _ _ _ [] _ _
      refine wpList_nil ?_
      obtain rfl := Option.some.inj H
      show R16 _ _
      rw [hR16]
      exact ⟨((y3.1.length : Int) != x1), rfl, (hk.c 5 rfl (hk.c 19 rfl hk.k)), (hs.pick [(1, 1)] rfl)⟩
  · intro a w hR0
    rw [hR16] at hR0
    obtain ⟨u12, rfl, hk, hs⟩ := hR0
    have H := HL15
    try dsimp only at H
    refine hK10 _ _ ?_
    rcases cond_some H with ⟨c18, H⟩ | ⟨c18, H⟩
    · have hk := hk.lit 19 c18 rfl
      refine cnd_true hk rfl rfl ?_
      apply wp_seq_k; intro K19 hK19
      apply wp_region_lit
      refine sbd (pv := [(1, (.int .i64 1))]) rfl hk rfl rfl rfl (bd181_1 1) fun a hk => ?_
      refine sbx 3 hs rfl hk rfl rfl rfl rfl fun b20 w a hk hs => ?_
      refine sa _ rfl hk rfl rfl rfl fun a hk => ?_
      show wpList _ _ _ [] _ _
      refine wpList_nil ?_
      refine hK19 _ _ ?_
      refine wp_ret ?_
      obtain rfl := Option.some.inj H
      have hs := hs.addNil 4
      exact fin hk _ [(.pointer (some ⟨b20, 0, none⟩))] rfl ⟨rfl, trivial⟩ ⟨b20, none, 0, [], rfl, Own.nil _ _, (hs.pick [(0, 3), (1, 4)] rfl).dnil⟩
    · have hk := hk.lit 19 c18 rfl
      refine cnd_false hk rfl rfl ?_
      refine wp_skip ?_
      refine hK9 _ _ ?_
      apply wp_seq_k; intro K21 hK21
      apply wp_region_lit
      refine sm _ rfl hk rfl rfl rfl fun a hk => ?_
      refine sbd (pv := [(0, (.slice A5 y3.1.length p6))]) rfl hk rfl rfl rfl (bd181_2 A5 y3.1.length p6) fun a hk => ?_
      refine sbx 5 hs rfl hk rfl rfl rfl rfl fun b22 w a hk hs => ?_
      refine sa _ rfl hk rfl rfl rfl fun a hk => ?_
      show wpList _ _ _ [] _ _
      refine wpList_nil ?_
      refine hK21 _ _ ?_
      refine wp_ret ?_
      obtain rfl := Option.some.inj H
      exact fin hk _ [(.pointer (some ⟨b22, 0, none⟩))] rfl ⟨rfl, trivial⟩ ⟨b22, A5, p6, _, rfl, o8, (hs.pick [(0, 5), (1, 1)] rfl).dnil⟩

noncomputable def spec_l12Reader_next.f (x0 : S_l12Reader) : Option (Int × Int) :=
  (bif (decide (x0.at_ ≥ (x0.list.length : Int))) then (some ((-1), x0.at_)) else (if 0 ≤ (w64 ((w64 (x0.at_ + 1)) - 1)) ∧ (w64 ((w64 (x0.at_ + 1)) - 1)) < (x0.list.length : Int) then (some ((x0.list.getD (w64 ((w64 (x0.at_ + 1)) - 1)).toNat 0), (w64 (x0.at_ + 1)))) else none))
set_option maxRecDepth 100000 in
set_option maxHeartbeats 0 in
theorem spec_l12Reader_next_t (w0 : World) (b0_ : Nat) (x0 : S_l12Reader) (A0_0 : Option Addr) (p0_0 : Nat) (k0_0 : Chunk) (v0_0 : View (Lay.int .i64) A0_0 p0_0 x0.list k0_0) (w0_0 : Has w0 k0_0) (hs0 : Sat (blks [(1, [(b0_, .cells #[.slice A0_0 x0.list.length p0_0, .int .i64 x0.at_] 181 (0, 0))])]) w0 w0 [(2, k0_0)] [(1, [(b0_, .cells #[.slice A0_0 x0.list.length p0_0, .int .i64 x0.at_] 181 (0, 0))])]) (r : Int × Int) (H : spec_l12Reader_next.f x0 = some r) :
    Calls Try.prog 133 #[.pointer (some ⟨b0_, 0, none⟩)] w0 (Ret (fun v w => v = .int .i64 r.1 ∧ Sat (blks [(1, [(b0_, .cells #[.slice A0_0 x0.list.length p0_0, .int .i64 x0.at_] 181 (0, 0))])]) w0 w [] [(0, [(b0_, .cells #[.slice A0_0 x0.list.length p0_0, .int .i64 r.2] 181 (0, 0))])])) := by
  have hs := hs0
  unfold spec_l12Reader_next.f at H
  refine enter Try.func133 rfl Try.ntmps133 rfl fun a hk => ?_
  apply wp_seq_k; intro K1 hK1
  apply wp_region_lit
  refine sa _ rfl hk rfl rfl rfl fun a hk => ?_
  show wpList _ _ _ [] _ _
  refine wpList_nil ?_
  refine hK1 _ _ ?_
  apply wp_seq_k; intro K2 hK2
  apply wp_seq_k; intro K3 hK3
  refine wp_region_tree (.q 0 (.q 1 (.q 2 (.q 3 (.alt 4 (.alt 5 (.alt 6 (.alt 7 (.alt 8 (.alt 9 .done .stop) .stop) .stop) .stop) .stop) .stop))))) mo (by kernel_rfl) (hs.pick [(1, 1)] rfl) fun _ => ?_
  have hs := hs.drew
  refine tqst (.pointer (some ⟨b0_, 0, none⟩)) hk rfl rfl rfl rfl (fun w hs => sm _ rfl hk rfl rfl rfl fun a hk => qe hk) fun a hk => ?_
  refine tqst (.pointer (some ⟨b0_, 0, none⟩)) hk rfl rfl rfl rfl (fun w hs => snk rfl hk rfl rfl rfl fun a hk => qe hk) fun a hk => ?_
  refine tqst (.pointer (some ⟨b0_, 1, none⟩)) hk rfl rfl rfl rfl (fun w hs => sf ⟨b0_, 1, none⟩ rfl hk rfl rfl rfl fd181_1 rfl fun a hk => qe hk) fun a hk => ?_
  refine tqst (.int .i64 x0.at_) hk rfl rfl rfl rfl (fun w hs => sl rfl hk rfl rfl rfl ag3 (box_cell hs (k := 1) rfl rfl) fun a hk => qe hk) fun a hk => ?_
  refine tsst hk rfl rfl (fun K_r4_4 hK_r4_4 w hF => ?_) wt_stop
  have hs := hs.f hF
  refine sm _ rfl hk rfl rfl rfl fun a hk => ?_
  refine se (hs.pick [(1, 1)] rfl) hk (hK_r4_4 _ _ ?_)
  refine tsst hk rfl rfl (fun K_r4_5 hK_r4_5 w hF => ?_) wt_stop
  have hs := hs.f hF
  refine snk rfl hk rfl rfl rfl fun a hk => ?_
  refine se (hs.pick [(1, 1)] rfl) hk (hK_r4_5 _ _ ?_)
  refine tsst hk rfl rfl (fun K_r4_6 hK_r4_6 w hF => ?_) wt_stop
  have hs := hs.f hF
  refine sf ⟨b0_, 0, none⟩ rfl hk rfl rfl rfl fd181_0 rfl fun a hk => ?_
  refine se (hs.pick [(1, 1)] rfl) hk (hK_r4_6 _ _ ?_)
  refine tsst hk rfl rfl (fun K_r4_7 hK_r4_7 w hF => ?_) wt_stop
  have hs := hs.f hF
  refine sl rfl hk rfl rfl rfl ag31 (box_cell hs (k := 1) rfl rfl) fun a hk => ?_
  refine se (hs.pick [(1, 1)] rfl) hk (hK_r4_7 _ _ ?_)
  refine tsst hk rfl rfl (fun K_r4_8 hK_r4_8 w hF => ?_) wt_stop
  have hs := hs.f hF
  refine sle rfl hk rfl rfl rfl un31 fun a hk => ?_
  refine se (hs.pick [(1, 1)] rfl) hk (hK_r4_8 _ _ ?_)
  refine tsst hk rfl rfl (fun K_r4_9 hK_r4_9 w hF => ?_) wt_stop
  have hs := hs.f hF
  refine sv (.bool (decide (x0.at_ ≥ (x0.list.length : Int)))) hk rfl rfl rfl fun a hk => ?_
  refine se (hs.pick [(1, 1)] rfl) hk (hK_r4_9 _ _ ?_)
  refine wtl_nil fun w hF _ => ?_
  have hs := hs.f hF
  refine hK3 _ _ ?_
  rcases cond_some H with ⟨c5, H⟩ | ⟨c5, H⟩
  · have hk := hk.lit 12 c5 rfl
    refine cnd_true hk rfl rfl ?_
    apply wp_seq_k; intro K6 hK6
    apply wp_region_lit
    refine sa _ rfl hk rfl rfl rfl fun a hk => ?_
    show wpList _ _ _ [] _ _
    refine wpList_nil ?_
    refine hK6 _ _ ?_
    refine wp_ret ?_
    obtain rfl := Option.some.inj H
    exact fin hk _ [(.int .i64 (-1))] rfl ⟨rfl, trivial⟩ ⟨rfl, (hs.pick [(0, 1)] rfl).dnil⟩
  · have hk := hk.lit 12 c5 rfl
    refine cnd_false hk rfl rfl ?_
    refine wp_skip ?_
    refine hK2 _ _ ?_
    apply wp_seq_k; intro K7 hK7
    apply wp_region_lit
    refine sm _ rfl hk rfl rfl rfl fun a hk => ?_
    refine snk rfl hk rfl rfl rfl fun a hk => ?_
    refine sf ⟨b0_, 1, none⟩ rfl hk rfl rfl rfl fd181_1 rfl fun a hk => ?_
    refine sl rfl hk rfl rfl rfl ag3 (box_cell hs (k := 1) rfl rfl) fun a hk => ?_
    refine sv (.int .i64 (w64 (x0.at_ + 1))) hk rfl rfl rfl fun a hk => ?_
    refine snk rfl hk rfl rfl rfl fun a hk => ?_
    refine sf ⟨b0_, 1, none⟩ rfl hk rfl rfl rfl fd181_1 rfl fun a hk => ?_
    refine ssx (cs' := #[.slice A0_0 x0.list.length p0_0, .int .i64 (w64 (x0.at_ + 1))]) 1 hs rfl rfl hk rfl rfl rfl rfl sz3 rfl rfl rfl rfl fun w a hk hs => ?_
    show wpList _ _ _ [] _ _
    refine wpList_nil ?_
    refine hK7 _ _ ?_
    apply wp_seq_k; intro K8 hK8
    refine wp_region_tree (.q 0 (.q 1 (.q 2 (.q 3 (.alt 4 (.alt 5 (.alt 6 (.alt 7 (.alt 8 (.alt 9 (.alt 10 (.last 11) .stop) .stop) .stop) .stop) .stop) .stop) .stop))))) mo (by kernel_rfl) (hs.pick [(1, 1)] rfl) fun _ => ?_
    have hs := hs.drew
    refine tqst (.pointer (some ⟨b0_, 0, none⟩)) hk rfl rfl rfl rfl (fun w hs => sm _ rfl hk rfl rfl rfl fun a hk => qe hk) fun a hk => ?_
    refine tqst (.pointer (some ⟨b0_, 0, none⟩)) hk rfl rfl rfl rfl (fun w hs => snk rfl hk rfl rfl rfl fun a hk => qe hk) fun a hk => ?_
    refine tqst (.pointer (some ⟨b0_, 0, none⟩)) hk rfl rfl rfl rfl (fun w hs => sf ⟨b0_, 0, none⟩ rfl hk rfl rfl rfl fd181_0 rfl fun a hk => qe hk) fun a hk => ?_
    refine tqst (.slice A0_0 x0.list.length p0_0) hk rfl rfl rfl rfl (fun w hs => sl rfl hk rfl rfl rfl ag31 (box_cell hs (k := 1) rfl rfl) fun a hk => qe hk) fun a hk => ?_
    refine tsst hk rfl rfl (fun K_r9_4 hK_r9_4 w hF => ?_) wt_stop
    have hs := hs.f hF
    refine sm _ rfl hk rfl rfl rfl fun a hk => ?_
    refine se (hs.pick [(1, 1)] rfl) hk (hK_r9_4 _ _ ?_)
    refine tsst hk rfl rfl (fun K_r9_5 hK_r9_5 w hF => ?_) wt_stop
    have hs := hs.f hF
    refine snk rfl hk rfl rfl rfl fun a hk => ?_
    refine se (hs.pick [(1, 1)] rfl) hk (hK_r9_5 _ _ ?_)
    refine tsst hk rfl rfl (fun K_r9_6 hK_r9_6 w hF => ?_) wt_stop
    have hs := hs.f hF
    refine sf ⟨b0_, 1, none⟩ rfl hk rfl rfl rfl fd181_1 rfl fun a hk => ?_
    refine se (hs.pick [(1, 1)] rfl) hk (hK_r9_6 _ _ ?_)
    refine tsst hk rfl rfl (fun K_r9_7 hK_r9_7 w hF => ?_) wt_stop
    have hs := hs.f hF
    refine sl rfl hk rfl rfl rfl ag3 (box_cell hs (k := 1) rfl rfl) fun a hk => ?_
    refine se (hs.pick [(1, 1)] rfl) hk (hK_r9_7 _ _ ?_)
    refine tsst hk rfl rfl (fun K_r9_8 hK_r9_8 w hF => ?_) wt_stop
    have hs := hs.f hF
    refine sv (.int .i64 (w64 ((w64 (x0.at_ + 1)) - 1))) hk rfl rfl rfl fun a hk => ?_
    refine se (hs.pick [(1, 1)] rfl) hk (hK_r9_8 _ _ ?_)
    refine tsst hk rfl rfl (fun K_r9_9 hK_r9_9 w hF => ?_) wt_stop
    have hs := hs.f hF
    rcases ite_some H with ⟨c10, H⟩ | ⟨_, H⟩
    rotate_left
    · cases H
    obtain ⟨b11, q12, hAc10⟩ := (v0_0).some_ (w64 ((w64 (x0.at_ + 1)) - 1)) c10.1 c10.2
    refine si rfl hk rfl rfl rfl rfl un31 sz3 c10.1 c10.2 hAc10 fun a hk => ?_
    refine se (hs.pick [(1, 1)] rfl) hk (hK_r9_9 _ _ ?_)
    refine tsst hk rfl rfl (fun K_r9_10 hK_r9_10 w hF => ?_) wt_stop
    have hs := hs.f hF
    obtain ⟨_, rfl, e13⟩ := (v0_0).at_ 0 (w64 ((w64 (x0.at_ + 1)) - 1)) c10.1 c10.2
    refine sl (v := (.int .i64 (x0.list.getD (w64 ((w64 (x0.at_ + 1)) - 1)).toNat 0))) rfl hk rfl rfl rfl ag3 ((e13 0 _ rfl).cell (hs.hasD (k := 2) rfl)) fun a hk => ?_
    refine se (hs.pick [(1, 1)] rfl) hk (hK_r9_10 _ _ ?_)
    refine tlst hk rfl rfl fun K_r9_11 hK_r9_11 w hF => ?_
    have hs := hs.f hF
    refine sa _ rfl hk rfl rfl rfl fun a hk => ?_
    refine se trivial hk (hK_r9_11 _ _ fun w hF => ?_)
    have hs := hs.f hF
    refine hK8 _ _ ?_
    refine wp_ret ?_
    obtain rfl := Option.some.inj H
    exact fin hk _ [(.int .i64 (x0.list.getD (w64 ((w64 (x0.at_ + 1)) - 1)).toNat 0))] rfl ⟨rfl, trivial⟩ ⟨rfl, (hs.pick [(0, 1)] rfl).dnil⟩

noncomputable def spec_l12Reader_count.f (x0 : S_l12Reader) (x1 : Int) : Option (Int × Int) :=
  ((spec_l12Reader_next.f x0).bind fun y3 => ((spec_l01In.f y3.1 0 x1).bind fun y7 => (bif (!y7) then (some (0, (w64 ((x0.list.length : Int) + 1)))) else (some (y3.1, y3.2)))))
set_option maxRecDepth 100000 in
set_option maxHeartbeats 0 in
theorem spec_l12Reader_count_t (w0 : World) (b0_ : Nat) (x0 : S_l12Reader) (A0_0 : Option Addr) (p0_0 : Nat) (k0_0 : Chunk) (v0_0 : View (Lay.int .i64) A0_0 p0_0 x0.list k0_0) (w0_0 : Has w0 k0_0) (x1 : Int) (hs0 : Sat (blks [(1, [(b0_, .cells #[.slice A0_0 x0.list.length p0_0, .int .i64 x0.at_] 181 (0, 0))])]) w0 w0 [(2, k0_0)] [(1, [(b0_, .cells #[.slice A0_0 x0.list.length p0_0, .int .i64 x0.at_] 181 (0, 0))])]) (r : Int × Int) (H : spec_l12Reader_count.f x0 x1 = some r) :
    Calls Try.prog 132 #[.pointer (some ⟨b0_, 0, none⟩), .int .i64 x1] w0 (Ret (fun v w => v = .int .i64 r.1 ∧ Sat (blks [(1, [(b0_, .cells #[.slice A0_0 x0.list.length p0_0, .int .i64 x0.at_] 181 (0, 0))])]) w0 w [] [(0, [(b0_, .cells #[.slice A0_0 x0.list.length p0_0, .int .i64 r.2] 181 (0, 0))])])) := by
  have hs := hs0
  unfold spec_l12Reader_count.f at H
  refine enter Try.func132 rfl Try.ntmps132 rfl fun a hk => ?_
  apply wp_seq_k; intro K1 hK1
  apply wp_region_lit
  refine sa _ rfl hk rfl rfl rfl fun a hk => ?_
  show wpList _ _ _ [] _ _
  refine wpList_nil ?_
  refine hK1 _ _ ?_
  apply wp_seq_k; intro K2 hK2
  apply wp_region_lit
  refine sm _ rfl hk rfl rfl rfl fun a hk => ?_
  obtain ⟨y3, h4, H⟩ := bind_some H
  refine sc rfl en133 hk rfl rfl rfl (spec_l12Reader_next_t _ b0_ x0 A0_0 p0_0 _ v0_0 (hs.hasD (k := 2) rfl) ((hs.hand [(1, 1)] rfl).dpick [(2, 2)] rfl) _ h4) ?_
  rintro _ w ⟨rfl, hG⟩ a hk
  have hs := hs.back [(1, 1)] rfl hG [1] rfl
  refine sa _ rfl hk rfl rfl rfl fun a hk => ?_
  show wpList _ _ _ [] _ _
  refine wpList_nil ?_
  refine hK2 _ _ ?_
  apply wp_seq_k; intro K5 hK5
  apply wp_seq_k; intro K6 hK6
  apply wp_region_lit
  refine sm _ rfl hk rfl rfl rfl fun a hk => ?_
  refine sm _ rfl hk rfl rfl rfl fun a hk => ?_
  obtain ⟨y7, h8, H⟩ := bind_some H
  refine sc rfl en81 hk rfl rfl rfl (spec_l01In_t _ y3.1 0 x1 _ h8) ?_
  rintro _ w ⟨rfl, hG⟩ a hk
  have hs := hs.call0 hG
  refine sv (.bool (!y7)) hk rfl rfl rfl fun a hk => ?_
  show wpList _ _ _ [] _ _
  refine wpList_nil ?_
  refine hK6 _ _ ?_
  rcases cond_some H with ⟨c9, H⟩ | ⟨c9, H⟩
  · have hk := hk.lit 11 c9 rfl
    refine cnd_true hk rfl rfl ?_
    apply wp_seq_k; intro K10 hK10
    apply wp_region_lit
    refine sm _ rfl hk rfl rfl rfl fun a hk => ?_
    refine sm _ rfl hk rfl rfl rfl fun a hk => ?_
    refine snk rfl hk rfl rfl rfl fun a hk => ?_
    refine sf ⟨b0_, 0, none⟩ rfl hk rfl rfl rfl fd181_0 rfl fun a hk => ?_
    refine sl rfl hk rfl rfl rfl ag31 (box_cell hs (k := 1) rfl rfl) fun a hk => ?_
    refine sle rfl hk rfl rfl rfl un31 fun a hk => ?_
    refine sv (.int .i64 (w64 ((x0.list.length : Int) + 1))) hk rfl rfl rfl fun a hk => ?_
    refine snk rfl hk rfl rfl rfl fun a hk => ?_
    refine sf ⟨b0_, 1, none⟩ rfl hk rfl rfl rfl fd181_1 rfl fun a hk => ?_
    refine ssx (cs' := #[.slice A0_0 x0.list.length p0_0, .int .i64 (w64 ((x0.list.length : Int) + 1))]) 1 hs rfl rfl hk rfl rfl rfl rfl sz3 rfl rfl rfl rfl fun w a hk hs => ?_
    show wpList _ _ _ [] _ _
    refine wpList_nil ?_
    refine hK10 _ _ ?_
    apply wp_seq_k; intro K11 hK11
    apply wp_region_lit
    refine sa _ rfl hk rfl rfl rfl fun a hk => ?_
    show wpList _ _ _ [] _ _
    refine wpList_nil ?_
    refine hK11 _ _ ?_
    refine wp_ret ?_
    obtain rfl := Option.some.inj H
    exact fin hk _ [(.int .i64 0)] rfl ⟨rfl, trivial⟩ ⟨rfl, (hs.pick [(0, 1)] rfl).dnil⟩
  · have hk := hk.lit 11 c9 rfl
    refine cnd_false hk rfl rfl ?_
    refine wp_skip ?_
    refine hK5 _ _ ?_
    apply wp_seq_k; intro K12 hK12
    apply wp_region_lit
    refine sm _ rfl hk rfl rfl rfl fun a hk => ?_
    refine sa _ rfl hk rfl rfl rfl fun a hk => ?_
    show wpList _ _ _ [] _ _
    refine wpList_nil ?_
    refine hK12 _ _ ?_
    refine wp_ret ?_
    obtain rfl := Option.some.inj H
    exact fin hk _ [(.int .i64 y3.1)] rfl ⟨rfl, trivial⟩ ⟨rfl, (hs.pick [(0, 1)] rfl).dnil⟩

noncomputable def spec_l12Reader_rest.s0 (x0 : S_l12Reader) (u6 : Int) : Option ((Int) ⊕ Ex (Unit) (Bool × Int)) :=
  (bif (decide (u6 < (x0.list.length : Int))) then (if 0 ≤ u6 ∧ u6 < (x0.list.length : Int) then (bif ((x0.list.getD u6.toNat 0) != 0) then (some (.inr (.ret (false, x0.at_)))) else (some (.inl (w64 (u6 + 1))))) else none) else (some (.inr (.out ()))))
noncomputable def spec_l12Reader_rest.f (x0 : S_l12Reader) : Option (Bool × Int) :=
  ((loopO (fun s => spec_l12Reader_rest.s0 x0 s) x0.at_).bind fun o => match o with | .out _ => (some ((decide (x0.at_ ≤ (x0.list.length : Int))), x0.at_)) | .ret r => (some r))
set_option maxRecDepth 100000 in
set_option maxHeartbeats 0 in
theorem spec_l12Reader_rest_t (w0 : World) (b0_ : Nat) (x0 : S_l12Reader) (A0_0 : Option Addr) (p0_0 : Nat) (k0_0 : Chunk) (v0_0 : View (Lay.int .i64) A0_0 p0_0 x0.list k0_0) (w0_0 : Has w0 k0_0) (hs0 : Sat (blks [(1, [(b0_, .cells #[.slice A0_0 x0.list.length p0_0, .int .i64 x0.at_] 181 (0, 0))])]) w0 w0 [(2, k0_0)] [(1, [(b0_, .cells #[.slice A0_0 x0.list.length p0_0, .int .i64 x0.at_] 181 (0, 0))])]) (r : Bool × Int) (H : spec_l12Reader_rest.f x0 = some r) :
    Calls Try.prog 134 #[.pointer (some ⟨b0_, 0, none⟩)] w0 (Ret (fun v w => v = .bool r.1 ∧ Sat (blks [(1, [(b0_, .cells #[.slice A0_0 x0.list.length p0_0, .int .i64 x0.at_] 181 (0, 0))])]) w0 w [] [(0, [(b0_, .cells #[.slice A0_0 x0.list.length p0_0, .int .i64 r.2] 181 (0, 0))])])) := by
  have hs := hs0
  unfold spec_l12Reader_rest.f at H
  refine enter Try.func134 rfl Try.ntmps134 rfl fun a hk => ?_
  apply wp_seq_k; intro K1 hK1
  apply wp_region_lit
  refine sa _ rfl hk rfl rfl rfl fun a hk => ?_
  show wpList _ _ _ [] _ _
  refine wpList_nil ?_
  refine hK1 _ _ ?_
  apply wp_seq_k; intro K2 hK2
  apply wp_seq_k; intro K3 hK3
  apply wp_region_lit
  refine sm _ rfl hk rfl rfl rfl fun a hk => ?_
  refine snk rfl hk rfl rfl rfl fun a hk => ?_
  refine sf ⟨b0_, 1, none⟩ rfl hk rfl rfl rfl fd181_1 rfl fun a hk => ?_
  refine sl rfl hk rfl rfl rfl ag3 (box_cell hs (k := 1) rfl rfl) fun a hk => ?_
  refine sa _ rfl hk rfl rfl rfl fun a hk => ?_
  show wpList _ _ _ [] _ _
  refine wpList_nil ?_
  refine hK3 _ _ ?_
  obtain ⟨o7, h8, HL9⟩ := bind_some H
  clear H
  obtain ⟨R10, hR10⟩ : ∃ R : Act → World → Prop, R = fun a w => o7 = .out () ∧ Kn [(0, (.pointer (some ⟨b0_, 0, none⟩)))] 35 a ∧ Sat (blks [(1, [(b0_, .cells #[.slice A0_0 x0.list.length p0_0, .int .i64 x0.at_] 181 (0, 0))])]) w0 w [(2, k0_0)] [(1, [(b0_, .cells #[.slice A0_0 x0.list.length p0_0, .int .i64 x0.at_] 181 (0, 0))])] := ⟨_, rfl⟩
  refine wp_cutq R10 ?_ ?_
  · refine wp_block ?_
    obtain ⟨fu12, h8⟩ := loopO_some h8
    obtain ⟨I11, hI11⟩ : ∃ I : Nat → Act → World → Prop, I = fun fu a w => ∃ (u6 : Int), loopN (fun s => spec_l12Reader_rest.s0 x0 s) fu u6 = some o7 ∧ Kn [(0, (.pointer (some ⟨b0_, 0, none⟩))), (3, (.int .i64 u6))] 35 a ∧ Sat (blks [(1, [(b0_, .cells #[.slice A0_0 x0.list.length p0_0, .int .i64 x0.at_] 181 (0, 0))])]) w0 w [(2, k0_0)] [(1, [(b0_, .cells #[.slice A0_0 x0.list.length p0_0, .int .i64 x0.at_] 181 (0, 0))])] := ⟨_, rfl⟩
    refine wp_loop_ghost I11 fu12 ?_ ?_
    · rw [hI11]
      exact ⟨x0.at_, h8, (hk.c 0 rfl (hk.c 3 rfl hk.k)), (hs.pick [(1, 1)] rfl)⟩
    · clear h8 hk hs
      intro fu12 a w hI0
      rw [hI11] at hI0
      obtain ⟨u6, hi, hk, hs⟩ := hI0
      obtain ⟨x13, H, h14⟩ := loop_round hi
      try dsimp only at H
      unfold spec_l12Reader_rest.s0 at H
      apply wp_seq_k; intro K15 hK15
      apply wp_seq_k; intro K16 hK16
      apply wp_region_lit
      refine sm _ rfl hk rfl rfl rfl fun a hk => ?_
      refine sm _ rfl hk rfl rfl rfl fun a hk => ?_
      refine snk rfl hk rfl rfl rfl fun a hk => ?_
      refine sf ⟨b0_, 0, none⟩ rfl hk rfl rfl rfl fd181_0 rfl fun a hk => ?_
      refine sl rfl hk rfl rfl rfl ag31 (box_cell hs (k := 1) rfl rfl) fun a hk => ?_
      refine sle rfl hk rfl rfl rfl un31 fun a hk => ?_
      refine sv (.bool (decide (u6 < (x0.list.length : Int)))) hk rfl rfl rfl fun a hk => ?_
      show wpList _ _ _ [] _ _
      refine wpList_nil ?_
      refine hK16 _ _ ?_
      rcases cond_some H with ⟨c17, H⟩ | ⟨c17, H⟩
      · have hk := hk.lit 14 c17 rfl
        refine cnd_true hk rfl rfl ?_
        refine wp_skip ?_
        refine hK15 _ _ ?_
        apply wp_seq_k; intro K18 hK18
        refine wp_block ?_
        apply wp_seq_k; intro K19 hK19
        apply wp_region_lit
        refine sm _ rfl hk rfl rfl rfl fun a hk => ?_
        refine snk rfl hk rfl rfl rfl fun a hk => ?_
        refine sf ⟨b0_, 0, none⟩ rfl hk rfl rfl rfl fd181_0 rfl fun a hk => ?_
        refine sl rfl hk rfl rfl rfl ag31 (box_cell hs (k := 1) rfl rfl) fun a hk => ?_
        refine sm _ rfl hk rfl rfl rfl fun a hk => ?_
        rcases ite_some H with ⟨c20, H⟩ | ⟨_, H⟩
        rotate_left
        · cases H
        obtain ⟨b21, q22, hAc20⟩ := (v0_0).some_ u6 c20.1 c20.2
        refine si rfl hk rfl rfl rfl rfl un31 sz3 c20.1 c20.2 hAc20 fun a hk => ?_
        obtain ⟨_, rfl, e23⟩ := (v0_0).at_ 0 u6 c20.1 c20.2
        refine sl (v := (.int .i64 (x0.list.getD u6.toNat 0))) rfl hk rfl rfl rfl ag3 ((e23 0 _ rfl).cell (hs.hasD (k := 2) rfl)) fun a hk => ?_
        refine sv (.bool ((x0.list.getD u6.toNat 0) != 0)) hk rfl rfl rfl fun a hk => ?_
        show wpList _ _ _ [] _ _
        refine wpList_nil ?_
        refine hK19 _ _ ?_
        rcases cond_some H with ⟨c24, H⟩ | ⟨c24, H⟩
        · have hk := hk.lit 24 c24 rfl
          refine cnd_true hk rfl rfl ?_
          apply wp_seq_k; intro K25 hK25
          apply wp_region_lit
          refine sa _ rfl hk rfl rfl rfl fun a hk => ?_
          show wpList _ _ _ [] _ _
          refine wpList_nil ?_
          refine hK25 _ _ ?_
          refine wp_ret ?_
          obtain rfl := Option.some.inj H
          have ho7 := h14
          try dsimp only at ho7
          subst ho7
          have H := HL9
          try dsimp only at H
          obtain rfl := Option.some.inj H
          exact fin hk _ [(.bool false)] rfl ⟨rfl, trivial⟩ ⟨rfl, (hs.pick [(0, 1)] rfl).dnil⟩
        · have hk := hk.lit 24 c24 rfl
          refine cnd_false hk rfl rfl ?_
          refine wp_skip ?_
          refine hK18 _ _ ?_
          apply wp_region_lit
          refine sm _ rfl hk rfl rfl rfl fun a hk => ?_
          refine sv (.int .i64 (w64 (u6 + 1))) hk rfl rfl rfl fun a hk => ?_
          refine sa _ rfl hk rfl rfl rfl fun a hk => ?_
          show wpList _ _ _ [] _ _
          refine wpList_nil ?_
          obtain rfl := Option.some.inj H
          obtain ⟨m26, hmm26, h14⟩ := h14
          show ∃ n', n' < _ ∧ I11 n' _ _
          refine ⟨m26, hmm26, ?_⟩
          rw [hI11]
          exact ⟨(w64 (u6 + 1)), h14, (hk.c 0 rfl (hk.c 3 rfl hk.k)), (hs.pick [(1, 1)] rfl)⟩
      · have hk := hk.lit 14 c17 rfl
        refine cnd_false hk rfl rfl ?_
        refine wp_exit ?_
        obtain rfl := Option.some.inj H
        show R10 _ _
        rw [hR10]
        exact ⟨h14.symm, (hk.c 0 rfl hk.k), (hs.pick [(1, 1)] rfl)⟩
  · intro a w hR0
    rw [hR10] at hR0
    obtain ⟨rfl, hk, hs⟩ := hR0
    have H := HL9
    try dsimp only at H
    refine hK2 _ _ ?_
    apply wp_seq_k; intro K27 hK27
    refine wp_region_tree (.q 0 (.q 1 (.q 2 (.q 3 (.alt 4 (.alt 5 (.alt 6 (.alt 7 (.alt 8 (.alt 9 (.last 10) .stop) .stop) .stop) .stop) .stop) .stop))))) mo (by kernel_rfl) (hs.pick [(1, 1)] rfl) fun _ => ?_
    have hs := hs.drew
    refine tqst (.pointer (some ⟨b0_, 0, none⟩)) hk rfl rfl rfl rfl (fun w hs => sm _ rfl hk rfl rfl rfl fun a hk => qe hk) fun a hk => ?_
    refine tqst (.pointer (some ⟨b0_, 0, none⟩)) hk rfl rfl rfl rfl (fun w hs => snk rfl hk rfl rfl rfl fun a hk => qe hk) fun a hk => ?_
    refine tqst (.pointer (some ⟨b0_, 1, none⟩)) hk rfl rfl rfl rfl (fun w hs => sf ⟨b0_, 1, none⟩ rfl hk rfl rfl rfl fd181_1 rfl fun a hk => qe hk) fun a hk => ?_
    refine tqst (.int .i64 x0.at_) hk rfl rfl rfl rfl (fun w hs => sl rfl hk rfl rfl rfl ag3 (box_cell hs (k := 1) rfl rfl) fun a hk => qe hk) fun a hk => ?_
    refine tsst hk rfl rfl (fun K_r28_4 hK_r28_4 w hF => ?_) wt_stop
    have hs := hs.f hF
    refine sm _ rfl hk rfl rfl rfl fun a hk => ?_
    refine se (hs.pick [(1, 1)] rfl) hk (hK_r28_4 _ _ ?_)
    refine tsst hk rfl rfl (fun K_r28_5 hK_r28_5 w hF => ?_) wt_stop
    have hs := hs.f hF
    refine snk rfl hk rfl rfl rfl fun a hk => ?_
    refine se (hs.pick [(1, 1)] rfl) hk (hK_r28_5 _ _ ?_)
    refine tsst hk rfl rfl (fun K_r28_6 hK_r28_6 w hF => ?_) wt_stop
    have hs := hs.f hF
    refine sf ⟨b0_, 0, none⟩ rfl hk rfl rfl rfl fd181_0 rfl fun a hk => ?_
    refine se (hs.pick [(1, 1)] rfl) hk (hK_r28_6 _ _ ?_)
    refine tsst hk rfl rfl (fun K_r28_7 hK_r28_7 w hF => ?_) wt_stop
    have hs := hs.f hF
    refine sl rfl hk rfl rfl rfl ag31 (box_cell hs (k := 1) rfl rfl) fun a hk => ?_
    refine se (hs.pick [(1, 1)] rfl) hk (hK_r28_7 _ _ ?_)
    refine tsst hk rfl rfl (fun K_r28_8 hK_r28_8 w hF => ?_) wt_stop
    have hs := hs.f hF
    refine sle rfl hk rfl rfl rfl un31 fun a hk => ?_
    refine se (hs.pick [(1, 1)] rfl) hk (hK_r28_8 _ _ ?_)
    refine tsst hk rfl rfl (fun K_r28_9 hK_r28_9 w hF => ?_) wt_stop
    have hs := hs.f hF
    refine sv (.bool (decide (x0.at_ ≤ (x0.list.length : Int)))) hk rfl rfl rfl fun a hk => ?_
    refine se (hs.pick [(1, 1)] rfl) hk (hK_r28_9 _ _ ?_)
    refine tlst hk rfl rfl fun K_r28_10 hK_r28_10 w hF => ?_
    have hs := hs.f hF
    refine sa _ rfl hk rfl rfl rfl fun a hk => ?_
    refine se trivial hk (hK_r28_10 _ _ fun w hF => ?_)
    have hs := hs.f hF
    refine hK27 _ _ ?_
    refine wp_ret ?_
    obtain rfl := Option.some.inj H
    exact fin hk _ [(.bool (decide (x0.at_ ≤ (x0.list.length : Int))))] rfl ⟨rfl, trivial⟩ ⟨rfl, (hs.pick [(0, 1)] rfl).dnil⟩

noncomputable def spec_l12ToBucket.s0 (y3 : S_l12Reader) (u26 : List S_Block) (u24 : Int) (u25 : Int) : Option (((List S_Block) × Int × Int) ⊕ Ex ((List S_Block) × Int) ((List S_Block) × Bool)) :=
  (bif (decide (u24 > 0)) then ((spec_l12Reader_next.f (⟨y3.list, u25⟩ : S_l12Reader)).bind fun y50 => ((spec_l12Reader_next.f (⟨y3.list, y50.2⟩ : S_l12Reader)).bind fun y54 => ((spec_l12Reader_next.f (⟨y3.list, y54.2⟩ : S_l12Reader)).bind fun y57 => (if u26.length + ([(⟨y50.1, y54.1, y57.1⟩ : S_Block)]).length ≤ 1073741824 then (some (.inl ((u26 ++ ([(⟨y50.1, y54.1, y57.1⟩ : S_Block)])), (w64 (u24 - 1)), y57.2))) else none)))) else (some (.inr (.out (u26, u25)))))
noncomputable def spec_l12ToBucket.f (x0 : ByteArray) : Option ((List S_Block) × Bool) :=
  ((spec_l12Read.f x0 7).bind fun y3 => ((spec_l12Reader_count.f y3 2).bind fun y16 => ((loopO (fun s => spec_l12ToBucket.s0 y3 s.1 s.2.1 s.2.2) (([] : List S_Block), y16.1, y16.2)).bind fun o => match o with | .out (u31, u36) => ((((spec_l12Reader_rest.f (⟨y3.list, u36⟩ : S_l12Reader)).bind fun y80 => (bif y80.1 then ((spec_l12Blocks.f u31).bind fun y83 => (some (u31, y83))) else (some (u31, false)))) : Option ((List S_Block) × Bool)).bind fun o => match o with | (u70, u75) => (some (u70, u75))) | .ret r => (some r))))
set_option maxRecDepth 100000 in
set_option maxHeartbeats 0 in
theorem spec_l12ToBucket_t (w0 : World) (x0 : ByteArray) (r : (List S_Block) × Bool) (H : spec_l12ToBucket.f x0 = some r) :
    Calls Try.prog 85 #[.string x0] w0 (Ret (fun v w => ∃ (A0 : Option Addr) (p0 : Nat) (k0 : Chunk), v = .tuple #[.slice A0 r.1.length p0, .bool r.2] ∧ Own L_Block 81 A0 p0 r.1 k0 ∧ Sat [] w0 w [] [(0, k0)])) := by
  have hs : Sat [] w0 w0 [] [] := Sat.init w0 [] [] (by simp) (by simp) List.nodup_nil (by simp [blks])
  unfold spec_l12ToBucket.f at H
  refine enter Try.func85 rfl Try.ntmps85 rfl fun a hk => ?_
  apply wp_seq_k; intro K1 hK1
  apply wp_region_lit
  refine sa _ rfl hk rfl rfl rfl fun a hk => ?_
  refine sa _ rfl hk rfl rfl rfl fun a hk => ?_
  show wpList _ _ _ [] _ _
  refine wpList_nil ?_
  refine hK1 _ _ ?_
  apply wp_seq_k; intro K2 hK2
  apply wp_region_lit
  refine sm _ rfl hk rfl rfl rfl fun a hk => ?_
  obtain ⟨y3, h4, H⟩ := bind_some H
  refine sc rfl en131 hk rfl rfl rfl (spec_l12Read_t _ x0 7 _ h4) ?_
  rintro _ w ⟨b5, A6, p7, k8, rfl, o9, hG⟩ a hk
  have hs := hs.call0k hG [1, 2] rfl
  refine sa _ rfl hk rfl rfl rfl fun a hk => ?_
  show wpList _ _ _ [] _ _
  refine wpList_nil ?_
  refine hK2 _ _ ?_
  apply wp_seq_k; intro K10 hK10
  apply wp_region_lit
  refine sbs0 3 L_Block hs rfl hk rfl rfl un26 sz81 fun b11 k12 w a hk o13 hs => ?_
  refine sa _ rfl hk rfl rfl rfl fun a hk => ?_
  show wpList _ _ _ [] _ _
  refine wpList_nil ?_
  refine hK10 _ _ ?_
  apply wp_seq_k; intro K14 hK14
  apply wp_seq_k; intro K15 hK15
  apply wp_region_lit
  refine sm _ rfl hk rfl rfl rfl fun a hk => ?_
  obtain ⟨y16, h17, H⟩ := bind_some H
  refine sc rfl en132 hk rfl rfl rfl (spec_l12Reader_count_t _ b5 y3 A6 p7 _ o9.view (hs.hasG (k := 2) rfl) 2 ((hs.hand [(1, 1)] rfl).dpick [(2, 2)] rfl) _ h17) ?_
  rintro _ w ⟨rfl, hG⟩ a hk
  have hs := hs.back [(1, 1)] rfl hG [1] rfl
  refine sa _ rfl hk rfl rfl rfl fun a hk => ?_
  show wpList _ _ _ [] _ _
  refine wpList_nil ?_
  refine hK15 _ _ ?_
  obtain ⟨o37, h38, HL39⟩ := bind_some H
  clear H
  obtain ⟨R40, hR40⟩ : ∃ R : Act → World → Prop, R = fun a w => ∃ (u31 : List S_Block) (u36 : Int) (A34 : Option Addr) (p35 : Nat) (k32 : Chunk), o37 = .out (u31, u36) ∧ Kn [(4, (.pointer (some ⟨b5, 0, none⟩))), (5, (.slice A34 u31.length p35))] 37 a ∧ Sat [] w0 w [] [(3, k32), (1, [(b5, .cells #[.slice A6 y3.list.length p7, .int .i64 u36] 181 (0, 0))]), (2, k8)] ∧ Own L_Block 81 A34 p35 u31 k32 := ⟨_, rfl⟩
  refine wp_cutq R40 ?_ ?_
  · refine wp_block ?_
    obtain ⟨fu42, h38⟩ := loopO_some h38
    obtain ⟨I41, hI41⟩ : ∃ I : Nat → Act → World → Prop, I = fun fu a w => ∃ (u26 : List S_Block) (u24 : Int) (u25 : Int) (A29 : Option Addr) (p30 : Nat) (k27 : Chunk), loopN (fun s => spec_l12ToBucket.s0 y3 s.1 s.2.1 s.2.2) fu (u26, u24, u25) = some o37 ∧ Kn [(4, (.pointer (some ⟨b5, 0, none⟩))), (5, (.slice A29 u26.length p30)), (6, (.int .i64 u24))] 37 a ∧ Sat [] w0 w [] [(3, k27), (1, [(b5, .cells #[.slice A6 y3.list.length p7, .int .i64 u25] 181 (0, 0))]), (2, k8)] ∧ Own L_Block 81 A29 p30 u26 k27 := ⟨_, rfl⟩
    refine wp_loop_ghost I41 fu42 ?_ ?_
    · rw [hI41]
      exact ⟨([] : List S_Block), y16.1, y16.2, (some ⟨b11, 0, none⟩), 0, _, h38, (hk.c 4 rfl (hk.c 5 rfl (hk.c 6 rfl hk.k))), (hs.pick [(3, 3), (1, 1), (2, 2)] rfl), o13⟩
    · clear h38 hk hs
      intro fu42 a w hI0
      rw [hI41] at hI0
      obtain ⟨u26, u24, u25, A29, p30, k27, hi, hk, hs, o28⟩ := hI0
      obtain ⟨x43, H, h44⟩ := loop_round hi
      try dsimp only at H
      unfold spec_l12ToBucket.s0 at H
      apply wp_seq_k; intro K45 hK45
      apply wp_seq_k; intro K46 hK46
      apply wp_region_lit
      refine sm _ rfl hk rfl rfl rfl fun a hk => ?_
      refine sv (.bool (decide (u24 > 0))) hk rfl rfl rfl fun a hk => ?_
      show wpList _ _ _ [] _ _
      refine wpList_nil ?_
      refine hK46 _ _ ?_
      rcases cond_some H with ⟨c47, H⟩ | ⟨c47, H⟩
      · have hk := hk.lit 14 c47 rfl
        refine cnd_true hk rfl rfl ?_
        refine wp_skip ?_
        refine hK45 _ _ ?_
        apply wp_seq_k; intro K48 hK48
        refine wp_block ?_
        apply wp_seq_k; intro K49 hK49
        apply wp_region_lit
        refine sm _ rfl hk rfl rfl rfl fun a hk => ?_
        obtain ⟨y50, h51, H⟩ := bind_some H
        refine sc rfl en133 hk rfl rfl rfl (spec_l12Reader_next_t _ b5 (⟨y3.list, u25⟩ : S_l12Reader) A6 p7 _ o9.view (hs.hasG (k := 2) rfl) ((hs.hand [(1, 1)] rfl).dpick [(2, 2)] rfl) _ h51) ?_
        rintro _ w ⟨rfl, hG⟩ a hk
        have hs := hs.back [(1, 1)] rfl hG [1] rfl
        refine sbd (pv := [(0, (.int .i64 y50.1))]) rfl hk rfl rfl rfl (bd81_3 y50.1) fun a hk => ?_
        refine salx 5 hs rfl hk rfl rfl ze81 rfl fun b52 w a hk hs => ?_
        refine ssw 5 hs rfl rfl hk rfl rfl rfl rfl sz81 (by simp [Value.oneCell']) rfl fun w a hk hs => ?_
        show wpList _ _ _ [] _ _
        refine wpList_nil ?_
        refine hK49 _ _ ?_
        apply wp_seq_k; intro K53 hK53
        apply wp_region_lit
        refine sm _ rfl hk rfl rfl rfl fun a hk => ?_
        obtain ⟨y54, h55, H⟩ := bind_some H
        refine sc rfl en133 hk rfl rfl rfl (spec_l12Reader_next_t _ b5 (⟨y3.list, y50.2⟩ : S_l12Reader) A6 p7 _ o9.view (hs.hasG (k := 2) rfl) ((hs.hand [(1, 1)] rfl).dpick [(2, 2)] rfl) _ h55) ?_
        rintro _ w ⟨rfl, hG⟩ a hk
        have hs := hs.back [(1, 1)] rfl hG [1] rfl
        refine sf ⟨b52, 1, none⟩ rfl hk rfl rfl rfl fd81_1 rfl fun a hk => ?_
        refine ssx (cs' := #[.int .i64 y50.1, .int .i64 y54.1, .int .i64 0]) 5 hs rfl rfl hk rfl rfl rfl rfl sz3 rfl rfl rfl rfl fun w a hk hs => ?_
        show wpList _ _ _ [] _ _
        refine wpList_nil ?_
        refine hK53 _ _ ?_
        apply wp_seq_k; intro K56 hK56
        apply wp_region_lit
        refine sm _ rfl hk rfl rfl rfl fun a hk => ?_
        obtain ⟨y57, h58, H⟩ := bind_some H
        refine sc rfl en133 hk rfl rfl rfl (spec_l12Reader_next_t _ b5 (⟨y3.list, y54.2⟩ : S_l12Reader) A6 p7 _ o9.view (hs.hasG (k := 2) rfl) ((hs.hand [(1, 1)] rfl).dpick [(2, 2)] rfl) _ h58) ?_
        rintro _ w ⟨rfl, hG⟩ a hk
        have hs := hs.back [(1, 1)] rfl hG [1] rfl
        refine sf ⟨b52, 2, none⟩ rfl hk rfl rfl rfl fd81_2 rfl fun a hk => ?_
        refine ssx (cs' := #[.int .i64 y50.1, .int .i64 y54.1, .int .i64 y57.1]) 5 hs rfl rfl hk rfl rfl rfl rfl sz3 rfl rfl rfl rfl fun w a hk hs => ?_
        show wpList _ _ _ [] _ _
        refine wpList_nil ?_
        refine hK56 _ _ ?_
        apply wp_region_lit
        refine sm _ rfl hk rfl rfl rfl fun a hk => ?_
        refine sln [.int .i64 y50.1, .int .i64 y54.1, .int .i64 y57.1] rfl hk rfl rfl rfl ag81 sz81 (box_cells hs (k := 5) rfl) fun a hk => ?_
        refine sbs (L := L_Block) (pv := [(0, (.agg #[.int .i64 y50.1, .int .i64 y54.1, .int .i64 y57.1]))]) (xs := [(⟨y50.1, y54.1, y57.1⟩ : S_Block)]) (ess := [[.int .i64 y50.1, .int .i64 y54.1, .int .i64 y57.1]]) 6 hs rfl hk rfl rfl rfl un26 (bs81_4 y50.1 y54.1 y57.1) (AllOwn.cons0 ⟨rfl, rfl⟩ AllOwn.nil) rfl rfl rfl fun b59 k60 w a hk o61 hs => ?_
        rcases ite_some H with ⟨c62, H⟩ | ⟨_, H⟩
        rotate_left
        · cases H
        refine sap 3 (xs := u26) (ys := [(⟨y50.1, y54.1, y57.1⟩ : S_Block)]) (flat_flat : (L_Block).Flat) hs rfl o28 o61.view (hs.hasG (k := 6) rfl) rfl hk rfl rfl rfl rfl rfl rfl un26 mk81 rfl rfl rfl c62 fun A63 p64 k65 w a hk o66 hs => ?_
        refine sa _ rfl hk rfl rfl rfl fun a hk => ?_
        show wpList _ _ _ [] _ _
        refine wpList_nil ?_
        refine hK48 _ _ ?_
        apply wp_region_lit
        refine sm _ rfl hk rfl rfl rfl fun a hk => ?_
        refine sv (.int .i64 (w64 (u24 - 1))) hk rfl rfl rfl fun a hk => ?_
        refine sa _ rfl hk rfl rfl rfl fun a hk => ?_
        show wpList _ _ _ [] _ _
        refine wpList_nil ?_
        obtain rfl := Option.some.inj H
        obtain ⟨m67, hmm67, h44⟩ := h44
        show ∃ n', n' < _ ∧ I41 n' _ _
        refine ⟨m67, hmm67, ?_⟩
        rw [hI41]
        exact ⟨(u26 ++ ([(⟨y50.1, y54.1, y57.1⟩ : S_Block)])), (w64 (u24 - 1)), y57.2, A63, p64, _, h44, (hk.c 4 rfl (hk.c 5 rfl (hk.c 6 rfl hk.k))), (hs.pick [(3, 3), (1, 1), (2, 2)] rfl), o66⟩
      · have hk := hk.lit 14 c47 rfl
        refine cnd_false hk rfl rfl ?_
        refine wp_exit ?_
        obtain rfl := Option.some.inj H
        show R40 _ _
        rw [hR40]
        exact ⟨u26, u25, A29, p30, _, h44.symm, (hk.c 4 rfl (hk.c 5 rfl hk.k)), (hs.pick [(3, 3), (1, 1), (2, 2)] rfl), o28⟩
  · intro a w hR0
    rw [hR40] at hR0
    obtain ⟨u31, u36, A34, p35, k32, rfl, hk, hs, o33⟩ := hR0
    have H := HL39
    try dsimp only at H
    refine hK14 _ _ ?_
    apply wp_seq_k; intro K68 hK68
    obtain ⟨o76, h77, HL78⟩ := bind_some H
    clear H
    obtain ⟨R79, hR79⟩ : ∃ R : Act → World → Prop, R = fun a w => ∃ (u70 : List S_Block) (u75 : Bool) (A73 : Option Addr) (p74 : Nat) (k71 : Chunk), (u70, u75) = o76 ∧ Kn [(2, (.slice A73 u70.length p74)), (3, (.bool u75))] 37 a ∧ Sat [] w0 w [] [(3, k71)] ∧ Own L_Block 81 A73 p74 u70 k71 := ⟨_, rfl⟩
    refine wp_cutq R79 ?_ ?_
    · have H := h77
      apply wp_region_lit
      refine sm _ rfl hk rfl rfl rfl fun a hk => ?_
      refine sm _ rfl hk rfl rfl rfl fun a hk => ?_
      obtain ⟨y80, h81, H⟩ := bind_some H
      refine sc rfl en134 hk rfl rfl rfl (spec_l12Reader_rest_t _ b5 (⟨y3.list, u36⟩ : S_l12Reader) A6 p7 _ o9.view (hs.hasG (k := 2) rfl) ((hs.hand [(1, 1)] rfl).dpick [(2, 2)] rfl) _ h81) ?_
      rintro _ w ⟨rfl, hG⟩ a hk
      have hs := hs.back [(1, 1)] rfl hG [1] rfl
      refine sm _ rfl hk rfl rfl rfl fun a hk => ?_
      rcases cond_some H with ⟨c82, H⟩ | ⟨c82, H⟩
      · have hk := hk.lit 33 c82 rfl
        refine sm _ rfl hk rfl rfl rfl fun a hk => ?_
        obtain ⟨y83, h84, H⟩ := bind_some H
        refine sc rfl en53 hk rfl rfl rfl (spec_l12Blocks_t _ A34 p35 u31 _ o33.view (hs.hasG (k := 3) rfl) _ h84) ?_
        rintro _ w ⟨rfl, hG⟩ a hk
        have hs := hs.call0 hG
        refine sv (.bool y83) hk rfl rfl rfl fun a hk => ?_
        refine sa _ rfl hk rfl rfl rfl fun a hk => ?_
        refine sa _ rfl hk rfl rfl rfl fun a hk => ?_
        show wpList _ _ _ [] _ _
        refine wpList_nil ?_
        obtain rfl := Option.some.inj H
        show R79 _ _
        rw [hR79]
        exact ⟨u31, y83, A34, p35, _, rfl, (hk.c 2 rfl (hk.c 3 rfl hk.k)), (hs.pick [(3, 3)] rfl), o33⟩
      · have hk := hk.lit 33 c82 rfl
        refine sk hk rfl rfl rfl fun a hk => ?_
        refine sk hk rfl rfl rfl fun a hk => ?_
        refine sv (.bool false) hk rfl rfl rfl fun a hk => ?_
        refine sa _ rfl hk rfl rfl rfl fun a hk => ?_
        refine sa _ rfl hk rfl rfl rfl fun a hk => ?_
        show wpList _ _ _ [] _ _
        refine wpList_nil ?_
        obtain rfl := Option.some.inj H
        show R79 _ _
        rw [hR79]
        exact ⟨u31, false, A34, p35, _, rfl, (hk.c 2 rfl (hk.c 3 rfl hk.k)), (hs.pick [(3, 3)] rfl), o33⟩
    · intro a w hR0
      rw [hR79] at hR0
      obtain ⟨u70, u75, A73, p74, k71, rfl, hk, hs, o72⟩ := hR0
      have H := HL78
      try dsimp only at H
      refine hK68 _ _ ?_
      refine wp_ret ?_
      obtain rfl := Option.some.inj H
      exact fin hk _ [(.slice A73 u70.length p74), (.bool u75)] rfl ⟨rfl, ⟨rfl, trivial⟩⟩ ⟨A73, p74, _, rfl, o72, (hs.pick [(0, 3)] rfl).dnil⟩

noncomputable def spec_ReadBucket.f (x0 : ByteArray) : Option ((List S_Block) × Int) :=
  (bif (decide ((x0.size : Int) > 65536)) then (some (([] : List S_Block), 2)) else ((spec_l12ToBucket.f x0).bind fun y10 => (bif (!y10.2) then (some (([] : List S_Block), 3)) else (some (y10.1, 0)))))
set_option maxRecDepth 100000 in
set_option maxHeartbeats 0 in
theorem spec_ReadBucket_t (w0 : World) (x0 : ByteArray) (r : (List S_Block) × Int) (H : spec_ReadBucket.f x0 = some r) :
    Calls Try.prog 33 #[.string x0] w0 (Ret (fun v w => ∃ (A0 : Option Addr) (p0 : Nat) (k0 : Chunk), v = .tuple #[.slice A0 r.1.length p0, .int .i64 r.2] ∧ Own L_Block 81 A0 p0 r.1 k0 ∧ Sat [] w0 w [] [(0, k0)])) := by
  have hs : Sat [] w0 w0 [] [] := Sat.init w0 [] [] (by simp) (by simp) List.nodup_nil (by simp [blks])
  unfold spec_ReadBucket.f at H
  refine enter Try.func33 rfl Try.ntmps33 rfl fun a hk => ?_
  apply wp_seq_k; intro K1 hK1
  apply wp_region_lit
  refine sa _ rfl hk rfl rfl rfl fun a hk => ?_
  refine sa _ rfl hk rfl rfl rfl fun a hk => ?_
  show wpList _ _ _ [] _ _
  refine wpList_nil ?_
  refine hK1 _ _ ?_
  apply wp_seq_k; intro K2 hK2
  apply wp_seq_k; intro K3 hK3
  apply wp_region_lit
  refine sm _ rfl hk rfl rfl rfl fun a hk => ?_
  refine sles rfl hk rfl rfl rfl un9 fun a hk => ?_
  refine sv (.bool (decide ((x0.size : Int) > 65536))) hk rfl rfl rfl fun a hk => ?_
  show wpList _ _ _ [] _ _
  refine wpList_nil ?_
  refine hK3 _ _ ?_
  rcases cond_some H with ⟨c4, H⟩ | ⟨c4, H⟩
  · have hk := hk.lit 8 c4 rfl
    refine cnd_true hk rfl rfl ?_
    apply wp_seq_k; intro K5 hK5
    apply wp_region_lit
    refine sbs0 1 L_Block hs rfl hk rfl rfl un26 sz81 fun b6 k7 w a hk o8 hs => ?_
    refine sa _ rfl hk rfl rfl rfl fun a hk => ?_
    refine sa _ rfl hk rfl rfl rfl fun a hk => ?_
    show wpList _ _ _ [] _ _
    refine wpList_nil ?_
    refine hK5 _ _ ?_
    refine wp_ret ?_
    obtain rfl := Option.some.inj H
    exact fin hk _ [(.slice (some ⟨b6, 0, none⟩) 0 0), (.int .i64 2)] rfl ⟨rfl, ⟨rfl, trivial⟩⟩ ⟨(some ⟨b6, 0, none⟩), 0, _, rfl, o8, (hs.pick [(0, 1)] rfl).dnil⟩
  · have hk := hk.lit 8 c4 rfl
    refine cnd_false hk rfl rfl ?_
    refine wp_skip ?_
    refine hK2 _ _ ?_
    apply wp_seq_k; intro K9 hK9
    apply wp_region_lit
    refine sm _ rfl hk rfl rfl rfl fun a hk => ?_
    obtain ⟨y10, h11, H⟩ := bind_some H
    refine sc rfl en85 hk rfl rfl rfl (spec_l12ToBucket_t _ x0 _ h11) ?_
    rintro _ w ⟨A12, p13, k14, rfl, o15, hG⟩ a hk
    have hs := hs.call0k hG [2] rfl
    refine sm _ rfl hk rfl rfl rfl fun a hk => ?_
    refine sv (.slice A12 y10.1.length p13) hk rfl rfl rfl fun a hk => ?_
    refine sv (.bool y10.2) hk rfl rfl rfl fun a hk => ?_
    refine sa _ rfl hk rfl rfl rfl fun a hk => ?_
    refine sa _ rfl hk rfl rfl rfl fun a hk => ?_
    show wpList _ _ _ [] _ _
    refine wpList_nil ?_
    refine hK9 _ _ ?_
    apply wp_seq_k; intro K16 hK16
    apply wp_seq_k; intro K17 hK17
    apply wp_region_lit
    refine sm _ rfl hk rfl rfl rfl fun a hk => ?_
    refine sv (.bool (!y10.2)) hk rfl rfl rfl fun a hk => ?_
    show wpList _ _ _ [] _ _
    refine wpList_nil ?_
    refine hK17 _ _ ?_
    rcases cond_some H with ⟨c18, H⟩ | ⟨c18, H⟩
    · have hk := hk.lit 16 c18 rfl
      refine cnd_true hk rfl rfl ?_
      apply wp_seq_k; intro K19 hK19
      apply wp_region_lit
      refine sbs0 3 L_Block hs rfl hk rfl rfl un26 sz81 fun b20 k21 w a hk o22 hs => ?_
      refine sa _ rfl hk rfl rfl rfl fun a hk => ?_
      refine sa _ rfl hk rfl rfl rfl fun a hk => ?_
      show wpList _ _ _ [] _ _
      refine wpList_nil ?_
      refine hK19 _ _ ?_
      refine wp_ret ?_
      obtain rfl := Option.some.inj H
      exact fin hk _ [(.slice (some ⟨b20, 0, none⟩) 0 0), (.int .i64 3)] rfl ⟨rfl, ⟨rfl, trivial⟩⟩ ⟨(some ⟨b20, 0, none⟩), 0, _, rfl, o22, (hs.pick [(0, 3)] rfl).dnil⟩
    · have hk := hk.lit 16 c18 rfl
      refine cnd_false hk rfl rfl ?_
      refine wp_skip ?_
      refine hK16 _ _ ?_
      apply wp_seq_k; intro K23 hK23
      apply wp_region_lit
      refine sm _ rfl hk rfl rfl rfl fun a hk => ?_
      refine sa _ rfl hk rfl rfl rfl fun a hk => ?_
      refine sa _ rfl hk rfl rfl rfl fun a hk => ?_
      show wpList _ _ _ [] _ _
      refine wpList_nil ?_
      refine hK23 _ _ ?_
      refine wp_ret ?_
      obtain rfl := Option.some.inj H
      exact fin hk _ [(.slice A12 y10.1.length p13), (.int .i64 0)] rfl ⟨rfl, ⟨rfl, trivial⟩⟩ ⟨A12, p13, _, rfl, o15, (hs.pick [(0, 2)] rfl).dnil⟩

noncomputable def slices_IndexFunc_string_string.s0 (l0 : List ByteArray) (q1 : ByteArray → Option (Bool)) (u6 : Int) : Option ((Int) ⊕ Ex (Unit) (Int)) :=
  (bif (decide (u6 < (l0.length : Int))) then (if 0 ≤ u6 ∧ u6 < (l0.length : Int) then ((q1 (l0.getD u6.toNat ByteArray.empty)).bind fun y25 => (bif y25 then (some (.inr (.ret u6))) else (some (.inl (w64 (u6 + 1)))))) else none) else (some (.inr (.out ()))))
noncomputable def slices_IndexFunc_string_string.f (l0 : List ByteArray) (q1 : ByteArray → Option (Bool)) : Option (Int) :=
  ((loopO (fun s => slices_IndexFunc_string_string.s0 l0 q1 s) 0).bind fun o => match o with | .out _ => (some (-1)) | .ret r => (some r))
set_option maxRecDepth 100000 in
set_option maxHeartbeats 0 in
theorem slices_IndexFunc_string_string_t (w0 : World) (A0_ : Option Addr) (p0_ : Nat) (l0 : List ByteArray) (k0_ : Chunk) (v0_ : View Lay.str A0_ p0_ l0 k0_) (w0_ : Has w0 k0_) (f1_ : FuncId) (c1_ : List Value) (e1_ : Enters Try.prog f1_) (q1 : ByteArray → Option (Bool)) (k1_ : Chunk) (t1_ : ∀ w, Has w k1_ → ∀ (z0 : ByteArray) (r : Bool), q1 z0 = some r → Calls Try.prog f1_ (([.string z0] : List Value) ++ c1_).toArray w (Ret (fun v w2 => v = .bool r ∧ Sat [] w w2 [] []))) (w1_ : Has w0 k1_) (r : Int) (H : slices_IndexFunc_string_string.f l0 q1 = some r) :
    Calls Try.prog 190 #[.slice A0_ l0.length p0_, .func (.func f1_) #[] c1_.toArray] w0 (Ret (fun v w => v = .int .i64 r ∧ Sat [] w0 w [] [])) := by
  have hs : Sat [] w0 w0 [(1, k0_), (2, k1_)] [] := Sat.init w0 [(1, k0_), (2, k1_)] [] (by simp only [List.mem_cons, List.not_mem_nil, or_false]; rintro x (rfl | rfl) <;> assumption) (by simp) List.nodup_nil (by simp [blks])
  unfold slices_IndexFunc_string_string.f at H
  refine enter Try.func190 rfl Try.ntmps190 rfl fun a hk => ?_
  apply wp_seq_k; intro K1 hK1
  apply wp_region_lit
  refine sa _ rfl hk rfl rfl rfl fun a hk => ?_
  show wpList _ _ _ [] _ _
  refine wpList_nil ?_
  refine hK1 _ _ ?_
  apply wp_seq_k; intro K2 hK2
  apply wp_seq_k; intro K3 hK3
  apply wp_region_lit
  refine sm _ rfl hk rfl rfl rfl fun a hk => ?_
  refine sle rfl hk rfl rfl rfl un154 fun a hk => ?_
  refine sm _ rfl hk rfl rfl rfl fun a hk => ?_
  show wpList _ _ _ [] _ _
  refine wpList_nil ?_
  refine hK3 _ _ ?_
  obtain ⟨o7, h8, HL9⟩ := bind_some H
  clear H
  obtain ⟨R10, hR10⟩ : ∃ R : Act → World → Prop, R = fun a w => o7 = .out () ∧ Kn [] 19 a ∧ Sat [] w0 w [(1, k0_), (2, k1_)] [] := ⟨_, rfl⟩
  refine wp_cutq R10 ?_ ?_
  · refine wp_block ?_
    obtain ⟨fu12, h8⟩ := loopO_some h8
    obtain ⟨I11, hI11⟩ : ∃ I : Nat → Act → World → Prop, I = fun fu a w => ∃ (u6 : Int), loopN (fun s => slices_IndexFunc_string_string.s0 l0 q1 s) fu u6 = some o7 ∧ Kn [(0, (.slice A0_ l0.length p0_)), (1, (.func (.func f1_) #[] c1_.toArray)), (7, (.int .i64 (l0.length : Int))), (8, (.int .i64 u6))] 19 a ∧ Sat [] w0 w [(1, k0_), (2, k1_)] [] := ⟨_, rfl⟩
    refine wp_loop_ghost I11 fu12 ?_ ?_
    · rw [hI11]
      exact ⟨0, h8, (hk.c 0 rfl (hk.c 1 rfl (hk.c 7 rfl (hk.c 8 rfl hk.k)))), (hs.pick [] rfl)⟩
    · clear h8 hk hs
      intro fu12 a w hI0
      rw [hI11] at hI0
      obtain ⟨u6, hi, hk, hs⟩ := hI0
      obtain ⟨x13, H, h14⟩ := loop_round hi
      try dsimp only at H
      unfold slices_IndexFunc_string_string.s0 at H
      apply wp_seq_k; intro K15 hK15
      apply wp_region_lit
      refine sv (.bool (decide (u6 < (l0.length : Int)))) hk rfl rfl rfl fun a hk => ?_
      show wpList _ _ _ [] _ _
      refine wpList_nil ?_
      refine hK15 _ _ ?_
      apply wp_seq_k; intro K16 hK16
      rcases cond_some H with ⟨c17, H⟩ | ⟨c17, H⟩
      · have hk := hk.lit 9 c17 rfl
        refine cnd_true hk rfl rfl ?_
        refine wp_skip ?_
        refine hK16 _ _ ?_
        apply wp_seq_k; intro K18 hK18
        refine wp_block ?_
        apply wp_seq_k; intro K19 hK19
        apply wp_region_lit
        refine sm _ rfl hk rfl rfl rfl fun a hk => ?_
        refine sa _ rfl hk rfl rfl rfl fun a hk => ?_
        show wpList _ _ _ [] _ _
        refine wpList_nil ?_
        refine hK19 _ _ ?_
        apply wp_seq_k; intro K20 hK20
        apply wp_region_lit
        refine sm _ rfl hk rfl rfl rfl fun a hk => ?_
        refine sm _ rfl hk rfl rfl rfl fun a hk => ?_
        refine sm _ rfl hk rfl rfl rfl fun a hk => ?_
        rcases ite_some H with ⟨c21, H⟩ | ⟨_, H⟩
        rotate_left
        · cases H
        obtain ⟨b22, q23, hAc21⟩ := (v0_).some_ u6 c21.1 c21.2
        refine si rfl hk rfl rfl rfl rfl un154 sz9 c21.1 c21.2 hAc21 fun a hk => ?_
        obtain ⟨_, rfl, e24⟩ := (v0_).at_ ByteArray.empty u6 c21.1 c21.2
        refine sl (v := (.string (l0.getD u6.toNat ByteArray.empty))) rfl hk rfl rfl rfl ag9 ((e24 0 _ rfl).cell (hs.hasD (k := 1) rfl)) fun a hk => ?_
        obtain ⟨y25, h26, H⟩ := bind_some H
        refine scv (vs := ([(.string (l0.getD u6.toNat ByteArray.empty))] : List Value) ++ c1_) rfl rfl e1_ hk rfl rfl rfl (t1_ _ (hs.hasD (k := 2) rfl) (l0.getD u6.toNat ByteArray.empty) _ h26) ?_
        rintro _ w ⟨rfl, hG⟩ a hk
        have hs := hs.call0 hG
        show wpList _ _ _ [] _ _
        refine wpList_nil ?_
        refine hK20 _ _ ?_
        rcases cond_some H with ⟨c27, H⟩ | ⟨c27, H⟩
        · have hk := hk.lit 16 c27 rfl
          refine cnd_true hk rfl rfl ?_
          apply wp_seq_k; intro K28 hK28
          apply wp_region_lit
          refine sm _ rfl hk rfl rfl rfl fun a hk => ?_
          refine sa _ rfl hk rfl rfl rfl fun a hk => ?_
          show wpList _ _ _ [] _ _
          refine wpList_nil ?_
          refine hK28 _ _ ?_
          refine wp_ret ?_
          obtain rfl := Option.some.inj H
          have ho7 := h14
          try dsimp only at ho7
          subst ho7
          have H := HL9
          try dsimp only at H
          obtain rfl := Option.some.inj H
          exact fin hk _ [(.int .i64 u6)] rfl ⟨rfl, trivial⟩ ⟨rfl, (hs.pick [] rfl).dnil⟩
        · have hk := hk.lit 16 c27 rfl
          refine cnd_false hk rfl rfl ?_
          refine wp_skip ?_
          refine hK18 _ _ ?_
          apply wp_region_lit
          refine sv (.int .i64 (w64 (u6 + 1))) hk rfl rfl rfl fun a hk => ?_
          refine sm _ rfl hk rfl rfl rfl fun a hk => ?_
          show wpList _ _ _ [] _ _
          refine wpList_nil ?_
          obtain rfl := Option.some.inj H
          obtain ⟨m29, hmm29, h14⟩ := h14
          show ∃ n', n' < _ ∧ I11 n' _ _
          refine ⟨m29, hmm29, ?_⟩
          rw [hI11]
          exact ⟨(w64 (u6 + 1)), h14, (hk.c 0 rfl (hk.c 1 rfl (hk.c 7 rfl (hk.c 8 rfl hk.k)))), (hs.pick [] rfl)⟩
      · have hk := hk.lit 9 c17 rfl
        refine cnd_false hk rfl rfl ?_
        refine wp_exit ?_
        obtain rfl := Option.some.inj H
        show R10 _ _
        rw [hR10]
        exact ⟨h14.symm, hk.k, (hs.pick [] rfl)⟩
  · intro a w hR0
    rw [hR10] at hR0
    obtain ⟨rfl, hk, hs⟩ := hR0
    have H := HL9
    try dsimp only at H
    refine hK2 _ _ ?_
    apply wp_seq_k; intro K30 hK30
    apply wp_region_lit
    refine sa _ rfl hk rfl rfl rfl fun a hk => ?_
    show wpList _ _ _ [] _ _
    refine wpList_nil ?_
    refine hK30 _ _ ?_
    refine wp_ret ?_
    obtain rfl := Option.some.inj H
    exact fin hk _ [(.int .i64 (-1))] rfl ⟨rfl, trivial⟩ ⟨rfl, (hs.pick [] rfl).dnil⟩

noncomputable def slices_ContainsFunc_string_string.f (l0 : List ByteArray) (q1 : ByteArray → Option (Bool)) : Option (Bool) :=
  ((slices_IndexFunc_string_string.f l0 q1).bind fun y3 => (some (decide (y3 ≥ 0))))
set_option maxRecDepth 100000 in
set_option maxHeartbeats 0 in
theorem slices_ContainsFunc_string_string_t (w0 : World) (A0_ : Option Addr) (p0_ : Nat) (l0 : List ByteArray) (k0_ : Chunk) (v0_ : View Lay.str A0_ p0_ l0 k0_) (w0_ : Has w0 k0_) (f1_ : FuncId) (c1_ : List Value) (e1_ : Enters Try.prog f1_) (q1 : ByteArray → Option (Bool)) (k1_ : Chunk) (t1_ : ∀ w, Has w k1_ → ∀ (z0 : ByteArray) (r : Bool), q1 z0 = some r → Calls Try.prog f1_ (([.string z0] : List Value) ++ c1_).toArray w (Ret (fun v w2 => v = .bool r ∧ Sat [] w w2 [] []))) (w1_ : Has w0 k1_) (r : Bool) (H : slices_ContainsFunc_string_string.f l0 q1 = some r) :
    Calls Try.prog 170 #[.slice A0_ l0.length p0_, .func (.func f1_) #[] c1_.toArray] w0 (Ret (fun v w => v = .bool r ∧ Sat [] w0 w [] [])) := by
  have hs : Sat [] w0 w0 [(1, k0_), (2, k1_)] [] := Sat.init w0 [(1, k0_), (2, k1_)] [] (by simp only [List.mem_cons, List.not_mem_nil, or_false]; rintro x (rfl | rfl) <;> assumption) (by simp) List.nodup_nil (by simp [blks])
  unfold slices_ContainsFunc_string_string.f at H
  refine enter Try.func170 rfl Try.ntmps170 rfl fun a hk => ?_
  apply wp_seq_k; intro K1 hK1
  apply wp_region_lit
  refine sa _ rfl hk rfl rfl rfl fun a hk => ?_
  show wpList _ _ _ [] _ _
  refine wpList_nil ?_
  refine hK1 _ _ ?_
  apply wp_seq_k; intro K2 hK2
  apply wp_region_lit
  refine sm _ rfl hk rfl rfl rfl fun a hk => ?_
  refine sm _ rfl hk rfl rfl rfl fun a hk => ?_
  obtain ⟨y3, h4, H⟩ := bind_some H
  refine sc rfl en190 hk rfl rfl rfl (slices_IndexFunc_string_string_t _ A0_ p0_ l0 _ v0_ (hs.hasD (k := 1) rfl) f1_ c1_ e1_ q1 k1_ t1_ (hs.hasD (k := 2) rfl) _ h4) ?_
  rintro _ w ⟨rfl, hG⟩ a hk
  have hs := hs.call0 hG
  refine sv (.bool (decide (y3 ≥ 0))) hk rfl rfl rfl fun a hk => ?_
  refine sa _ rfl hk rfl rfl rfl fun a hk => ?_
  show wpList _ _ _ [] _ _
  refine wpList_nil ?_
  refine hK2 _ _ ?_
  refine wp_ret ?_
  obtain rfl := Option.some.inj H
  exact fin hk _ [(.bool (decide (y3 ≥ 0)))] rfl ⟨rfl, trivial⟩ ⟨rfl, (hs.pick [] rfl).dnil⟩

noncomputable def impl_areAll_string__c1.f (x0 : ByteArray) (q1 : ByteArray → Option (Bool)) : Option (Bool) :=
  ((q1 x0).bind fun y3 => (some (!y3)))
set_option maxRecDepth 100000 in
set_option maxHeartbeats 0 in
theorem impl_areAll_string__c1_t (w0 : World) (x0 : ByteArray) (b1_ : Nat) (f1_ : FuncId) (c1_ : List Value) (e1_ : Enters Try.prog f1_) (q1 : ByteArray → Option (Bool)) (k1_ : Chunk) (t1_ : ∀ w, Has w k1_ → ∀ (z0 : ByteArray) (r : Bool), q1 z0 = some r → Calls Try.prog f1_ (([.string z0] : List Value) ++ c1_).toArray w (Ret (fun v w2 => v = .bool r ∧ Sat [] w w2 [] []))) (w1_ : Has w0 k1_) (h1_ : Has w0 [(b1_, .cells #[.func (.func f1_) #[] c1_.toArray] 65 (0, 0))]) (r : Bool) (H : impl_areAll_string__c1.f x0 q1 = some r) :
    Calls Try.prog 171 #[.string x0, .pointer (some ⟨b1_, 0, none⟩)] w0 (Ret (fun v w => v = .bool r ∧ Sat [] w0 w [] [])) := by
  have hs : Sat [] w0 w0 [(2, k1_), (1, [(b1_, .cells #[.func (.func f1_) #[] c1_.toArray] 65 (0, 0))])] [] := Sat.init w0 [(2, k1_), (1, [(b1_, .cells #[.func (.func f1_) #[] c1_.toArray] 65 (0, 0))])] [] (by simp only [List.mem_cons, List.not_mem_nil, or_false]; rintro x (rfl | rfl) <;> assumption) (by simp) List.nodup_nil (by simp [blks])
  unfold impl_areAll_string__c1.f at H
  refine enter Try.func171 rfl Try.ntmps171 rfl fun a hk => ?_
  apply wp_seq_k; intro K1 hK1
  apply wp_region_lit
  refine sa _ rfl hk rfl rfl rfl fun a hk => ?_
  show wpList _ _ _ [] _ _
  refine wpList_nil ?_
  refine hK1 _ _ ?_
  apply wp_seq_k; intro K2 hK2
  apply wp_region_lit
  refine sl rfl hk rfl rfl rfl ag65 (box_cellD hs (k := 1) rfl rfl) fun a hk => ?_
  refine sm _ rfl hk rfl rfl rfl fun a hk => ?_
  obtain ⟨y3, h4, H⟩ := bind_some H
  refine scv (vs := ([(.string x0)] : List Value) ++ c1_) rfl rfl e1_ hk rfl rfl rfl (t1_ _ (hs.hasD (k := 2) rfl) x0 _ h4) ?_
  rintro _ w ⟨rfl, hG⟩ a hk
  have hs := hs.call0 hG
  refine sv (.bool (!y3)) hk rfl rfl rfl fun a hk => ?_
  refine sa _ rfl hk rfl rfl rfl fun a hk => ?_
  show wpList _ _ _ [] _ _
  refine wpList_nil ?_
  refine hK2 _ _ ?_
  refine wp_ret ?_
  obtain rfl := Option.some.inj H
  exact fin hk _ [(.bool (!y3))] rfl ⟨rfl, trivial⟩ ⟨rfl, (hs.pick [] rfl).dnil⟩

noncomputable def impl_areAll_string.f (l0 : List ByteArray) (q1 : ByteArray → Option (Bool)) : Option (Bool) :=
  ((slices_ContainsFunc_string_string.f l0 (fun z0 => impl_areAll_string__c1.f z0 q1)).bind fun y4 => (some (!y4)))
set_option maxRecDepth 100000 in
set_option maxHeartbeats 0 in
theorem impl_areAll_string_t (w0 : World) (A0_ : Option Addr) (p0_ : Nat) (l0 : List ByteArray) (k0_ : Chunk) (v0_ : View Lay.str A0_ p0_ l0 k0_) (w0_ : Has w0 k0_) (f1_ : FuncId) (c1_ : List Value) (e1_ : Enters Try.prog f1_) (q1 : ByteArray → Option (Bool)) (k1_ : Chunk) (t1_ : ∀ w, Has w k1_ → ∀ (z0 : ByteArray) (r : Bool), q1 z0 = some r → Calls Try.prog f1_ (([.string z0] : List Value) ++ c1_).toArray w (Ret (fun v w2 => v = .bool r ∧ Sat [] w w2 [] []))) (w1_ : Has w0 k1_) (r : Bool) (H : impl_areAll_string.f l0 q1 = some r) :
    Calls Try.prog 135 #[.slice A0_ l0.length p0_, .func (.func f1_) #[] c1_.toArray] w0 (Ret (fun v w => v = .bool r ∧ Sat [] w0 w [] [])) := by
  have hs : Sat [] w0 w0 [(1, k0_), (2, k1_)] [] := Sat.init w0 [(1, k0_), (2, k1_)] [] (by simp only [List.mem_cons, List.not_mem_nil, or_false]; rintro x (rfl | rfl) <;> assumption) (by simp) List.nodup_nil (by simp [blks])
  unfold impl_areAll_string.f at H
  refine enter Try.func135 rfl Try.ntmps135 rfl fun a hk => ?_
  apply wp_seq_k; intro K1 hK1
  apply wp_region_lit
  refine sbx 3 hs rfl hk rfl rfl rfl rfl fun b2 w a hk hs => ?_
  refine sa _ rfl hk rfl rfl rfl fun a hk => ?_
  show wpList _ _ _ [] _ _
  refine wpList_nil ?_
  refine hK1 _ _ ?_
  apply wp_seq_k; intro K3 hK3
  apply wp_region_lit
  refine sm _ rfl hk rfl rfl rfl fun a hk => ?_
  refine smf (cs := [.pointer (some ⟨b2, 0, none⟩)]) rfl hk rfl rfl rfl fun a hk => ?_
  obtain ⟨y4, h5, H⟩ := bind_some H
  refine sc rfl en170 hk rfl rfl rfl (slices_ContainsFunc_string_string_t _ A0_ p0_ l0 _ v0_ (hs.hasD (k := 1) rfl) 171 [.pointer (some ⟨b2, 0, none⟩)] en171 (fun z0 => impl_areAll_string__c1.f z0 q1) ([(b2, .cells #[.func (.func f1_) #[] c1_.toArray] 65 (0, 0))] ++ k1_) (fun w hz z0 r h => impl_areAll_string__c1_t w z0 _ f1_ c1_ e1_ q1 k1_ t1_ (Has.right hz) (Has.left hz) r h) (Has.app (hs.hasG (k := 3) rfl) (hs.hasD (k := 2) rfl)) _ h5) ?_
  rintro _ w ⟨rfl, hG⟩ a hk
  have hs := hs.call0 hG
  refine sv (.bool (!y4)) hk rfl rfl rfl fun a hk => ?_
  refine sa _ rfl hk rfl rfl rfl fun a hk => ?_
  show wpList _ _ _ [] _ _
  refine wpList_nil ?_
  refine hK3 _ _ ?_
  refine wp_ret ?_
  obtain rfl := Option.some.inj H
  exact fin hk _ [(.bool (!y4))] rfl ⟨rfl, trivial⟩ ⟨rfl, (hs.pick [] rfl).dnil⟩

noncomputable def impl_areShort_c1.f (x0 : ByteArray) : Option (Bool) :=
  (some (decide ((x0.size : Int) ≤ 65536)))
set_option maxRecDepth 100000 in
set_option maxHeartbeats 0 in
theorem impl_areShort_c1_t (w0 : World) (x0 : ByteArray) (r : Bool) (H : impl_areShort_c1.f x0 = some r) :
    Calls Try.prog 136 #[.string x0] w0 (Ret (fun v w => v = .bool r ∧ Sat [] w0 w [] [])) := by
  have hs : Sat [] w0 w0 [] [] := Sat.init w0 [] [] (by simp) (by simp) List.nodup_nil (by simp [blks])
  unfold impl_areShort_c1.f at H
  refine enter Try.func136 rfl Try.ntmps136 rfl fun a hk => ?_
  apply wp_seq_k; intro K1 hK1
  apply wp_region_lit
  refine sa _ rfl hk rfl rfl rfl fun a hk => ?_
  show wpList _ _ _ [] _ _
  refine wpList_nil ?_
  refine hK1 _ _ ?_
  apply wp_seq_k; intro K2 hK2
  apply wp_region_lit
  refine sm _ rfl hk rfl rfl rfl fun a hk => ?_
  refine sles rfl hk rfl rfl rfl un9 fun a hk => ?_
  refine sv (.bool (decide ((x0.size : Int) ≤ 65536))) hk rfl rfl rfl fun a hk => ?_
  refine sa _ rfl hk rfl rfl rfl fun a hk => ?_
  show wpList _ _ _ [] _ _
  refine wpList_nil ?_
  refine hK2 _ _ ?_
  refine wp_ret ?_
  obtain rfl := Option.some.inj H
  exact fin hk _ [(.bool (decide ((x0.size : Int) ≤ 65536)))] rfl ⟨rfl, trivial⟩ ⟨rfl, (hs.pick [] rfl).dnil⟩

noncomputable def impl_areShort.f (l0 : List ByteArray) : Option (Bool) :=
  ((impl_areAll_string.f l0 impl_areShort_c1.f).bind fun y3 => (some y3))
set_option maxRecDepth 100000 in
set_option maxHeartbeats 0 in
theorem impl_areShort_t (w0 : World) (A0_ : Option Addr) (p0_ : Nat) (l0 : List ByteArray) (k0_ : Chunk) (v0_ : View Lay.str A0_ p0_ l0 k0_) (w0_ : Has w0 k0_) (r : Bool) (H : impl_areShort.f l0 = some r) :
    Calls Try.prog 86 #[.slice A0_ l0.length p0_] w0 (Ret (fun v w => v = .bool r ∧ Sat [] w0 w [] [])) := by
  have hs : Sat [] w0 w0 [(1, k0_)] [] := Sat.init w0 [(1, k0_)] [] (by simp only [List.mem_cons, List.not_mem_nil, or_false]; rintro x (rfl) <;> assumption) (by simp) List.nodup_nil (by simp [blks])
  unfold impl_areShort.f at H
  refine enter Try.func86 rfl Try.ntmps86 rfl fun a hk => ?_
  apply wp_seq_k; intro K1 hK1
  apply wp_region_lit
  refine sa _ rfl hk rfl rfl rfl fun a hk => ?_
  show wpList _ _ _ [] _ _
  refine wpList_nil ?_
  refine hK1 _ _ ?_
  apply wp_seq_k; intro K2 hK2
  apply wp_region_lit
  refine sm _ rfl hk rfl rfl rfl fun a hk => ?_
  obtain ⟨y3, h4, H⟩ := bind_some H
  refine sc rfl en135 hk rfl rfl rfl (impl_areAll_string_t _ A0_ p0_ l0 _ v0_ (hs.hasD (k := 1) rfl) 136 [] en136 impl_areShort_c1.f [] (fun w _ z0 r h => impl_areShort_c1_t w z0 r h) (Has.nil _) _ h4) ?_
  rintro _ w ⟨rfl, hG⟩ a hk
  have hs := hs.call0 hG
  refine sa _ rfl hk rfl rfl rfl fun a hk => ?_
  show wpList _ _ _ [] _ _
  refine wpList_nil ?_
  refine hK2 _ _ ?_
  refine wp_ret ?_
  obtain rfl := Option.some.inj H
  exact fin hk _ [(.bool y3)] rfl ⟨rfl, trivial⟩ ⟨rfl, (hs.pick [] rfl).dnil⟩

noncomputable def impl_littleWord.f (x0 : ByteArray) : Option (Int) :=
  (if 0 ≤ (0 : Int) ∧ (0 : Int) < (x0.size : Int) then (if 0 ≤ (1 : Int) ∧ (1 : Int) < (x0.size : Int) then (if 0 ≤ (2 : Int) ∧ (2 : Int) < (x0.size : Int) then (if 0 ≤ (3 : Int) ∧ (3 : Int) < (x0.size : Int) then (some (IntKind.wrap .u32 ((BitVec.ofInt 32 (IntKind.wrap .u32 ((BitVec.ofInt 32 (IntKind.wrap .u32 ((BitVec.ofInt 32 (IntKind.wrap .u32 (byteAt x0 (0 : Int))) ||| BitVec.ofInt 32 (IntKind.wrap .u32 ((IntKind.wrap .u32 (byteAt x0 (1 : Int))) * 2 ^ 8))).toNat : Int)) ||| BitVec.ofInt 32 (IntKind.wrap .u32 ((IntKind.wrap .u32 (byteAt x0 (2 : Int))) * 2 ^ 16))).toNat : Int)) ||| BitVec.ofInt 32 (IntKind.wrap .u32 ((IntKind.wrap .u32 (byteAt x0 (3 : Int))) * 2 ^ 24))).toNat : Int))) else none) else none) else none) else none)
set_option maxRecDepth 100000 in
set_option maxHeartbeats 0 in
theorem impl_littleWord_t (w0 : World) (x0 : ByteArray) (r : Int) (H : impl_littleWord.f x0 = some r) :
    Calls Try.prog 191 #[.string x0] w0 (Ret (fun v w => v = .int .u32 r ∧ Sat [] w0 w [] [])) := by
  have hs : Sat [] w0 w0 [] [] := Sat.init w0 [] [] (by simp) (by simp) List.nodup_nil (by simp [blks])
  unfold impl_littleWord.f at H
  refine enter Try.func191 rfl Try.ntmps191 rfl fun a hk => ?_
  apply wp_seq_k; intro K1 hK1
  apply wp_region_lit
  refine sa _ rfl hk rfl rfl rfl fun a hk => ?_
  show wpList _ _ _ [] _ _
  refine wpList_nil ?_
  refine hK1 _ _ ?_
  apply wp_seq_k; intro K2 hK2
  refine wp_region_tree (.q 0 (.q 1 (.q 2 (.q 3 (.q 4 (.q 5 (.q 6 (.q 7 (.q 8 (.q 9 (.q 10 (.q 11 (.q 12 (.alt 13 (.alt 14 (.alt 15 (.alt 16 (.alt 17 (.last 18) .stop) .stop) .stop) .stop) .stop)))))))))))))) mo (by kernel_rfl) (hs.pick [] rfl) fun _ => ?_
  have hs := hs.drew
  refine tqst (.string x0) hk rfl rfl rfl rfl (fun w hs => sm _ rfl hk rfl rfl rfl fun a hk => qe hk) fun a hk => ?_
  rcases ite_some H with ⟨c4, H⟩ | ⟨_, H⟩
  rotate_left
  · cases H
  refine tqst (.int .u8 (byteAt x0 (0 : Int))) hk rfl rfl rfl rfl (fun w hs => six rfl hk rfl rfl rfl rfl un9 c4.1 c4.2 fun a hk => qe hk) fun a hk => ?_
  refine tqst (.int .u32 (IntKind.wrap .u32 (byteAt x0 (0 : Int)))) hk rfl rfl rfl rfl (fun w hs => scn rfl hk rfl rfl rfl un201 un5 fun a hk => qe hk) fun a hk => ?_
  refine tqst (.string x0) hk rfl rfl rfl rfl (fun w hs => sm _ rfl hk rfl rfl rfl fun a hk => qe hk) fun a hk => ?_
  rcases ite_some H with ⟨c5, H⟩ | ⟨_, H⟩
  rotate_left
  · cases H
  refine tqst (.int .u8 (byteAt x0 (1 : Int))) hk rfl rfl rfl rfl (fun w hs => six rfl hk rfl rfl rfl rfl un9 c5.1 c5.2 fun a hk => qe hk) fun a hk => ?_
  refine tqst (.int .u32 (IntKind.wrap .u32 (byteAt x0 (1 : Int)))) hk rfl rfl rfl rfl (fun w hs => scn rfl hk rfl rfl rfl un201 un5 fun a hk => qe hk) fun a hk => ?_
  refine tqst (.int .u32 (IntKind.wrap .u32 ((IntKind.wrap .u32 (byteAt x0 (1 : Int))) * 2 ^ 8))) hk rfl rfl rfl rfl (fun w hs => sv (.int .u32 (IntKind.wrap .u32 ((IntKind.wrap .u32 (byteAt x0 (1 : Int))) * 2 ^ 8))) hk rfl rfl rfl fun a hk => qe hk) fun a hk => ?_
  refine tqst (.int .u32 (IntKind.wrap .u32 ((BitVec.ofInt 32 (IntKind.wrap .u32 (byteAt x0 (0 : Int))) ||| BitVec.ofInt 32 (IntKind.wrap .u32 ((IntKind.wrap .u32 (byteAt x0 (1 : Int))) * 2 ^ 8))).toNat : Int))) hk rfl rfl rfl rfl (fun w hs => sv (.int .u32 (IntKind.wrap .u32 ((BitVec.ofInt 32 (IntKind.wrap .u32 (byteAt x0 (0 : Int))) ||| BitVec.ofInt 32 (IntKind.wrap .u32 ((IntKind.wrap .u32 (byteAt x0 (1 : Int))) * 2 ^ 8))).toNat : Int))) hk rfl rfl rfl fun a hk => qe hk) fun a hk => ?_
  refine tqst (.string x0) hk rfl rfl rfl rfl (fun w hs => sm _ rfl hk rfl rfl rfl fun a hk => qe hk) fun a hk => ?_
  rcases ite_some H with ⟨c6, H⟩ | ⟨_, H⟩
  rotate_left
  · cases H
  refine tqst (.int .u8 (byteAt x0 (2 : Int))) hk rfl rfl rfl rfl (fun w hs => six rfl hk rfl rfl rfl rfl un9 c6.1 c6.2 fun a hk => qe hk) fun a hk => ?_
  refine tqst (.int .u32 (IntKind.wrap .u32 (byteAt x0 (2 : Int)))) hk rfl rfl rfl rfl (fun w hs => scn rfl hk rfl rfl rfl un201 un5 fun a hk => qe hk) fun a hk => ?_
  refine tqst (.int .u32 (IntKind.wrap .u32 ((IntKind.wrap .u32 (byteAt x0 (2 : Int))) * 2 ^ 16))) hk rfl rfl rfl rfl (fun w hs => sv (.int .u32 (IntKind.wrap .u32 ((IntKind.wrap .u32 (byteAt x0 (2 : Int))) * 2 ^ 16))) hk rfl rfl rfl fun a hk => qe hk) fun a hk => ?_
  refine tqst (.int .u32 (IntKind.wrap .u32 ((BitVec.ofInt 32 (IntKind.wrap .u32 ((BitVec.ofInt 32 (IntKind.wrap .u32 (byteAt x0 (0 : Int))) ||| BitVec.ofInt 32 (IntKind.wrap .u32 ((IntKind.wrap .u32 (byteAt x0 (1 : Int))) * 2 ^ 8))).toNat : Int)) ||| BitVec.ofInt 32 (IntKind.wrap .u32 ((IntKind.wrap .u32 (byteAt x0 (2 : Int))) * 2 ^ 16))).toNat : Int))) hk rfl rfl rfl rfl (fun w hs => sv (.int .u32 (IntKind.wrap .u32 ((BitVec.ofInt 32 (IntKind.wrap .u32 ((BitVec.ofInt 32 (IntKind.wrap .u32 (byteAt x0 (0 : Int))) ||| BitVec.ofInt 32 (IntKind.wrap .u32 ((IntKind.wrap .u32 (byteAt x0 (1 : Int))) * 2 ^ 8))).toNat : Int)) ||| BitVec.ofInt 32 (IntKind.wrap .u32 ((IntKind.wrap .u32 (byteAt x0 (2 : Int))) * 2 ^ 16))).toNat : Int))) hk rfl rfl rfl fun a hk => qe hk) fun a hk => ?_
  refine tsst hk rfl rfl (fun K_r3_13 hK_r3_13 w hF => ?_) wt_stop
  have hs := hs.f hF
  refine sm _ rfl hk rfl rfl rfl fun a hk => ?_
  refine se (hs.pick [] rfl) hk (hK_r3_13 _ _ ?_)
  refine tsst hk rfl rfl (fun K_r3_14 hK_r3_14 w hF => ?_) wt_stop
  have hs := hs.f hF
  rcases ite_some H with ⟨c7, H⟩ | ⟨_, H⟩
  rotate_left
  · cases H
  refine six rfl hk rfl rfl rfl rfl un9 c7.1 c7.2 fun a hk => ?_
  refine se (hs.pick [] rfl) hk (hK_r3_14 _ _ ?_)
  refine tsst hk rfl rfl (fun K_r3_15 hK_r3_15 w hF => ?_) wt_stop
  have hs := hs.f hF
  refine scn rfl hk rfl rfl rfl un201 un5 fun a hk => ?_
  refine se (hs.pick [] rfl) hk (hK_r3_15 _ _ ?_)
  refine tsst hk rfl rfl (fun K_r3_16 hK_r3_16 w hF => ?_) wt_stop
  have hs := hs.f hF
  refine sv (.int .u32 (IntKind.wrap .u32 ((IntKind.wrap .u32 (byteAt x0 (3 : Int))) * 2 ^ 24))) hk rfl rfl rfl fun a hk => ?_
  refine se (hs.pick [] rfl) hk (hK_r3_16 _ _ ?_)
  refine tsst hk rfl rfl (fun K_r3_17 hK_r3_17 w hF => ?_) wt_stop
  have hs := hs.f hF
  refine sv (.int .u32 (IntKind.wrap .u32 ((BitVec.ofInt 32 (IntKind.wrap .u32 ((BitVec.ofInt 32 (IntKind.wrap .u32 ((BitVec.ofInt 32 (IntKind.wrap .u32 (byteAt x0 (0 : Int))) ||| BitVec.ofInt 32 (IntKind.wrap .u32 ((IntKind.wrap .u32 (byteAt x0 (1 : Int))) * 2 ^ 8))).toNat : Int)) ||| BitVec.ofInt 32 (IntKind.wrap .u32 ((IntKind.wrap .u32 (byteAt x0 (2 : Int))) * 2 ^ 16))).toNat : Int)) ||| BitVec.ofInt 32 (IntKind.wrap .u32 ((IntKind.wrap .u32 (byteAt x0 (3 : Int))) * 2 ^ 24))).toNat : Int))) hk rfl rfl rfl fun a hk => ?_
  refine se (hs.pick [] rfl) hk (hK_r3_17 _ _ ?_)
  refine tlst hk rfl rfl fun K_r3_18 hK_r3_18 w hF => ?_
  have hs := hs.f hF
  refine sa _ rfl hk rfl rfl rfl fun a hk => ?_
  refine se trivial hk (hK_r3_18 _ _ fun w hF => ?_)
  have hs := hs.f hF
  refine hK2 _ _ ?_
  refine wp_ret ?_
  obtain rfl := Option.some.inj H
  exact fin hk _ [(.int .u32 (IntKind.wrap .u32 ((BitVec.ofInt 32 (IntKind.wrap .u32 ((BitVec.ofInt 32 (IntKind.wrap .u32 ((BitVec.ofInt 32 (IntKind.wrap .u32 (byteAt x0 (0 : Int))) ||| BitVec.ofInt 32 (IntKind.wrap .u32 ((IntKind.wrap .u32 (byteAt x0 (1 : Int))) * 2 ^ 8))).toNat : Int)) ||| BitVec.ofInt 32 (IntKind.wrap .u32 ((IntKind.wrap .u32 (byteAt x0 (2 : Int))) * 2 ^ 16))).toNat : Int)) ||| BitVec.ofInt 32 (IntKind.wrap .u32 ((IntKind.wrap .u32 (byteAt x0 (3 : Int))) * 2 ^ 24))).toNat : Int)))] rfl ⟨rfl, trivial⟩ ⟨rfl, (hs.pick [] rfl).dnil⟩

noncomputable def impl_textInts.s0 (x0 : ByteArray) (u13 : List Int) (u12 : Int) : Option (((List Int) × Int) ⊕ Ex ((List Int)) ((List Int))) :=
  (bif (decide (u12 < (x0.size : Int))) then (if 0 ≤ u12 ∧ u12 ≤ (x0.size : Int) then ((impl_littleWord.f (x0.extract u12.toNat x0.size)).bind fun y36 => (if u13.length + ([(IntKind.wrap .i64 y36)]).length ≤ 1073741824 then (some (.inl ((u13 ++ ([(IntKind.wrap .i64 y36)])), (w64 (u12 + 4))))) else none)) else none) else (some (.inr (.out u13))))
noncomputable def impl_textInts.f (x0 : ByteArray) : Option ((List Int)) :=
  ((loopO (fun s => impl_textInts.s0 x0 s.1 s.2) (([] : List Int), 0)).bind fun o => match o with | .out u18 => (some u18) | .ret r => (some r))
set_option maxRecDepth 100000 in
set_option maxHeartbeats 0 in
theorem impl_textInts_t (w0 : World) (x0 : ByteArray) (r : (List Int)) (H : impl_textInts.f x0 = some r) :
    Calls Try.prog 172 #[.string x0] w0 (Ret (fun v w => ∃ (A0 : Option Addr) (p0 : Nat) (k0 : Chunk), v = .slice A0 r.length p0 ∧ Own (Lay.int .i64) 3 A0 p0 r k0 ∧ Sat [] w0 w [] [(0, k0)])) := by
  have hs : Sat [] w0 w0 [] [] := Sat.init w0 [] [] (by simp) (by simp) List.nodup_nil (by simp [blks])
  unfold impl_textInts.f at H
  refine enter Try.func172 rfl Try.ntmps172 rfl fun a hk => ?_
  apply wp_seq_k; intro K1 hK1
  apply wp_region_lit
  refine sa _ rfl hk rfl rfl rfl fun a hk => ?_
  show wpList _ _ _ [] _ _
  refine wpList_nil ?_
  refine hK1 _ _ ?_
  apply wp_seq_k; intro K2 hK2
  apply wp_region_lit
  refine sa _ rfl hk rfl rfl rfl fun a hk => ?_
  show wpList _ _ _ [] _ _
  refine wpList_nil ?_
  refine hK2 _ _ ?_
  apply wp_seq_k; intro K3 hK3
  apply wp_seq_k; intro K4 hK4
  apply wp_region_lit
  refine sa _ rfl hk rfl rfl rfl fun a hk => ?_
  show wpList _ _ _ [] _ _
  refine wpList_nil ?_
  refine hK4 _ _ ?_
  obtain ⟨o23, h24, HL25⟩ := bind_some H
  clear H
  obtain ⟨R26, hR26⟩ : ∃ R : Act → World → Prop, R = fun a w => ∃ (u18 : List Int) (A21 : Option Addr) (p22 : Nat) (k19 : Chunk), o23 = .out u18 ∧ Kn [(3, (.slice A21 u18.length p22))] 20 a ∧ Sat [] w0 w [] [(3, k19)] ∧ Own (Lay.int .i64) 3 A21 p22 u18 k19 := ⟨_, rfl⟩
  refine wp_cutq R26 ?_ ?_
  · refine wp_block ?_
    obtain ⟨fu28, h24⟩ := loopO_some h24
    obtain ⟨I27, hI27⟩ : ∃ I : Nat → Act → World → Prop, I = fun fu a w => ∃ (u13 : List Int) (u12 : Int) (A16 : Option Addr) (p17 : Nat) (k14 : Chunk), loopN (fun s => impl_textInts.s0 x0 s.1 s.2) fu (u13, u12) = some o23 ∧ Kn [(0, (.string x0)), (3, (.slice A16 u13.length p17)), (4, (.int .i64 u12))] 20 a ∧ Sat [] w0 w [] [(3, k14)] ∧ Own (Lay.int .i64) 3 A16 p17 u13 k14 := ⟨_, rfl⟩
    refine wp_loop_ghost I27 fu28 ?_ ?_
    · rw [hI27]
      exact ⟨([] : List Int), 0, none, 0, _, h24, (hk.c 0 rfl (hk.c 3 rfl (hk.c 4 rfl hk.k))), ((hs.addNil 1003).pick [(3, 1003)] rfl), Own.nil _ _⟩
    · clear h24 hk hs
      intro fu28 a w hI0
      rw [hI27] at hI0
      obtain ⟨u13, u12, A16, p17, k14, hi, hk, hs, o15⟩ := hI0
      obtain ⟨x29, H, h30⟩ := loop_round hi
      try dsimp only at H
      unfold impl_textInts.s0 at H
      apply wp_seq_k; intro K31 hK31
      apply wp_seq_k; intro K32 hK32
      apply wp_region_lit
      refine sm _ rfl hk rfl rfl rfl fun a hk => ?_
      refine sm _ rfl hk rfl rfl rfl fun a hk => ?_
      refine sles rfl hk rfl rfl rfl un9 fun a hk => ?_
      refine sv (.bool (decide (u12 < (x0.size : Int)))) hk rfl rfl rfl fun a hk => ?_
      show wpList _ _ _ [] _ _
      refine wpList_nil ?_
      refine hK32 _ _ ?_
      rcases cond_some H with ⟨c33, H⟩ | ⟨c33, H⟩
      · have hk := hk.lit 8 c33 rfl
        refine cnd_true hk rfl rfl ?_
        refine wp_skip ?_
        refine hK31 _ _ ?_
        apply wp_seq_k; intro K34 hK34
        refine wp_block ?_
        apply wp_region_lit
        refine sm _ rfl hk rfl rfl rfl fun a hk => ?_
        refine sm _ rfl hk rfl rfl rfl fun a hk => ?_
        refine sm _ rfl hk rfl rfl rfl fun a hk => ?_
        rcases ite_some H with ⟨c35, H⟩ | ⟨_, H⟩
        rotate_left
        · cases H
        refine ssl_l rfl hk rfl rfl rfl rfl un9 c35.1 c35.2 fun a hk => ?_
        obtain ⟨y36, h37, H⟩ := bind_some H
        refine sc rfl en191 hk rfl rfl rfl (impl_littleWord_t _ (x0.extract u12.toNat x0.size) _ h37) ?_
        rintro _ w ⟨rfl, hG⟩ a hk
        have hs := hs.call0 hG
        refine scn rfl hk rfl rfl rfl un3 un201 fun a hk => ?_
        refine sbs (L := (Lay.int .i64)) (pv := [(0, (.int .i64 (IntKind.wrap .i64 y36)))]) (xs := [(IntKind.wrap .i64 y36)]) (ess := [[.int .i64 (IntKind.wrap .i64 y36)]]) 4 hs rfl hk rfl rfl rfl un31 (bs3_0 (IntKind.wrap .i64 y36)) (AllOwn.cons0 ⟨rfl, rfl⟩ AllOwn.nil) rfl rfl rfl fun b38 k39 w a hk o40 hs => ?_
        rcases ite_some H with ⟨c41, H⟩ | ⟨_, H⟩
        rotate_left
        · cases H
        refine sap 3 (xs := u13) (ys := [(IntKind.wrap .i64 y36)]) (flat_flat : ((Lay.int .i64)).Flat) hs rfl o15 o40.view (hs.hasG (k := 4) rfl) rfl hk rfl rfl rfl rfl rfl rfl un31 mk3 rfl rfl rfl c41 fun A42 p43 k44 w a hk o45 hs => ?_
        refine sa _ rfl hk rfl rfl rfl fun a hk => ?_
        show wpList _ _ _ [] _ _
        refine wpList_nil ?_
        refine hK34 _ _ ?_
        apply wp_region_lit
        refine sm _ rfl hk rfl rfl rfl fun a hk => ?_
        refine sv (.int .i64 (w64 (u12 + 4))) hk rfl rfl rfl fun a hk => ?_
        refine sa _ rfl hk rfl rfl rfl fun a hk => ?_
        show wpList _ _ _ [] _ _
        refine wpList_nil ?_
        obtain rfl := Option.some.inj H
        obtain ⟨m46, hmm46, h30⟩ := h30
        show ∃ n', n' < _ ∧ I27 n' _ _
        refine ⟨m46, hmm46, ?_⟩
        rw [hI27]
        exact ⟨(u13 ++ ([(IntKind.wrap .i64 y36)])), (w64 (u12 + 4)), A42, p43, _, h30, (hk.c 0 rfl (hk.c 3 rfl (hk.c 4 rfl hk.k))), (hs.pick [(3, 3)] rfl), o45⟩
      · have hk := hk.lit 8 c33 rfl
        refine cnd_false hk rfl rfl ?_
        refine wp_exit ?_
        obtain rfl := Option.some.inj H
        show R26 _ _
        rw [hR26]
        exact ⟨u13, A16, p17, _, h30.symm, (hk.c 3 rfl hk.k), (hs.pick [(3, 3)] rfl), o15⟩
  · intro a w hR0
    rw [hR26] at hR0
    obtain ⟨u18, A21, p22, k19, rfl, hk, hs, o20⟩ := hR0
    have H := HL25
    try dsimp only at H
    refine hK3 _ _ ?_
    apply wp_seq_k; intro K47 hK47
    apply wp_region_lit
    refine sm _ rfl hk rfl rfl rfl fun a hk => ?_
    refine sa _ rfl hk rfl rfl rfl fun a hk => ?_
    show wpList _ _ _ [] _ _
    refine wpList_nil ?_
    refine hK47 _ _ ?_
    refine wp_ret ?_
    obtain rfl := Option.some.inj H
    exact fin hk _ [(.slice A21 u18.length p22)] rfl ⟨rfl, trivial⟩ ⟨A21, p22, _, rfl, o20, (hs.pick [(0, 3)] rfl).dnil⟩

noncomputable def impl_readerOf.f (x0 : ByteArray) (x1 : Int) : Option (S_reader) :=
  (bif ((x0.size : Int) != (w64 (4 * x1))) then (some (⟨([] : List Int), 0, true⟩ : S_reader)) else ((impl_textInts.f x0).bind fun y8 => (some (⟨y8, 0, false⟩ : S_reader))))
set_option maxRecDepth 100000 in
set_option maxHeartbeats 0 in
theorem impl_readerOf_t (w0 : World) (x0 : ByteArray) (x1 : Int) (r : S_reader) (H : impl_readerOf.f x0 x1 = some r) :
    Calls Try.prog 137 #[.string x0, .int .i64 x1] w0 (Ret (fun v w => ∃ (bb0 : Nat), ∃ (A0 : Option Addr) (p0 : Nat) (k0 : Chunk), v = .pointer (some ⟨bb0, 0, none⟩) ∧ Own (Lay.int .i64) 3 A0 p0 r.list k0 ∧ Sat [] w0 w [] [(0, [(bb0, .cells #[.slice A0 r.list.length p0, .int .i64 r.at_, .bool r.bad] 183 (0, 0))]), (1, k0)])) := by
  have hs : Sat [] w0 w0 [] [] := Sat.init w0 [] [] (by simp) (by simp) List.nodup_nil (by simp [blks])
  unfold impl_readerOf.f at H
  refine enter Try.func137 rfl Try.ntmps137 rfl fun a hk => ?_
  apply wp_seq_k; intro K1 hK1
  apply wp_region_lit
  refine sa _ rfl hk rfl rfl rfl fun a hk => ?_
  show wpList _ _ _ [] _ _
  refine wpList_nil ?_
  refine hK1 _ _ ?_
  apply wp_seq_k; intro K2 hK2
  apply wp_seq_k; intro K3 hK3
  apply wp_region_lit
  refine sm _ rfl hk rfl rfl rfl fun a hk => ?_
  refine sles rfl hk rfl rfl rfl un9 fun a hk => ?_
  refine sm _ rfl hk rfl rfl rfl fun a hk => ?_
  refine sv (.int .i64 (w64 (4 * x1))) hk rfl rfl rfl fun a hk => ?_
  refine sv (.bool ((x0.size : Int) != (w64 (4 * x1)))) hk rfl rfl rfl fun a hk => ?_
  show wpList _ _ _ [] _ _
  refine wpList_nil ?_
  refine hK3 _ _ ?_
  rcases cond_some H with ⟨c4, H⟩ | ⟨c4, H⟩
  · have hk := hk.lit 9 c4 rfl
    refine cnd_true hk rfl rfl ?_
    apply wp_seq_k; intro K5 hK5
    apply wp_region_lit
    refine sbd (pv := [(2, (.bool true))]) rfl hk rfl rfl rfl (bd183_5 true) fun a hk => ?_
    refine sbx 1 hs rfl hk rfl rfl rfl rfl fun b6 w a hk hs => ?_
    refine sa _ rfl hk rfl rfl rfl fun a hk => ?_
    show wpList _ _ _ [] _ _
    refine wpList_nil ?_
    refine hK5 _ _ ?_
    refine wp_ret ?_
    obtain rfl := Option.some.inj H
    have hs := hs.addNil 2
    exact fin hk _ [(.pointer (some ⟨b6, 0, none⟩))] rfl ⟨rfl, trivial⟩ ⟨b6, none, 0, [], rfl, Own.nil _ _, (hs.pick [(0, 1), (1, 2)] rfl).dnil⟩
  · have hk := hk.lit 9 c4 rfl
    refine cnd_false hk rfl rfl ?_
    refine wp_skip ?_
    refine hK2 _ _ ?_
    apply wp_seq_k; intro K7 hK7
    apply wp_region_lit
    refine sm _ rfl hk rfl rfl rfl fun a hk => ?_
    obtain ⟨y8, h9, H⟩ := bind_some H
    refine sc rfl en172 hk rfl rfl rfl (impl_textInts_t _ x0 _ h9) ?_
    rintro _ w ⟨A10, p11, k12, rfl, o13, hG⟩ a hk
    have hs := hs.call0k hG [3] rfl
    refine sbd (pv := [(0, (.slice A10 y8.length p11))]) rfl hk rfl rfl rfl (bd183_6 A10 y8.length p11) fun a hk => ?_
    refine sbx 4 hs rfl hk rfl rfl rfl rfl fun b14 w a hk hs => ?_
    refine sa _ rfl hk rfl rfl rfl fun a hk => ?_
    show wpList _ _ _ [] _ _
    refine wpList_nil ?_
    refine hK7 _ _ ?_
    refine wp_ret ?_
    obtain rfl := Option.some.inj H
    exact fin hk _ [(.pointer (some ⟨b14, 0, none⟩))] rfl ⟨rfl, trivial⟩ ⟨b14, A10, p11, _, rfl, o13, (hs.pick [(0, 4), (1, 3)] rfl).dnil⟩

noncomputable def impl_within.f (x0 : Int) (x1 : Int) (x2 : Int) : Option (Bool) :=
  (((bif (decide (x1 ≤ x0)) then (some (decide (x0 ≤ x2))) else (some false)) : Option (Bool)).bind fun u4 => (some u4))
set_option maxRecDepth 100000 in
set_option maxHeartbeats 0 in
theorem impl_within_t (w0 : World) (x0 : Int) (x1 : Int) (x2 : Int) (r : Bool) (H : impl_within.f x0 x1 x2 = some r) :
    Calls Try.prog 115 #[.int .i64 x0, .int .i64 x1, .int .i64 x2] w0 (Ret (fun v w => v = .bool r ∧ Sat [] w0 w [] [])) := by
  have hs : Sat [] w0 w0 [] [] := Sat.init w0 [] [] (by simp) (by simp) List.nodup_nil (by simp [blks])
  unfold impl_within.f at H
  refine enter Try.func115 rfl Try.ntmps115 rfl fun a hk => ?_
  apply wp_seq_k; intro K1 hK1
  apply wp_region_lit
  refine sa _ rfl hk rfl rfl rfl fun a hk => ?_
  show wpList _ _ _ [] _ _
  refine wpList_nil ?_
  refine hK1 _ _ ?_
  apply wp_seq_k; intro K2 hK2
  obtain ⟨o5, h6, HL7⟩ := bind_some H
  clear H
  obtain ⟨R8, hR8⟩ : ∃ R : Act → World → Prop, R = fun a w => ∃ (u4 : Bool), u4 = o5 ∧ Kn [(6, (.bool u4))] 15 a ∧ Sat [] w0 w [] [] := ⟨_, rfl⟩
  refine wp_cutq R8 ?_ ?_
  · have H := h6
    apply wp_region_lit
    refine sm _ rfl hk rfl rfl rfl fun a hk => ?_
    refine sm _ rfl hk rfl rfl rfl fun a hk => ?_
    refine sv (.bool (decide (x1 ≤ x0))) hk rfl rfl rfl fun a hk => ?_
    refine sm _ rfl hk rfl rfl rfl fun a hk => ?_
    rcases cond_some H with ⟨c9, H⟩ | ⟨c9, H⟩
    · have hk := hk.lit 10 c9 rfl
      refine sm _ rfl hk rfl rfl rfl fun a hk => ?_
      refine sm _ rfl hk rfl rfl rfl fun a hk => ?_
      refine sv (.bool (decide (x0 ≤ x2))) hk rfl rfl rfl fun a hk => ?_
      refine sv (.bool (decide (x0 ≤ x2))) hk rfl rfl rfl fun a hk => ?_
      refine sa _ rfl hk rfl rfl rfl fun a hk => ?_
      show wpList _ _ _ [] _ _
      refine wpList_nil ?_
      obtain rfl := Option.some.inj H
      show R8 _ _
      rw [hR8]
      exact ⟨(decide (x0 ≤ x2)), rfl, (hk.c 6 rfl hk.k), (hs.pick [] rfl)⟩
    · have hk := hk.lit 10 c9 rfl
      refine sk hk rfl rfl rfl fun a hk => ?_
      refine sk hk rfl rfl rfl fun a hk => ?_
      refine sk hk rfl rfl rfl fun a hk => ?_
      refine sv (.bool false) hk rfl rfl rfl fun a hk => ?_
      refine sa _ rfl hk rfl rfl rfl fun a hk => ?_
      show wpList _ _ _ [] _ _
      refine wpList_nil ?_
      obtain rfl := Option.some.inj H
      show R8 _ _
      rw [hR8]
      exact ⟨false, rfl, (hk.c 6 rfl hk.k), (hs.pick [] rfl)⟩
  · intro a w hR0
    rw [hR8] at hR0
    obtain ⟨u4, rfl, hk, hs⟩ := hR0
    have H := HL7
    try dsimp only at H
    refine hK2 _ _ ?_
    refine wp_ret ?_
    obtain rfl := Option.some.inj H
    exact fin hk _ [(.bool u4)] rfl ⟨rfl, trivial⟩ ⟨rfl, (hs.pick [] rfl).dnil⟩

noncomputable def impl_reader_next.f (x0 : S_reader) (x1 : Int) (x2 : Int) : Option (Int × Int × Bool) :=
  (((bif x0.bad then (some true) else (bif (x0.at_ == (x0.list.length : Int)) then (some true) else (if 0 ≤ x0.at_ ∧ x0.at_ < (x0.list.length : Int) then ((impl_within.f (x0.list.getD (x0.at_).toNat 0) x1 x2).bind fun y16 => (some (!y16))) else none))) : Option (Bool)).bind fun u5 => (bif u5 then (some (0, x0.at_, true)) else (if 0 ≤ (w64 ((w64 (x0.at_ + 1)) - 1)) ∧ (w64 ((w64 (x0.at_ + 1)) - 1)) < (x0.list.length : Int) then (some ((x0.list.getD (w64 ((w64 (x0.at_ + 1)) - 1)).toNat 0), (w64 (x0.at_ + 1)), x0.bad)) else none)))
set_option maxRecDepth 100000 in
set_option maxHeartbeats 0 in
theorem impl_reader_next_t (w0 : World) (b0_ : Nat) (x0 : S_reader) (A0_0 : Option Addr) (p0_0 : Nat) (k0_0 : Chunk) (v0_0 : View (Lay.int .i64) A0_0 p0_0 x0.list k0_0) (w0_0 : Has w0 k0_0) (x1 : Int) (x2 : Int) (hs0 : Sat (blks [(1, [(b0_, .cells #[.slice A0_0 x0.list.length p0_0, .int .i64 x0.at_, .bool x0.bad] 183 (0, 0))])]) w0 w0 [(2, k0_0)] [(1, [(b0_, .cells #[.slice A0_0 x0.list.length p0_0, .int .i64 x0.at_, .bool x0.bad] 183 (0, 0))])]) (r : Int × Int × Bool) (H : impl_reader_next.f x0 x1 x2 = some r) :
    Calls Try.prog 141 #[.pointer (some ⟨b0_, 0, none⟩), .int .i64 x1, .int .i64 x2] w0 (Ret (fun v w => v = .int .i64 r.1 ∧ Sat (blks [(1, [(b0_, .cells #[.slice A0_0 x0.list.length p0_0, .int .i64 x0.at_, .bool x0.bad] 183 (0, 0))])]) w0 w [] [(0, [(b0_, .cells #[.slice A0_0 x0.list.length p0_0, .int .i64 r.2.1, .bool r.2.2] 183 (0, 0))])])) := by
  have hs := hs0
  unfold impl_reader_next.f at H
  refine enter Try.func141 rfl Try.ntmps141 rfl fun a hk => ?_
  apply wp_seq_k; intro K1 hK1
  apply wp_region_lit
  refine sa _ rfl hk rfl rfl rfl fun a hk => ?_
  show wpList _ _ _ [] _ _
  refine wpList_nil ?_
  refine hK1 _ _ ?_
  apply wp_seq_k; intro K2 hK2
  apply wp_seq_k; intro K3 hK3
  obtain ⟨o6, h7, HL8⟩ := bind_some H
  clear H
  obtain ⟨R9, hR9⟩ : ∃ R : Act → World → Prop, R = fun a w => ∃ (u5 : Bool), u5 = o6 ∧ Kn [(0, (.pointer (some ⟨b0_, 0, none⟩))), (38, (.bool u5))] 60 a ∧ Sat (blks [(1, [(b0_, .cells #[.slice A0_0 x0.list.length p0_0, .int .i64 x0.at_, .bool x0.bad] 183 (0, 0))])]) w0 w [(2, k0_0)] [(1, [(b0_, .cells #[.slice A0_0 x0.list.length p0_0, .int .i64 x0.at_, .bool x0.bad] 183 (0, 0))])] := ⟨_, rfl⟩
  refine wp_cutq R9 ?_ ?_
  · have H := h7
    refine wp_region_mix [(0, true), (1, true), (2, true), (3, true), (4, true), (5, true), (6, true), (7, true), (8, true), (9, true), (10, true), (11, true), (12, true), (13, true), (14, true), (15, true), (16, true), (17, true), (18, true), (19, true), (20, true), (21, true), (22, true), (23, true), (24, true), (25, true), (26, true), (27, true), (28, true), (29, true), (30, true), (31, true)] mo (by kernel_rfl) hs fun _ => ?_
    have hs := hs.drew
    refine qst (.pointer (some ⟨b0_, 0, none⟩)) hk rfl rfl rfl rfl (fun w hs => sm _ rfl hk rfl rfl rfl fun a hk => qe hk) fun a hk => ?_
    refine qst (.pointer (some ⟨b0_, 0, none⟩)) hk rfl rfl rfl rfl (fun w hs => snk rfl hk rfl rfl rfl fun a hk => qe hk) fun a hk => ?_
    refine qst (.pointer (some ⟨b0_, 2, none⟩)) hk rfl rfl rfl rfl (fun w hs => sf ⟨b0_, 2, none⟩ rfl hk rfl rfl rfl fd183_2 rfl fun a hk => qe hk) fun a hk => ?_
    refine qst (.bool x0.bad) hk rfl rfl rfl rfl (fun w hs => sl rfl hk rfl rfl rfl ag4 (box_cell hs (k := 1) rfl rfl) fun a hk => qe hk) fun a hk => ?_
    refine qst (.bool x0.bad) hk rfl rfl rfl rfl (fun w hs => sm _ rfl hk rfl rfl rfl fun a hk => qe hk) fun a hk => ?_
    rcases cond_some H with ⟨c10, H⟩ | ⟨c10, H⟩
    · have hk := hk.lit 11 c10 rfl
      refine qsk hk rfl rfl rfl rfl fun a hk => ?_
      refine qsk hk rfl rfl rfl rfl fun a hk => ?_
      refine qsk hk rfl rfl rfl rfl fun a hk => ?_
      refine qsk hk rfl rfl rfl rfl fun a hk => ?_
      refine qsk hk rfl rfl rfl rfl fun a hk => ?_
      refine qsk hk rfl rfl rfl rfl fun a hk => ?_
      refine qsk hk rfl rfl rfl rfl fun a hk => ?_
      refine qsk hk rfl rfl rfl rfl fun a hk => ?_
      refine qsk hk rfl rfl rfl rfl fun a hk => ?_
      refine qsk hk rfl rfl rfl rfl fun a hk => ?_
      refine qst (.bool true) hk rfl rfl rfl rfl (fun w hs => sv (.bool true) hk rfl rfl rfl fun a hk => qe hk) fun a hk => ?_
      refine qst (.bool true) hk rfl rfl rfl rfl (fun w hs => sm _ rfl hk rfl rfl rfl fun a hk => qe hk) fun a hk => ?_
      refine qsk hk rfl rfl rfl rfl fun a hk => ?_
      refine qsk hk rfl rfl rfl rfl fun a hk => ?_
      refine qsk hk rfl rfl rfl rfl fun a hk => ?_
      refine qsk hk rfl rfl rfl rfl fun a hk => ?_
      refine qsk hk rfl rfl rfl rfl fun a hk => ?_
      refine qsk hk rfl rfl rfl rfl fun a hk => ?_
      refine qsk hk rfl rfl rfl rfl fun a hk => ?_
      refine qsk hk rfl rfl rfl rfl fun a hk => ?_
      refine qsk hk rfl rfl rfl rfl fun a hk => ?_
      refine qsk hk rfl rfl rfl rfl fun a hk => ?_
      refine qsk hk rfl rfl rfl rfl fun a hk => ?_
      refine qsk hk rfl rfl rfl rfl fun a hk => ?_
      refine qsk hk rfl rfl rfl rfl fun a hk => ?_
      refine qsk hk rfl rfl rfl rfl fun a hk => ?_
      refine qst (.bool true) hk rfl rfl rfl rfl (fun w hs => sv (.bool true) hk rfl rfl rfl fun a hk => qe hk) fun a hk => ?_
      refine wml_nil fun w hF _ => ?_
      have hs := hs.f hF
      obtain rfl := Option.some.inj H
      show R9 _ _
      rw [hR9]
      exact ⟨true, rfl, (hk.c 0 rfl (hk.c 38 rfl hk.k)), (hs.pick [(1, 1)] rfl)⟩
    · have hk := hk.lit 11 c10 rfl
      refine qst (.pointer (some ⟨b0_, 0, none⟩)) hk rfl rfl rfl rfl (fun w hs => sm _ rfl hk rfl rfl rfl fun a hk => qe hk) fun a hk => ?_
      refine qst (.pointer (some ⟨b0_, 0, none⟩)) hk rfl rfl rfl rfl (fun w hs => snk rfl hk rfl rfl rfl fun a hk => qe hk) fun a hk => ?_
      refine qst (.pointer (some ⟨b0_, 1, none⟩)) hk rfl rfl rfl rfl (fun w hs => sf ⟨b0_, 1, none⟩ rfl hk rfl rfl rfl fd183_1 rfl fun a hk => qe hk) fun a hk => ?_
      refine qst (.int .i64 x0.at_) hk rfl rfl rfl rfl (fun w hs => sl rfl hk rfl rfl rfl ag3 (box_cell hs (k := 1) rfl rfl) fun a hk => qe hk) fun a hk => ?_
      refine qst (.pointer (some ⟨b0_, 0, none⟩)) hk rfl rfl rfl rfl (fun w hs => sm _ rfl hk rfl rfl rfl fun a hk => qe hk) fun a hk => ?_
      refine qst (.pointer (some ⟨b0_, 0, none⟩)) hk rfl rfl rfl rfl (fun w hs => snk rfl hk rfl rfl rfl fun a hk => qe hk) fun a hk => ?_
      refine qst (.pointer (some ⟨b0_, 0, none⟩)) hk rfl rfl rfl rfl (fun w hs => sf ⟨b0_, 0, none⟩ rfl hk rfl rfl rfl fd183_0 rfl fun a hk => qe hk) fun a hk => ?_
      refine qst (.slice A0_0 x0.list.length p0_0) hk rfl rfl rfl rfl (fun w hs => sl rfl hk rfl rfl rfl ag31 (box_cell hs (k := 1) rfl rfl) fun a hk => qe hk) fun a hk => ?_
      refine qst (.int .i64 (x0.list.length : Int)) hk rfl rfl rfl rfl (fun w hs => sle rfl hk rfl rfl rfl un31 fun a hk => qe hk) fun a hk => ?_
      refine qst (.bool (x0.at_ == (x0.list.length : Int))) hk rfl rfl rfl rfl (fun w hs => sv (.bool (x0.at_ == (x0.list.length : Int))) hk rfl rfl rfl fun a hk => qe hk) fun a hk => ?_
      refine qst (.bool (x0.at_ == (x0.list.length : Int))) hk rfl rfl rfl rfl (fun w hs => sv (.bool (x0.at_ == (x0.list.length : Int))) hk rfl rfl rfl fun a hk => qe hk) fun a hk => ?_
      refine qst (.bool (x0.at_ == (x0.list.length : Int))) hk rfl rfl rfl rfl (fun w hs => sm _ rfl hk rfl rfl rfl fun a hk => qe hk) fun a hk => ?_
      rcases cond_some H with ⟨c11, H⟩ | ⟨c11, H⟩
      · have hk := hk.lit 23 c11 rfl
        refine qsk hk rfl rfl rfl rfl fun a hk => ?_
        refine qsk hk rfl rfl rfl rfl fun a hk => ?_
        refine qsk hk rfl rfl rfl rfl fun a hk => ?_
        refine qsk hk rfl rfl rfl rfl fun a hk => ?_
        refine qsk hk rfl rfl rfl rfl fun a hk => ?_
        refine qsk hk rfl rfl rfl rfl fun a hk => ?_
        refine qsk hk rfl rfl rfl rfl fun a hk => ?_
        refine qsk hk rfl rfl rfl rfl fun a hk => ?_
        refine qsk hk rfl rfl rfl rfl fun a hk => ?_
        refine qsk hk rfl rfl rfl rfl fun a hk => ?_
        refine qsk hk rfl rfl rfl rfl fun a hk => ?_
        refine qsk hk rfl rfl rfl rfl fun a hk => ?_
        refine qsk hk rfl rfl rfl rfl fun a hk => ?_
        refine qsk hk rfl rfl rfl rfl fun a hk => ?_
        refine qst (.bool true) hk rfl rfl rfl rfl (fun w hs => sv (.bool true) hk rfl rfl rfl fun a hk => qe hk) fun a hk => ?_
        refine wml_nil fun w hF _ => ?_
        have hs := hs.f hF
        obtain rfl := Option.some.inj H
        show R9 _ _
        rw [hR9]
        exact ⟨true, rfl, (hk.c 0 rfl (hk.c 38 rfl hk.k)), (hs.pick [(1, 1)] rfl)⟩
      · have hk := hk.lit 23 c11 rfl
        refine qst (.pointer (some ⟨b0_, 0, none⟩)) hk rfl rfl rfl rfl (fun w hs => sm _ rfl hk rfl rfl rfl fun a hk => qe hk) fun a hk => ?_
        refine qst (.pointer (some ⟨b0_, 0, none⟩)) hk rfl rfl rfl rfl (fun w hs => snk rfl hk rfl rfl rfl fun a hk => qe hk) fun a hk => ?_
        refine qst (.pointer (some ⟨b0_, 0, none⟩)) hk rfl rfl rfl rfl (fun w hs => sf ⟨b0_, 0, none⟩ rfl hk rfl rfl rfl fd183_0 rfl fun a hk => qe hk) fun a hk => ?_
        refine qst (.slice A0_0 x0.list.length p0_0) hk rfl rfl rfl rfl (fun w hs => sl rfl hk rfl rfl rfl ag31 (box_cell hs (k := 1) rfl rfl) fun a hk => qe hk) fun a hk => ?_
        refine qst (.pointer (some ⟨b0_, 0, none⟩)) hk rfl rfl rfl rfl (fun w hs => sm _ rfl hk rfl rfl rfl fun a hk => qe hk) fun a hk => ?_
        refine qst (.pointer (some ⟨b0_, 0, none⟩)) hk rfl rfl rfl rfl (fun w hs => snk rfl hk rfl rfl rfl fun a hk => qe hk) fun a hk => ?_
        refine qst (.pointer (some ⟨b0_, 1, none⟩)) hk rfl rfl rfl rfl (fun w hs => sf ⟨b0_, 1, none⟩ rfl hk rfl rfl rfl fd183_1 rfl fun a hk => qe hk) fun a hk => ?_
        refine qst (.int .i64 x0.at_) hk rfl rfl rfl rfl (fun w hs => sl rfl hk rfl rfl rfl ag3 (box_cell hs (k := 1) rfl rfl) fun a hk => qe hk) fun a hk => ?_
        rcases ite_some H with ⟨c12, H⟩ | ⟨_, H⟩
        rotate_left
        · cases H
        obtain ⟨b13, q14, hAc12⟩ := (v0_0).some_ x0.at_ c12.1 c12.2
        refine qst (.pointer (some (padd A0_0 ((x0.at_).toNat * 1)))) hk rfl rfl rfl rfl (fun w hs => si rfl hk rfl rfl rfl rfl un31 sz3 c12.1 c12.2 hAc12 fun a hk => qe hk) fun a hk => ?_
        obtain ⟨_, rfl, e15⟩ := (v0_0).at_ 0 x0.at_ c12.1 c12.2
        refine qst (.int .i64 (x0.list.getD (x0.at_).toNat 0)) hk rfl rfl rfl rfl (fun w hs => sl (v := (.int .i64 (x0.list.getD (x0.at_).toNat 0))) rfl hk rfl rfl rfl ag3 ((e15 0 _ rfl).cell (hs.hasD (k := 2) rfl)) fun a hk => qe hk) fun a hk => ?_
        refine qst (.int .i64 x1) hk rfl rfl rfl rfl (fun w hs => sm _ rfl hk rfl rfl rfl fun a hk => qe hk) fun a hk => ?_
        refine qst (.int .i64 x2) hk rfl rfl rfl rfl (fun w hs => sm _ rfl hk rfl rfl rfl fun a hk => qe hk) fun a hk => ?_
        obtain ⟨y16, h17, H⟩ := bind_some H
        refine qst (.bool y16) hk rfl rfl rfl rfl (fun w hs => sc rfl en115 hk rfl rfl rfl (impl_within_t _ (x0.list.getD (x0.at_).toNat 0) x1 x2 _ h17) fun _ w hR a hk => qc hR hk) fun a hk => ?_
        refine qst (.bool (!y16)) hk rfl rfl rfl rfl (fun w hs => sv (.bool (!y16)) hk rfl rfl rfl fun a hk => qe hk) fun a hk => ?_
        refine qst (.bool (!y16)) hk rfl rfl rfl rfl (fun w hs => sv (.bool (!y16)) hk rfl rfl rfl fun a hk => qe hk) fun a hk => ?_
        refine wml_nil fun w hF _ => ?_
        have hs := hs.f hF
        obtain rfl := Option.some.inj H
        show R9 _ _
        rw [hR9]
        exact ⟨(!y16), rfl, (hk.c 0 rfl (hk.c 38 rfl hk.k)), (hs.pick [(1, 1)] rfl)⟩
  · intro a w hR0
    rw [hR9] at hR0
    obtain ⟨u5, rfl, hk, hs⟩ := hR0
    have H := HL8
    try dsimp only at H
    refine hK3 _ _ ?_
    rcases cond_some H with ⟨c18, H⟩ | ⟨c18, H⟩
    · have hk := hk.lit 38 c18 rfl
      refine cnd_true hk rfl rfl ?_
      apply wp_seq_k; intro K19 hK19
      apply wp_region_lit
      refine sm _ rfl hk rfl rfl rfl fun a hk => ?_
      refine snk rfl hk rfl rfl rfl fun a hk => ?_
      refine sf ⟨b0_, 2, none⟩ rfl hk rfl rfl rfl fd183_2 rfl fun a hk => ?_
      refine ssx (cs' := #[.slice A0_0 x0.list.length p0_0, .int .i64 x0.at_, .bool true]) 1 hs rfl rfl hk rfl rfl rfl rfl sz4 rfl rfl rfl rfl fun w a hk hs => ?_
      show wpList _ _ _ [] _ _
      refine wpList_nil ?_
      refine hK19 _ _ ?_
      apply wp_seq_k; intro K20 hK20
      apply wp_region_lit
      refine sa _ rfl hk rfl rfl rfl fun a hk => ?_
      show wpList _ _ _ [] _ _
      refine wpList_nil ?_
      refine hK20 _ _ ?_
      refine wp_ret ?_
      obtain rfl := Option.some.inj H
      exact fin hk _ [(.int .i64 0)] rfl ⟨rfl, trivial⟩ ⟨rfl, (hs.pick [(0, 1)] rfl).dnil⟩
    · have hk := hk.lit 38 c18 rfl
      refine cnd_false hk rfl rfl ?_
      refine wp_skip ?_
      refine hK2 _ _ ?_
      apply wp_seq_k; intro K21 hK21
      apply wp_region_lit
      refine sm _ rfl hk rfl rfl rfl fun a hk => ?_
      refine snk rfl hk rfl rfl rfl fun a hk => ?_
      refine sf ⟨b0_, 1, none⟩ rfl hk rfl rfl rfl fd183_1 rfl fun a hk => ?_
      refine sl rfl hk rfl rfl rfl ag3 (box_cell hs (k := 1) rfl rfl) fun a hk => ?_
      refine sv (.int .i64 (w64 (x0.at_ + 1))) hk rfl rfl rfl fun a hk => ?_
      refine snk rfl hk rfl rfl rfl fun a hk => ?_
      refine sf ⟨b0_, 1, none⟩ rfl hk rfl rfl rfl fd183_1 rfl fun a hk => ?_
      refine ssx (cs' := #[.slice A0_0 x0.list.length p0_0, .int .i64 (w64 (x0.at_ + 1)), .bool x0.bad]) 1 hs rfl rfl hk rfl rfl rfl rfl sz3 rfl rfl rfl rfl fun w a hk hs => ?_
      show wpList _ _ _ [] _ _
      refine wpList_nil ?_
      refine hK21 _ _ ?_
      apply wp_seq_k; intro K22 hK22
      refine wp_region_tree (.q 0 (.q 1 (.q 2 (.q 3 (.alt 4 (.alt 5 (.alt 6 (.alt 7 (.alt 8 (.alt 9 (.alt 10 (.last 11) .stop) .stop) .stop) .stop) .stop) .stop) .stop))))) mo (by kernel_rfl) (hs.pick [(1, 1)] rfl) fun _ => ?_
      have hs := hs.drew
      refine tqst (.pointer (some ⟨b0_, 0, none⟩)) hk rfl rfl rfl rfl (fun w hs => sm _ rfl hk rfl rfl rfl fun a hk => qe hk) fun a hk => ?_
      refine tqst (.pointer (some ⟨b0_, 0, none⟩)) hk rfl rfl rfl rfl (fun w hs => snk rfl hk rfl rfl rfl fun a hk => qe hk) fun a hk => ?_
      refine tqst (.pointer (some ⟨b0_, 0, none⟩)) hk rfl rfl rfl rfl (fun w hs => sf ⟨b0_, 0, none⟩ rfl hk rfl rfl rfl fd183_0 rfl fun a hk => qe hk) fun a hk => ?_
      refine tqst (.slice A0_0 x0.list.length p0_0) hk rfl rfl rfl rfl (fun w hs => sl rfl hk rfl rfl rfl ag31 (box_cell hs (k := 1) rfl rfl) fun a hk => qe hk) fun a hk => ?_
      refine tsst hk rfl rfl (fun K_r23_4 hK_r23_4 w hF => ?_) wt_stop
      have hs := hs.f hF
      refine sm _ rfl hk rfl rfl rfl fun a hk => ?_
      refine se (hs.pick [(1, 1)] rfl) hk (hK_r23_4 _ _ ?_)
      refine tsst hk rfl rfl (fun K_r23_5 hK_r23_5 w hF => ?_) wt_stop
      have hs := hs.f hF
      refine snk rfl hk rfl rfl rfl fun a hk => ?_
      refine se (hs.pick [(1, 1)] rfl) hk (hK_r23_5 _ _ ?_)
      refine tsst hk rfl rfl (fun K_r23_6 hK_r23_6 w hF => ?_) wt_stop
      have hs := hs.f hF
      refine sf ⟨b0_, 1, none⟩ rfl hk rfl rfl rfl fd183_1 rfl fun a hk => ?_
      refine se (hs.pick [(1, 1)] rfl) hk (hK_r23_6 _ _ ?_)
      refine tsst hk rfl rfl (fun K_r23_7 hK_r23_7 w hF => ?_) wt_stop
      have hs := hs.f hF
      refine sl rfl hk rfl rfl rfl ag3 (box_cell hs (k := 1) rfl rfl) fun a hk => ?_
      refine se (hs.pick [(1, 1)] rfl) hk (hK_r23_7 _ _ ?_)
      refine tsst hk rfl rfl (fun K_r23_8 hK_r23_8 w hF => ?_) wt_stop
      have hs := hs.f hF
      refine sv (.int .i64 (w64 ((w64 (x0.at_ + 1)) - 1))) hk rfl rfl rfl fun a hk => ?_
      refine se (hs.pick [(1, 1)] rfl) hk (hK_r23_8 _ _ ?_)
      refine tsst hk rfl rfl (fun K_r23_9 hK_r23_9 w hF => ?_) wt_stop
      have hs := hs.f hF
      rcases ite_some H with ⟨c24, H⟩ | ⟨_, H⟩
      rotate_left
      · cases H
      obtain ⟨b25, q26, hAc24⟩ := (v0_0).some_ (w64 ((w64 (x0.at_ + 1)) - 1)) c24.1 c24.2
      refine si rfl hk rfl rfl rfl rfl un31 sz3 c24.1 c24.2 hAc24 fun a hk => ?_
      refine se (hs.pick [(1, 1)] rfl) hk (hK_r23_9 _ _ ?_)
      refine tsst hk rfl rfl (fun K_r23_10 hK_r23_10 w hF => ?_) wt_stop
      have hs := hs.f hF
      obtain ⟨_, rfl, e27⟩ := (v0_0).at_ 0 (w64 ((w64 (x0.at_ + 1)) - 1)) c24.1 c24.2
      refine sl (v := (.int .i64 (x0.list.getD (w64 ((w64 (x0.at_ + 1)) - 1)).toNat 0))) rfl hk rfl rfl rfl ag3 ((e27 0 _ rfl).cell (hs.hasD (k := 2) rfl)) fun a hk => ?_
      refine se (hs.pick [(1, 1)] rfl) hk (hK_r23_10 _ _ ?_)
      refine tlst hk rfl rfl fun K_r23_11 hK_r23_11 w hF => ?_
      have hs := hs.f hF
      refine sa _ rfl hk rfl rfl rfl fun a hk => ?_
      refine se trivial hk (hK_r23_11 _ _ fun w hF => ?_)
      have hs := hs.f hF
      refine hK22 _ _ ?_
      refine wp_ret ?_
      obtain rfl := Option.some.inj H
      exact fin hk _ [(.int .i64 (x0.list.getD (w64 ((w64 (x0.at_ + 1)) - 1)).toNat 0))] rfl ⟨rfl, trivial⟩ ⟨rfl, (hs.pick [(0, 1)] rfl).dnil⟩

noncomputable def impl_reader_blocks.s0 (x0 : S_reader) (y5 : Int × Int × Bool) (u17 : List S_Block) (u14 : Int) (u15 : Int) (u16 : Bool) : Option (((List S_Block) × Int × Int × Bool) ⊕ Ex ((List S_Block) × Int × Bool) ((List S_Block) × Int × Bool)) :=
  (bif (decide (u14 < y5.1)) then ((impl_reader_next.f (⟨x0.list, u15, u16⟩ : S_reader) 0 11).bind fun y41 => ((impl_reader_next.f (⟨x0.list, y41.2.1, y41.2.2⟩ : S_reader) 0 7).bind fun y43 => ((impl_reader_next.f (⟨x0.list, y43.2.1, y43.2.2⟩ : S_reader) 0 999999).bind fun y45 => (if u17.length + ([(⟨y41.1, y43.1, y45.1⟩ : S_Block)]).length ≤ 1073741824 then (some (.inl ((u17 ++ ([(⟨y41.1, y43.1, y45.1⟩ : S_Block)])), (w64 (u14 + 1)), y45.2.1, y45.2.2))) else none)))) else (some (.inr (.out (u17, u15, u16)))))
noncomputable def impl_reader_blocks.f (x0 : S_reader) (x1 : Int) : Option ((List S_Block) × Int × Bool) :=
  ((impl_reader_next.f x0 0 x1).bind fun y5 => ((loopO (fun s => impl_reader_blocks.s0 x0 y5 s.1 s.2.1 s.2.2.1 s.2.2.2) (([] : List S_Block), 0, y5.2.1, y5.2.2)).bind fun o => match o with | .out (u22, u27, u28) => (some (u22, u27, u28)) | .ret r => (some r)))
set_option maxRecDepth 100000 in
set_option maxHeartbeats 0 in
theorem impl_reader_blocks_t (w0 : World) (b0_ : Nat) (x0 : S_reader) (A0_0 : Option Addr) (p0_0 : Nat) (k0_0 : Chunk) (v0_0 : View (Lay.int .i64) A0_0 p0_0 x0.list k0_0) (w0_0 : Has w0 k0_0) (x1 : Int) (hs0 : Sat (blks [(1, [(b0_, .cells #[.slice A0_0 x0.list.length p0_0, .int .i64 x0.at_, .bool x0.bad] 183 (0, 0))])]) w0 w0 [(2, k0_0)] [(1, [(b0_, .cells #[.slice A0_0 x0.list.length p0_0, .int .i64 x0.at_, .bool x0.bad] 183 (0, 0))])]) (r : (List S_Block) × Int × Bool) (H : impl_reader_blocks.f x0 x1 = some r) :
    Calls Try.prog 138 #[.pointer (some ⟨b0_, 0, none⟩), .int .i64 x1] w0 (Ret (fun v w => ∃ (A0 : Option Addr) (p0 : Nat) (k0 : Chunk), v = .slice A0 r.1.length p0 ∧ Own L_Block 81 A0 p0 r.1 k0 ∧ Sat (blks [(1, [(b0_, .cells #[.slice A0_0 x0.list.length p0_0, .int .i64 x0.at_, .bool x0.bad] 183 (0, 0))])]) w0 w [] [(0, k0), (1, [(b0_, .cells #[.slice A0_0 x0.list.length p0_0, .int .i64 r.2.1, .bool r.2.2] 183 (0, 0))])])) := by
  have hs := hs0
  unfold impl_reader_blocks.f at H
  refine enter Try.func138 rfl Try.ntmps138 rfl fun a hk => ?_
  apply wp_seq_k; intro K1 hK1
  apply wp_region_lit
  refine sa _ rfl hk rfl rfl rfl fun a hk => ?_
  show wpList _ _ _ [] _ _
  refine wpList_nil ?_
  refine hK1 _ _ ?_
  apply wp_seq_k; intro K2 hK2
  apply wp_region_lit
  refine sa _ rfl hk rfl rfl rfl fun a hk => ?_
  show wpList _ _ _ [] _ _
  refine wpList_nil ?_
  refine hK2 _ _ ?_
  apply wp_seq_k; intro K3 hK3
  apply wp_seq_k; intro K4 hK4
  apply wp_region_lit
  refine sm _ rfl hk rfl rfl rfl fun a hk => ?_
  refine sm _ rfl hk rfl rfl rfl fun a hk => ?_
  obtain ⟨y5, h6, H⟩ := bind_some H
  refine sc rfl en141 hk rfl rfl rfl (impl_reader_next_t _ b0_ x0 A0_0 p0_0 _ v0_0 (hs.hasD (k := 2) rfl) 0 x1 ((hs.hand [(1, 1)] rfl).dpick [(2, 2)] rfl) _ h6) ?_
  rintro _ w ⟨rfl, hG⟩ a hk
  have hs := hs.back [(1, 1)] rfl hG [1] rfl
  refine sm _ rfl hk rfl rfl rfl fun a hk => ?_
  show wpList _ _ _ [] _ _
  refine wpList_nil ?_
  refine hK4 _ _ ?_
  obtain ⟨o29, h30, HL31⟩ := bind_some H
  clear H
  obtain ⟨R32, hR32⟩ : ∃ R : Act → World → Prop, R = fun a w => ∃ (u22 : List S_Block) (u27 : Int) (u28 : Bool) (A25 : Option Addr) (p26 : Nat) (k23 : Chunk), o29 = .out (u22, u27, u28) ∧ Kn [(0, (.pointer (some ⟨b0_, 0, none⟩))), (5, (.slice A25 u22.length p26))] 23 a ∧ Sat (blks [(1, [(b0_, .cells #[.slice A0_0 x0.list.length p0_0, .int .i64 x0.at_, .bool x0.bad] 183 (0, 0))])]) w0 w [(2, k0_0)] [(5, k23), (1, [(b0_, .cells #[.slice A0_0 x0.list.length p0_0, .int .i64 u27, .bool u28] 183 (0, 0))])] ∧ Own L_Block 81 A25 p26 u22 k23 := ⟨_, rfl⟩
  refine wp_cutq R32 ?_ ?_
  · refine wp_block ?_
    obtain ⟨fu34, h30⟩ := loopO_some h30
    obtain ⟨I33, hI33⟩ : ∃ I : Nat → Act → World → Prop, I = fun fu a w => ∃ (u17 : List S_Block) (u14 : Int) (u15 : Int) (u16 : Bool) (A20 : Option Addr) (p21 : Nat) (k18 : Chunk), loopN (fun s => impl_reader_blocks.s0 x0 y5 s.1 s.2.1 s.2.2.1 s.2.2.2) fu (u17, u14, u15, u16) = some o29 ∧ Kn [(0, (.pointer (some ⟨b0_, 0, none⟩))), (5, (.slice A20 u17.length p21)), (8, (.int .i64 y5.1)), (9, (.int .i64 u14))] 23 a ∧ Sat (blks [(1, [(b0_, .cells #[.slice A0_0 x0.list.length p0_0, .int .i64 x0.at_, .bool x0.bad] 183 (0, 0))])]) w0 w [(2, k0_0)] [(5, k18), (1, [(b0_, .cells #[.slice A0_0 x0.list.length p0_0, .int .i64 u15, .bool u16] 183 (0, 0))])] ∧ Own L_Block 81 A20 p21 u17 k18 := ⟨_, rfl⟩
    refine wp_loop_ghost I33 fu34 ?_ ?_
    · rw [hI33]
      exact ⟨([] : List S_Block), 0, y5.2.1, y5.2.2, none, 0, _, h30, (hk.c 0 rfl (hk.c 5 rfl (hk.c 8 rfl (hk.c 9 rfl hk.k)))), ((hs.addNil 1005).pick [(5, 1005), (1, 1)] rfl), Own.nil _ _⟩
    · clear h30 hk hs
      intro fu34 a w hI0
      rw [hI33] at hI0
      obtain ⟨u17, u14, u15, u16, A20, p21, k18, hi, hk, hs, o19⟩ := hI0
      obtain ⟨x35, H, h36⟩ := loop_round hi
      try dsimp only at H
      unfold impl_reader_blocks.s0 at H
      apply wp_seq_k; intro K37 hK37
      apply wp_region_lit
      refine sv (.bool (decide (u14 < y5.1))) hk rfl rfl rfl fun a hk => ?_
      show wpList _ _ _ [] _ _
      refine wpList_nil ?_
      refine hK37 _ _ ?_
      apply wp_seq_k; intro K38 hK38
      rcases cond_some H with ⟨c39, H⟩ | ⟨c39, H⟩
      · have hk := hk.lit 10 c39 rfl
        refine cnd_true hk rfl rfl ?_
        refine wp_skip ?_
        refine hK38 _ _ ?_
        apply wp_seq_k; intro K40 hK40
        refine wp_block ?_
        apply wp_region_lit
        refine sm _ rfl hk rfl rfl rfl fun a hk => ?_
        refine sm _ rfl hk rfl rfl rfl fun a hk => ?_
        obtain ⟨y41, h42, H⟩ := bind_some H
        refine sc rfl en141 hk rfl rfl rfl (impl_reader_next_t _ b0_ (⟨x0.list, u15, u16⟩ : S_reader) A0_0 p0_0 _ v0_0 (hs.hasD (k := 2) rfl) 0 11 ((hs.hand [(1, 1)] rfl).dpick [(2, 2)] rfl) _ h42) ?_
        rintro _ w ⟨rfl, hG⟩ a hk
        have hs := hs.back [(1, 1)] rfl hG [1] rfl
        refine sm _ rfl hk rfl rfl rfl fun a hk => ?_
        obtain ⟨y43, h44, H⟩ := bind_some H
        refine sc rfl en141 hk rfl rfl rfl (impl_reader_next_t _ b0_ (⟨x0.list, y41.2.1, y41.2.2⟩ : S_reader) A0_0 p0_0 _ v0_0 (hs.hasD (k := 2) rfl) 0 7 ((hs.hand [(1, 1)] rfl).dpick [(2, 2)] rfl) _ h44) ?_
        rintro _ w ⟨rfl, hG⟩ a hk
        have hs := hs.back [(1, 1)] rfl hG [1] rfl
        refine sm _ rfl hk rfl rfl rfl fun a hk => ?_
        obtain ⟨y45, h46, H⟩ := bind_some H
        refine sc rfl en141 hk rfl rfl rfl (impl_reader_next_t _ b0_ (⟨x0.list, y43.2.1, y43.2.2⟩ : S_reader) A0_0 p0_0 _ v0_0 (hs.hasD (k := 2) rfl) 0 999999 ((hs.hand [(1, 1)] rfl).dpick [(2, 2)] rfl) _ h46) ?_
        rintro _ w ⟨rfl, hG⟩ a hk
        have hs := hs.back [(1, 1)] rfl hG [1] rfl
        refine sbd (pv := [(0, (.int .i64 y41.1)), (1, (.int .i64 y43.1)), (2, (.int .i64 y45.1))]) rfl hk rfl rfl rfl (bd81_7 y41.1 y43.1 y45.1) fun a hk => ?_
        refine sbs (L := L_Block) (pv := [(0, (.agg #[.int .i64 y41.1, .int .i64 y43.1, .int .i64 y45.1]))]) (xs := [(⟨y41.1, y43.1, y45.1⟩ : S_Block)]) (ess := [[.int .i64 y41.1, .int .i64 y43.1, .int .i64 y45.1]]) 6 hs rfl hk rfl rfl rfl un26 (bs81_4 y41.1 y43.1 y45.1) (AllOwn.cons0 ⟨rfl, rfl⟩ AllOwn.nil) rfl rfl rfl fun b47 k48 w a hk o49 hs => ?_
        rcases ite_some H with ⟨c50, H⟩ | ⟨_, H⟩
        rotate_left
        · cases H
        refine sap 5 (xs := u17) (ys := [(⟨y41.1, y43.1, y45.1⟩ : S_Block)]) (flat_flat : (L_Block).Flat) hs rfl o19 o49.view (hs.hasG (k := 6) rfl) rfl hk rfl rfl rfl rfl rfl rfl un26 mk81 rfl rfl rfl c50 fun A51 p52 k53 w a hk o54 hs => ?_
        refine sa _ rfl hk rfl rfl rfl fun a hk => ?_
        show wpList _ _ _ [] _ _
        refine wpList_nil ?_
        refine hK40 _ _ ?_
        apply wp_region_lit
        refine sv (.int .i64 (w64 (u14 + 1))) hk rfl rfl rfl fun a hk => ?_
        refine sm _ rfl hk rfl rfl rfl fun a hk => ?_
        show wpList _ _ _ [] _ _
        refine wpList_nil ?_
        obtain rfl := Option.some.inj H
        obtain ⟨m55, hmm55, h36⟩ := h36
        show ∃ n', n' < _ ∧ I33 n' _ _
        refine ⟨m55, hmm55, ?_⟩
        rw [hI33]
        exact ⟨(u17 ++ ([(⟨y41.1, y43.1, y45.1⟩ : S_Block)])), (w64 (u14 + 1)), y45.2.1, y45.2.2, A51, p52, _, h36, (hk.c 0 rfl (hk.c 5 rfl (hk.c 8 rfl (hk.c 9 rfl hk.k)))), (hs.pick [(5, 5), (1, 1)] rfl), o54⟩
      · have hk := hk.lit 10 c39 rfl
        refine cnd_false hk rfl rfl ?_
        refine wp_exit ?_
        obtain rfl := Option.some.inj H
        show R32 _ _
        rw [hR32]
        exact ⟨u17, u15, u16, A20, p21, _, h36.symm, (hk.c 0 rfl (hk.c 5 rfl hk.k)), (hs.pick [(5, 5), (1, 1)] rfl), o19⟩
  · intro a w hR0
    rw [hR32] at hR0
    obtain ⟨u22, u27, u28, A25, p26, k23, rfl, hk, hs, o24⟩ := hR0
    have H := HL31
    try dsimp only at H
    refine hK3 _ _ ?_
    apply wp_seq_k; intro K56 hK56
    apply wp_region_lit
    refine sm _ rfl hk rfl rfl rfl fun a hk => ?_
    refine sa _ rfl hk rfl rfl rfl fun a hk => ?_
    show wpList _ _ _ [] _ _
    refine wpList_nil ?_
    refine hK56 _ _ ?_
    refine wp_ret ?_
    obtain rfl := Option.some.inj H
    exact fin hk _ [(.slice A25 u22.length p26)] rfl ⟨rfl, trivial⟩ ⟨A25, p26, _, rfl, o24, (hs.pick [(0, 5), (1, 1)] rfl).dnil⟩

noncomputable def slices_IndexFunc_int_int.s0 (l0 : List Int) (q1 : Int → Option (Bool)) (u6 : Int) : Option ((Int) ⊕ Ex (Unit) (Int)) :=
  (bif (decide (u6 < (l0.length : Int))) then (if 0 ≤ u6 ∧ u6 < (l0.length : Int) then ((q1 (l0.getD u6.toNat 0)).bind fun y25 => (bif y25 then (some (.inr (.ret u6))) else (some (.inl (w64 (u6 + 1)))))) else none) else (some (.inr (.out ()))))
noncomputable def slices_IndexFunc_int_int.f (l0 : List Int) (q1 : Int → Option (Bool)) : Option (Int) :=
  ((loopO (fun s => slices_IndexFunc_int_int.s0 l0 q1 s) 0).bind fun o => match o with | .out _ => (some (-1)) | .ret r => (some r))
set_option maxRecDepth 100000 in
set_option maxHeartbeats 0 in
theorem slices_IndexFunc_int_int_t (w0 : World) (A0_ : Option Addr) (p0_ : Nat) (l0 : List Int) (k0_ : Chunk) (v0_ : View (Lay.int .i64) A0_ p0_ l0 k0_) (w0_ : Has w0 k0_) (f1_ : FuncId) (c1_ : List Value) (e1_ : Enters Try.prog f1_) (q1 : Int → Option (Bool)) (k1_ : Chunk) (t1_ : ∀ w, Has w k1_ → ∀ (z0 : Int) (r : Bool), q1 z0 = some r → Calls Try.prog f1_ (([.int .i64 z0] : List Value) ++ c1_).toArray w (Ret (fun v w2 => v = .bool r ∧ Sat [] w w2 [] []))) (w1_ : Has w0 k1_) (r : Int) (H : slices_IndexFunc_int_int.f l0 q1 = some r) :
    Calls Try.prog 180 #[.slice A0_ l0.length p0_, .func (.func f1_) #[] c1_.toArray] w0 (Ret (fun v w => v = .int .i64 r ∧ Sat [] w0 w [] [])) := by
  have hs : Sat [] w0 w0 [(1, k0_), (2, k1_)] [] := Sat.init w0 [(1, k0_), (2, k1_)] [] (by simp only [List.mem_cons, List.not_mem_nil, or_false]; rintro x (rfl | rfl) <;> assumption) (by simp) List.nodup_nil (by simp [blks])
  unfold slices_IndexFunc_int_int.f at H
  refine enter Try.func180 rfl Try.ntmps180 rfl fun a hk => ?_
  apply wp_seq_k; intro K1 hK1
  apply wp_region_lit
  refine sa _ rfl hk rfl rfl rfl fun a hk => ?_
  show wpList _ _ _ [] _ _
  refine wpList_nil ?_
  refine hK1 _ _ ?_
  apply wp_seq_k; intro K2 hK2
  apply wp_seq_k; intro K3 hK3
  apply wp_region_lit
  refine sm _ rfl hk rfl rfl rfl fun a hk => ?_
  refine sle rfl hk rfl rfl rfl un31 fun a hk => ?_
  refine sm _ rfl hk rfl rfl rfl fun a hk => ?_
  show wpList _ _ _ [] _ _
  refine wpList_nil ?_
  refine hK3 _ _ ?_
  obtain ⟨o7, h8, HL9⟩ := bind_some H
  clear H
  obtain ⟨R10, hR10⟩ : ∃ R : Act → World → Prop, R = fun a w => o7 = .out () ∧ Kn [] 19 a ∧ Sat [] w0 w [(1, k0_), (2, k1_)] [] := ⟨_, rfl⟩
  refine wp_cutq R10 ?_ ?_
  · refine wp_block ?_
    obtain ⟨fu12, h8⟩ := loopO_some h8
    obtain ⟨I11, hI11⟩ : ∃ I : Nat → Act → World → Prop, I = fun fu a w => ∃ (u6 : Int), loopN (fun s => slices_IndexFunc_int_int.s0 l0 q1 s) fu u6 = some o7 ∧ Kn [(0, (.slice A0_ l0.length p0_)), (1, (.func (.func f1_) #[] c1_.toArray)), (7, (.int .i64 (l0.length : Int))), (8, (.int .i64 u6))] 19 a ∧ Sat [] w0 w [(1, k0_), (2, k1_)] [] := ⟨_, rfl⟩
    refine wp_loop_ghost I11 fu12 ?_ ?_
    · rw [hI11]
      exact ⟨0, h8, (hk.c 0 rfl (hk.c 1 rfl (hk.c 7 rfl (hk.c 8 rfl hk.k)))), (hs.pick [] rfl)⟩
    · clear h8 hk hs
      intro fu12 a w hI0
      rw [hI11] at hI0
      obtain ⟨u6, hi, hk, hs⟩ := hI0
      obtain ⟨x13, H, h14⟩ := loop_round hi
      try dsimp only at H
      unfold slices_IndexFunc_int_int.s0 at H
      apply wp_seq_k; intro K15 hK15
      apply wp_region_lit
      refine sv (.bool (decide (u6 < (l0.length : Int)))) hk rfl rfl rfl fun a hk => ?_
      show wpList _ _ _ [] _ _
      refine wpList_nil ?_
      refine hK15 _ _ ?_
      apply wp_seq_k; intro K16 hK16
      rcases cond_some H with ⟨c17, H⟩ | ⟨c17, H⟩
      · have hk := hk.lit 9 c17 rfl
        refine cnd_true hk rfl rfl ?_
        refine wp_skip ?_
        refine hK16 _ _ ?_
        apply wp_seq_k; intro K18 hK18
        refine wp_block ?_
        apply wp_seq_k; intro K19 hK19
        apply wp_region_lit
        refine sm _ rfl hk rfl rfl rfl fun a hk => ?_
        refine sa _ rfl hk rfl rfl rfl fun a hk => ?_
        show wpList _ _ _ [] _ _
        refine wpList_nil ?_
        refine hK19 _ _ ?_
        apply wp_seq_k; intro K20 hK20
        apply wp_region_lit
        refine sm _ rfl hk rfl rfl rfl fun a hk => ?_
        refine sm _ rfl hk rfl rfl rfl fun a hk => ?_
        refine sm _ rfl hk rfl rfl rfl fun a hk => ?_
        rcases ite_some H with ⟨c21, H⟩ | ⟨_, H⟩
        rotate_left
        · cases H
        obtain ⟨b22, q23, hAc21⟩ := (v0_).some_ u6 c21.1 c21.2
        refine si rfl hk rfl rfl rfl rfl un31 sz3 c21.1 c21.2 hAc21 fun a hk => ?_
        obtain ⟨_, rfl, e24⟩ := (v0_).at_ 0 u6 c21.1 c21.2
        refine sl (v := (.int .i64 (l0.getD u6.toNat 0))) rfl hk rfl rfl rfl ag3 ((e24 0 _ rfl).cell (hs.hasD (k := 1) rfl)) fun a hk => ?_
        obtain ⟨y25, h26, H⟩ := bind_some H
        refine scv (vs := ([(.int .i64 (l0.getD u6.toNat 0))] : List Value) ++ c1_) rfl rfl e1_ hk rfl rfl rfl (t1_ _ (hs.hasD (k := 2) rfl) (l0.getD u6.toNat 0) _ h26) ?_
        rintro _ w ⟨rfl, hG⟩ a hk
        have hs := hs.call0 hG
        show wpList _ _ _ [] _ _
        refine wpList_nil ?_
        refine hK20 _ _ ?_
        rcases cond_some H with ⟨c27, H⟩ | ⟨c27, H⟩
        · have hk := hk.lit 16 c27 rfl
          refine cnd_true hk rfl rfl ?_
          apply wp_seq_k; intro K28 hK28
          apply wp_region_lit
          refine sm _ rfl hk rfl rfl rfl fun a hk => ?_
          refine sa _ rfl hk rfl rfl rfl fun a hk => ?_
          show wpList _ _ _ [] _ _
          refine wpList_nil ?_
          refine hK28 _ _ ?_
          refine wp_ret ?_
          obtain rfl := Option.some.inj H
          have ho7 := h14
          try dsimp only at ho7
          subst ho7
          have H := HL9
          try dsimp only at H
          obtain rfl := Option.some.inj H
          exact fin hk _ [(.int .i64 u6)] rfl ⟨rfl, trivial⟩ ⟨rfl, (hs.pick [] rfl).dnil⟩
        · have hk := hk.lit 16 c27 rfl
          refine cnd_false hk rfl rfl ?_
          refine wp_skip ?_
          refine hK18 _ _ ?_
          apply wp_region_lit
          refine sv (.int .i64 (w64 (u6 + 1))) hk rfl rfl rfl fun a hk => ?_
          refine sm _ rfl hk rfl rfl rfl fun a hk => ?_
          show wpList _ _ _ [] _ _
          refine wpList_nil ?_
          obtain rfl := Option.some.inj H
          obtain ⟨m29, hmm29, h14⟩ := h14
          show ∃ n', n' < _ ∧ I11 n' _ _
          refine ⟨m29, hmm29, ?_⟩
          rw [hI11]
          exact ⟨(w64 (u6 + 1)), h14, (hk.c 0 rfl (hk.c 1 rfl (hk.c 7 rfl (hk.c 8 rfl hk.k)))), (hs.pick [] rfl)⟩
      · have hk := hk.lit 9 c17 rfl
        refine cnd_false hk rfl rfl ?_
        refine wp_exit ?_
        obtain rfl := Option.some.inj H
        show R10 _ _
        rw [hR10]
        exact ⟨h14.symm, hk.k, (hs.pick [] rfl)⟩
  · intro a w hR0
    rw [hR10] at hR0
    obtain ⟨rfl, hk, hs⟩ := hR0
    have H := HL9
    try dsimp only at H
    refine hK2 _ _ ?_
    apply wp_seq_k; intro K30 hK30
    apply wp_region_lit
    refine sa _ rfl hk rfl rfl rfl fun a hk => ?_
    show wpList _ _ _ [] _ _
    refine wpList_nil ?_
    refine hK30 _ _ ?_
    refine wp_ret ?_
    obtain rfl := Option.some.inj H
    exact fin hk _ [(.int .i64 (-1))] rfl ⟨rfl, trivial⟩ ⟨rfl, (hs.pick [] rfl).dnil⟩

noncomputable def slices_ContainsFunc_int_int.f (l0 : List Int) (q1 : Int → Option (Bool)) : Option (Bool) :=
  ((slices_IndexFunc_int_int.f l0 q1).bind fun y3 => (some (decide (y3 ≥ 0))))
set_option maxRecDepth 100000 in
set_option maxHeartbeats 0 in
theorem slices_ContainsFunc_int_int_t (w0 : World) (A0_ : Option Addr) (p0_ : Nat) (l0 : List Int) (k0_ : Chunk) (v0_ : View (Lay.int .i64) A0_ p0_ l0 k0_) (w0_ : Has w0 k0_) (f1_ : FuncId) (c1_ : List Value) (e1_ : Enters Try.prog f1_) (q1 : Int → Option (Bool)) (k1_ : Chunk) (t1_ : ∀ w, Has w k1_ → ∀ (z0 : Int) (r : Bool), q1 z0 = some r → Calls Try.prog f1_ (([.int .i64 z0] : List Value) ++ c1_).toArray w (Ret (fun v w2 => v = .bool r ∧ Sat [] w w2 [] []))) (w1_ : Has w0 k1_) (r : Bool) (H : slices_ContainsFunc_int_int.f l0 q1 = some r) :
    Calls Try.prog 154 #[.slice A0_ l0.length p0_, .func (.func f1_) #[] c1_.toArray] w0 (Ret (fun v w => v = .bool r ∧ Sat [] w0 w [] [])) := by
  have hs : Sat [] w0 w0 [(1, k0_), (2, k1_)] [] := Sat.init w0 [(1, k0_), (2, k1_)] [] (by simp only [List.mem_cons, List.not_mem_nil, or_false]; rintro x (rfl | rfl) <;> assumption) (by simp) List.nodup_nil (by simp [blks])
  unfold slices_ContainsFunc_int_int.f at H
  refine enter Try.func154 rfl Try.ntmps154 rfl fun a hk => ?_
  apply wp_seq_k; intro K1 hK1
  apply wp_region_lit
  refine sa _ rfl hk rfl rfl rfl fun a hk => ?_
  show wpList _ _ _ [] _ _
  refine wpList_nil ?_
  refine hK1 _ _ ?_
  apply wp_seq_k; intro K2 hK2
  apply wp_region_lit
  refine sm _ rfl hk rfl rfl rfl fun a hk => ?_
  refine sm _ rfl hk rfl rfl rfl fun a hk => ?_
  obtain ⟨y3, h4, H⟩ := bind_some H
  refine sc rfl en180 hk rfl rfl rfl (slices_IndexFunc_int_int_t _ A0_ p0_ l0 _ v0_ (hs.hasD (k := 1) rfl) f1_ c1_ e1_ q1 k1_ t1_ (hs.hasD (k := 2) rfl) _ h4) ?_
  rintro _ w ⟨rfl, hG⟩ a hk
  have hs := hs.call0 hG
  refine sv (.bool (decide (y3 ≥ 0))) hk rfl rfl rfl fun a hk => ?_
  refine sa _ rfl hk rfl rfl rfl fun a hk => ?_
  show wpList _ _ _ [] _ _
  refine wpList_nil ?_
  refine hK2 _ _ ?_
  refine wp_ret ?_
  obtain rfl := Option.some.inj H
  exact fin hk _ [(.bool (decide (y3 ≥ 0)))] rfl ⟨rfl, trivial⟩ ⟨rfl, (hs.pick [] rfl).dnil⟩

noncomputable def impl_areAll_int__c1.f (x0 : Int) (q1 : Int → Option (Bool)) : Option (Bool) :=
  ((q1 x0).bind fun y3 => (some (!y3)))
set_option maxRecDepth 100000 in
set_option maxHeartbeats 0 in
theorem impl_areAll_int__c1_t (w0 : World) (x0 : Int) (b1_ : Nat) (f1_ : FuncId) (c1_ : List Value) (e1_ : Enters Try.prog f1_) (q1 : Int → Option (Bool)) (k1_ : Chunk) (t1_ : ∀ w, Has w k1_ → ∀ (z0 : Int) (r : Bool), q1 z0 = some r → Calls Try.prog f1_ (([.int .i64 z0] : List Value) ++ c1_).toArray w (Ret (fun v w2 => v = .bool r ∧ Sat [] w w2 [] []))) (w1_ : Has w0 k1_) (h1_ : Has w0 [(b1_, .cells #[.func (.func f1_) #[] c1_.toArray] 113 (0, 0))]) (r : Bool) (H : impl_areAll_int__c1.f x0 q1 = some r) :
    Calls Try.prog 155 #[.int .i64 x0, .pointer (some ⟨b1_, 0, none⟩)] w0 (Ret (fun v w => v = .bool r ∧ Sat [] w0 w [] [])) := by
  have hs : Sat [] w0 w0 [(2, k1_), (1, [(b1_, .cells #[.func (.func f1_) #[] c1_.toArray] 113 (0, 0))])] [] := Sat.init w0 [(2, k1_), (1, [(b1_, .cells #[.func (.func f1_) #[] c1_.toArray] 113 (0, 0))])] [] (by simp only [List.mem_cons, List.not_mem_nil, or_false]; rintro x (rfl | rfl) <;> assumption) (by simp) List.nodup_nil (by simp [blks])
  unfold impl_areAll_int__c1.f at H
  refine enter Try.func155 rfl Try.ntmps155 rfl fun a hk => ?_
  apply wp_seq_k; intro K1 hK1
  apply wp_region_lit
  refine sa _ rfl hk rfl rfl rfl fun a hk => ?_
  show wpList _ _ _ [] _ _
  refine wpList_nil ?_
  refine hK1 _ _ ?_
  apply wp_seq_k; intro K2 hK2
  apply wp_region_lit
  refine sl rfl hk rfl rfl rfl ag113 (box_cellD hs (k := 1) rfl rfl) fun a hk => ?_
  refine sm _ rfl hk rfl rfl rfl fun a hk => ?_
  obtain ⟨y3, h4, H⟩ := bind_some H
  refine scv (vs := ([(.int .i64 x0)] : List Value) ++ c1_) rfl rfl e1_ hk rfl rfl rfl (t1_ _ (hs.hasD (k := 2) rfl) x0 _ h4) ?_
  rintro _ w ⟨rfl, hG⟩ a hk
  have hs := hs.call0 hG
  refine sv (.bool (!y3)) hk rfl rfl rfl fun a hk => ?_
  refine sa _ rfl hk rfl rfl rfl fun a hk => ?_
  show wpList _ _ _ [] _ _
  refine wpList_nil ?_
  refine hK2 _ _ ?_
  refine wp_ret ?_
  obtain rfl := Option.some.inj H
  exact fin hk _ [(.bool (!y3))] rfl ⟨rfl, trivial⟩ ⟨rfl, (hs.pick [] rfl).dnil⟩

noncomputable def impl_areAll_int.f (l0 : List Int) (q1 : Int → Option (Bool)) : Option (Bool) :=
  ((slices_ContainsFunc_int_int.f l0 (fun z0 => impl_areAll_int__c1.f z0 q1)).bind fun y4 => (some (!y4)))
set_option maxRecDepth 100000 in
set_option maxHeartbeats 0 in
theorem impl_areAll_int_t (w0 : World) (A0_ : Option Addr) (p0_ : Nat) (l0 : List Int) (k0_ : Chunk) (v0_ : View (Lay.int .i64) A0_ p0_ l0 k0_) (w0_ : Has w0 k0_) (f1_ : FuncId) (c1_ : List Value) (e1_ : Enters Try.prog f1_) (q1 : Int → Option (Bool)) (k1_ : Chunk) (t1_ : ∀ w, Has w k1_ → ∀ (z0 : Int) (r : Bool), q1 z0 = some r → Calls Try.prog f1_ (([.int .i64 z0] : List Value) ++ c1_).toArray w (Ret (fun v w2 => v = .bool r ∧ Sat [] w w2 [] []))) (w1_ : Has w0 k1_) (r : Bool) (H : impl_areAll_int.f l0 q1 = some r) :
    Calls Try.prog 114 #[.slice A0_ l0.length p0_, .func (.func f1_) #[] c1_.toArray] w0 (Ret (fun v w => v = .bool r ∧ Sat [] w0 w [] [])) := by
  have hs : Sat [] w0 w0 [(1, k0_), (2, k1_)] [] := Sat.init w0 [(1, k0_), (2, k1_)] [] (by simp only [List.mem_cons, List.not_mem_nil, or_false]; rintro x (rfl | rfl) <;> assumption) (by simp) List.nodup_nil (by simp [blks])
  unfold impl_areAll_int.f at H
  refine enter Try.func114 rfl Try.ntmps114 rfl fun a hk => ?_
  apply wp_seq_k; intro K1 hK1
  apply wp_region_lit
  refine sbx 3 hs rfl hk rfl rfl rfl rfl fun b2 w a hk hs => ?_
  refine sa _ rfl hk rfl rfl rfl fun a hk => ?_
  show wpList _ _ _ [] _ _
  refine wpList_nil ?_
  refine hK1 _ _ ?_
  apply wp_seq_k; intro K3 hK3
  apply wp_region_lit
  refine sm _ rfl hk rfl rfl rfl fun a hk => ?_
  refine smf (cs := [.pointer (some ⟨b2, 0, none⟩)]) rfl hk rfl rfl rfl fun a hk => ?_
  obtain ⟨y4, h5, H⟩ := bind_some H
  refine sc rfl en154 hk rfl rfl rfl (slices_ContainsFunc_int_int_t _ A0_ p0_ l0 _ v0_ (hs.hasD (k := 1) rfl) 155 [.pointer (some ⟨b2, 0, none⟩)] en155 (fun z0 => impl_areAll_int__c1.f z0 q1) ([(b2, .cells #[.func (.func f1_) #[] c1_.toArray] 113 (0, 0))] ++ k1_) (fun w hz z0 r h => impl_areAll_int__c1_t w z0 _ f1_ c1_ e1_ q1 k1_ t1_ (Has.right hz) (Has.left hz) r h) (Has.app (hs.hasG (k := 3) rfl) (hs.hasD (k := 2) rfl)) _ h5) ?_
  rintro _ w ⟨rfl, hG⟩ a hk
  have hs := hs.call0 hG
  refine sv (.bool (!y4)) hk rfl rfl rfl fun a hk => ?_
  refine sa _ rfl hk rfl rfl rfl fun a hk => ?_
  show wpList _ _ _ [] _ _
  refine wpList_nil ?_
  refine hK3 _ _ ?_
  refine wp_ret ?_
  obtain rfl := Option.some.inj H
  exact fin hk _ [(.bool (!y4))] rfl ⟨rfl, trivial⟩ ⟨rfl, (hs.pick [] rfl).dnil⟩

noncomputable def impl_reader_ends_c1.f (x0 : Int) : Option (Bool) :=
  (some (x0 == 0))
set_option maxRecDepth 100000 in
set_option maxHeartbeats 0 in
theorem impl_reader_ends_c1_t (w0 : World) (x0 : Int) (r : Bool) (H : impl_reader_ends_c1.f x0 = some r) :
    Calls Try.prog 173 #[.int .i64 x0] w0 (Ret (fun v w => v = .bool r ∧ Sat [] w0 w [] [])) := by
  have hs : Sat [] w0 w0 [] [] := Sat.init w0 [] [] (by simp) (by simp) List.nodup_nil (by simp [blks])
  unfold impl_reader_ends_c1.f at H
  refine enter Try.func173 rfl Try.ntmps173 rfl fun a hk => ?_
  apply wp_seq_k; intro K1 hK1
  apply wp_region_lit
  refine sa _ rfl hk rfl rfl rfl fun a hk => ?_
  show wpList _ _ _ [] _ _
  refine wpList_nil ?_
  refine hK1 _ _ ?_
  apply wp_seq_k; intro K2 hK2
  apply wp_region_lit
  refine sm _ rfl hk rfl rfl rfl fun a hk => ?_
  refine sv (.bool (x0 == 0)) hk rfl rfl rfl fun a hk => ?_
  refine sa _ rfl hk rfl rfl rfl fun a hk => ?_
  show wpList _ _ _ [] _ _
  refine wpList_nil ?_
  refine hK2 _ _ ?_
  refine wp_ret ?_
  obtain rfl := Option.some.inj H
  exact fin hk _ [(.bool (x0 == 0))] rfl ⟨rfl, trivial⟩ ⟨rfl, (hs.pick [] rfl).dnil⟩

noncomputable def impl_reader_ends.f (x0 : S_reader) : Option (Bool × Int × Bool) :=
  (((bif (!x0.bad) then (if 0 ≤ x0.at_ ∧ x0.at_ ≤ (x0.list.length : Int) then ((impl_areAll_int.f (x0.list.drop x0.at_.toNat) impl_reader_ends_c1.f).bind fun y13 => (some y13)) else none) else (some false)) : Option (Bool)).bind fun u4 => (some (u4, x0.at_, x0.bad)))
set_option maxRecDepth 100000 in
set_option maxHeartbeats 0 in
theorem impl_reader_ends_t (w0 : World) (b0_ : Nat) (x0 : S_reader) (A0_0 : Option Addr) (p0_0 : Nat) (k0_0 : Chunk) (v0_0 : View (Lay.int .i64) A0_0 p0_0 x0.list k0_0) (w0_0 : Has w0 k0_0) (hs0 : Sat (blks [(1, [(b0_, .cells #[.slice A0_0 x0.list.length p0_0, .int .i64 x0.at_, .bool x0.bad] 183 (0, 0))])]) w0 w0 [(2, k0_0)] [(1, [(b0_, .cells #[.slice A0_0 x0.list.length p0_0, .int .i64 x0.at_, .bool x0.bad] 183 (0, 0))])]) (r : Bool × Int × Bool) (H : impl_reader_ends.f x0 = some r) :
    Calls Try.prog 139 #[.pointer (some ⟨b0_, 0, none⟩)] w0 (Ret (fun v w => v = .bool r.1 ∧ Sat (blks [(1, [(b0_, .cells #[.slice A0_0 x0.list.length p0_0, .int .i64 x0.at_, .bool x0.bad] 183 (0, 0))])]) w0 w [] [(0, [(b0_, .cells #[.slice A0_0 x0.list.length p0_0, .int .i64 r.2.1, .bool r.2.2] 183 (0, 0))])])) := by
  have hs := hs0
  unfold impl_reader_ends.f at H
  refine enter Try.func139 rfl Try.ntmps139 rfl fun a hk => ?_
  apply wp_seq_k; intro K1 hK1
  apply wp_region_lit
  refine sa _ rfl hk rfl rfl rfl fun a hk => ?_
  show wpList _ _ _ [] _ _
  refine wpList_nil ?_
  refine hK1 _ _ ?_
  apply wp_seq_k; intro K2 hK2
  obtain ⟨o5, h6, HL7⟩ := bind_some H
  clear H
  obtain ⟨R8, hR8⟩ : ∃ R : Act → World → Prop, R = fun a w => ∃ (u4 : Bool), u4 = o5 ∧ Kn [(0, (.pointer (some ⟨b0_, 0, none⟩))), (2, (.bool u4))] 20 a ∧ Sat (blks [(1, [(b0_, .cells #[.slice A0_0 x0.list.length p0_0, .int .i64 x0.at_, .bool x0.bad] 183 (0, 0))])]) w0 w [(2, k0_0)] [(1, [(b0_, .cells #[.slice A0_0 x0.list.length p0_0, .int .i64 x0.at_, .bool x0.bad] 183 (0, 0))])] := ⟨_, rfl⟩
  refine wp_cutq R8 ?_ ?_
  · have H := h6
    refine wp_region_mix [(0, true), (1, true), (2, true), (3, true), (4, true), (5, true), (6, true), (7, true), (8, true), (9, true), (10, true), (11, true), (12, true), (13, true), (14, true), (15, true), (16, true), (17, true)] mo (by kernel_rfl) hs fun _ => ?_
    have hs := hs.drew
    refine qst (.pointer (some ⟨b0_, 0, none⟩)) hk rfl rfl rfl rfl (fun w hs => sm _ rfl hk rfl rfl rfl fun a hk => qe hk) fun a hk => ?_
    refine qst (.pointer (some ⟨b0_, 0, none⟩)) hk rfl rfl rfl rfl (fun w hs => snk rfl hk rfl rfl rfl fun a hk => qe hk) fun a hk => ?_
    refine qst (.pointer (some ⟨b0_, 2, none⟩)) hk rfl rfl rfl rfl (fun w hs => sf ⟨b0_, 2, none⟩ rfl hk rfl rfl rfl fd183_2 rfl fun a hk => qe hk) fun a hk => ?_
    refine qst (.bool x0.bad) hk rfl rfl rfl rfl (fun w hs => sl rfl hk rfl rfl rfl ag4 (box_cell hs (k := 1) rfl rfl) fun a hk => qe hk) fun a hk => ?_
    refine qst (.bool (!x0.bad)) hk rfl rfl rfl rfl (fun w hs => sv (.bool (!x0.bad)) hk rfl rfl rfl fun a hk => qe hk) fun a hk => ?_
    refine qst (.bool (!x0.bad)) hk rfl rfl rfl rfl (fun w hs => sm _ rfl hk rfl rfl rfl fun a hk => qe hk) fun a hk => ?_
    rcases cond_some H with ⟨c9, H⟩ | ⟨c9, H⟩
    · have hk := hk.lit 8 c9 rfl
      refine qst (.pointer (some ⟨b0_, 0, none⟩)) hk rfl rfl rfl rfl (fun w hs => sm _ rfl hk rfl rfl rfl fun a hk => qe hk) fun a hk => ?_
      refine qst (.pointer (some ⟨b0_, 0, none⟩)) hk rfl rfl rfl rfl (fun w hs => snk rfl hk rfl rfl rfl fun a hk => qe hk) fun a hk => ?_
      refine qst (.pointer (some ⟨b0_, 0, none⟩)) hk rfl rfl rfl rfl (fun w hs => sf ⟨b0_, 0, none⟩ rfl hk rfl rfl rfl fd183_0 rfl fun a hk => qe hk) fun a hk => ?_
      refine qst (.slice A0_0 x0.list.length p0_0) hk rfl rfl rfl rfl (fun w hs => sl rfl hk rfl rfl rfl ag31 (box_cell hs (k := 1) rfl rfl) fun a hk => qe hk) fun a hk => ?_
      refine qst (.pointer (some ⟨b0_, 0, none⟩)) hk rfl rfl rfl rfl (fun w hs => sm _ rfl hk rfl rfl rfl fun a hk => qe hk) fun a hk => ?_
      refine qst (.pointer (some ⟨b0_, 0, none⟩)) hk rfl rfl rfl rfl (fun w hs => snk rfl hk rfl rfl rfl fun a hk => qe hk) fun a hk => ?_
      refine qst (.pointer (some ⟨b0_, 1, none⟩)) hk rfl rfl rfl rfl (fun w hs => sf ⟨b0_, 1, none⟩ rfl hk rfl rfl rfl fd183_1 rfl fun a hk => qe hk) fun a hk => ?_
      refine qst (.int .i64 x0.at_) hk rfl rfl rfl rfl (fun w hs => sl rfl hk rfl rfl rfl ag3 (box_cell hs (k := 1) rfl rfl) fun a hk => qe hk) fun a hk => ?_
      rcases ite_some H with ⟨c10, H⟩ | ⟨_, H⟩
      rotate_left
      · cases H
      refine qst (.slice (if p0_0 = x0.at_.toNat then A0_0 else (A0_0 : Option Addr).map (·.add (x0.at_.toNat * 1))) (x0.list.length - x0.at_.toNat) (p0_0 - x0.at_.toNat)) hk rfl rfl rfl rfl (fun w hs => sll_l rfl hk rfl rfl rfl rfl un31 sz3 c10.1 c10.2 fun a hk => qe hk) fun a hk => ?_
      have v11 : View (Lay.int .i64) (if p0_0 = x0.at_.toNat then A0_0 else (A0_0 : Option Addr).map (·.add (x0.at_.toNat * 1))) (p0_0 - x0.at_.toNat) (x0.list.drop x0.at_.toNat) k0_0 := (v0_0).dropv x0.at_.toNat (by omega)
      have lh12 : (x0.list.drop x0.at_.toNat).length = (x0.list.length - x0.at_.toNat) := (by rw [List.length_drop])
      have hk := hk.re 17 (v' := (.slice (if p0_0 = x0.at_.toNat then A0_0 else (A0_0 : Option Addr).map (·.add (x0.at_.toNat * 1))) (x0.list.drop x0.at_.toNat).length (p0_0 - x0.at_.toNat))) rfl (by rw [lh12])
      obtain ⟨y13, h14, H⟩ := bind_some H
      refine qst (.bool y13) hk rfl rfl rfl rfl (fun w hs => sc rfl en114 hk rfl rfl rfl (impl_areAll_int_t _ (if p0_0 = x0.at_.toNat then A0_0 else (A0_0 : Option Addr).map (·.add (x0.at_.toNat * 1))) (p0_0 - x0.at_.toNat) (x0.list.drop x0.at_.toNat) _ v11 (hs.hasD (k := 2) rfl) 173 [] en173 impl_reader_ends_c1.f [] (fun w _ z0 r h => impl_reader_ends_c1_t w z0 r h) (Has.nil _) _ h14) fun _ w hR a hk => qc hR hk) fun a hk => ?_
      refine qst (.bool y13) hk rfl rfl rfl rfl (fun w hs => sv (.bool y13) hk rfl rfl rfl fun a hk => qe hk) fun a hk => ?_
      refine qst (.bool y13) hk rfl rfl rfl rfl (fun w hs => sa _ rfl hk rfl rfl rfl fun a hk => qe hk) fun a hk => ?_
      refine wml_nil fun w hF _ => ?_
      have hs := hs.f hF
      obtain rfl := Option.some.inj H
      show R8 _ _
      rw [hR8]
      exact ⟨y13, rfl, (hk.c 0 rfl (hk.c 2 rfl hk.k)), (hs.pick [(1, 1)] rfl)⟩
    · have hk := hk.lit 8 c9 rfl
      refine qsk hk rfl rfl rfl rfl fun a hk => ?_
      refine qsk hk rfl rfl rfl rfl fun a hk => ?_
      refine qsk hk rfl rfl rfl rfl fun a hk => ?_
      refine qsk hk rfl rfl rfl rfl fun a hk => ?_
      refine qsk hk rfl rfl rfl rfl fun a hk => ?_
      refine qsk hk rfl rfl rfl rfl fun a hk => ?_
      refine qsk hk rfl rfl rfl rfl fun a hk => ?_
      refine qsk hk rfl rfl rfl rfl fun a hk => ?_
      refine qsk hk rfl rfl rfl rfl fun a hk => ?_
      refine qsk hk rfl rfl rfl rfl fun a hk => ?_
      refine qst (.bool false) hk rfl rfl rfl rfl (fun w hs => sv (.bool false) hk rfl rfl rfl fun a hk => qe hk) fun a hk => ?_
      refine qst (.bool false) hk rfl rfl rfl rfl (fun w hs => sa _ rfl hk rfl rfl rfl fun a hk => qe hk) fun a hk => ?_
      refine wml_nil fun w hF _ => ?_
      have hs := hs.f hF
      obtain rfl := Option.some.inj H
      show R8 _ _
      rw [hR8]
      exact ⟨false, rfl, (hk.c 0 rfl (hk.c 2 rfl hk.k)), (hs.pick [(1, 1)] rfl)⟩
  · intro a w hR0
    rw [hR8] at hR0
    obtain ⟨u4, rfl, hk, hs⟩ := hR0
    have H := HL7
    try dsimp only at H
    refine hK2 _ _ ?_
    refine wp_ret ?_
    obtain rfl := Option.some.inj H
    exact fin hk _ [(.bool u4)] rfl ⟨rfl, trivial⟩ ⟨rfl, (hs.pick [(0, 1)] rfl).dnil⟩

noncomputable def impl_readBucket.f (x0 : ByteArray) : Option ((List S_Block) × Bool) :=
  ((impl_readerOf.f x0 7).bind fun y3 => ((impl_reader_blocks.f y3 2).bind fun y11 => ((impl_reader_ends.f (⟨y3.list, y11.2.1, y11.2.2⟩ : S_reader)).bind fun y18 => (some (y11.1, y18.1)))))
set_option maxRecDepth 100000 in
set_option maxHeartbeats 0 in
theorem impl_readBucket_t (w0 : World) (x0 : ByteArray) (r : (List S_Block) × Bool) (H : impl_readBucket.f x0 = some r) :
    Calls Try.prog 87 #[.string x0] w0 (Ret (fun v w => ∃ (A0 : Option Addr) (p0 : Nat) (k0 : Chunk), v = .tuple #[.slice A0 r.1.length p0, .bool r.2] ∧ Own L_Block 81 A0 p0 r.1 k0 ∧ Sat [] w0 w [] [(0, k0)])) := by
  have hs : Sat [] w0 w0 [] [] := Sat.init w0 [] [] (by simp) (by simp) List.nodup_nil (by simp [blks])
  unfold impl_readBucket.f at H
  refine enter Try.func87 rfl Try.ntmps87 rfl fun a hk => ?_
  apply wp_seq_k; intro K1 hK1
  apply wp_region_lit
  refine sa _ rfl hk rfl rfl rfl fun a hk => ?_
  refine sa _ rfl hk rfl rfl rfl fun a hk => ?_
  show wpList _ _ _ [] _ _
  refine wpList_nil ?_
  refine hK1 _ _ ?_
  apply wp_seq_k; intro K2 hK2
  apply wp_region_lit
  refine sm _ rfl hk rfl rfl rfl fun a hk => ?_
  obtain ⟨y3, h4, H⟩ := bind_some H
  refine sc rfl en137 hk rfl rfl rfl (impl_readerOf_t _ x0 7 _ h4) ?_
  rintro _ w ⟨b5, A6, p7, k8, rfl, o9, hG⟩ a hk
  have hs := hs.call0k hG [1, 2] rfl
  refine sa _ rfl hk rfl rfl rfl fun a hk => ?_
  show wpList _ _ _ [] _ _
  refine wpList_nil ?_
  refine hK2 _ _ ?_
  apply wp_seq_k; intro K10 hK10
  apply wp_region_lit
  refine sm _ rfl hk rfl rfl rfl fun a hk => ?_
  obtain ⟨y11, h12, H⟩ := bind_some H
  refine sc rfl en138 hk rfl rfl rfl (impl_reader_blocks_t _ b5 y3 A6 p7 _ o9.view (hs.hasG (k := 2) rfl) 2 ((hs.hand [(1, 1)] rfl).dpick [(2, 2)] rfl) _ h12) ?_
  rintro _ w ⟨A13, p14, k15, rfl, o16, hG⟩ a hk
  have hs := hs.back [(1, 1)] rfl hG [3, 1] rfl
  refine sa _ rfl hk rfl rfl rfl fun a hk => ?_
  show wpList _ _ _ [] _ _
  refine wpList_nil ?_
  refine hK10 _ _ ?_
  apply wp_seq_k; intro K17 hK17
  apply wp_region_lit
  refine sm _ rfl hk rfl rfl rfl fun a hk => ?_
  refine sm _ rfl hk rfl rfl rfl fun a hk => ?_
  obtain ⟨y18, h19, H⟩ := bind_some H
  refine sc rfl en139 hk rfl rfl rfl (impl_reader_ends_t _ b5 (⟨y3.list, y11.2.1, y11.2.2⟩ : S_reader) A6 p7 _ o9.view (hs.hasG (k := 2) rfl) ((hs.hand [(1, 1)] rfl).dpick [(2, 2)] rfl) _ h19) ?_
  rintro _ w ⟨rfl, hG⟩ a hk
  have hs := hs.back [(1, 1)] rfl hG [1] rfl
  refine sa _ rfl hk rfl rfl rfl fun a hk => ?_
  refine sa _ rfl hk rfl rfl rfl fun a hk => ?_
  show wpList _ _ _ [] _ _
  refine wpList_nil ?_
  refine hK17 _ _ ?_
  refine wp_ret ?_
  obtain rfl := Option.some.inj H
  exact fin hk _ [(.slice A13 y11.1.length p14), (.bool y18.1)] rfl ⟨rfl, ⟨rfl, trivial⟩⟩ ⟨A13, p14, _, rfl, o16, (hs.pick [(0, 3)] rfl).dnil⟩

noncomputable def impl_ReadBucket.f (x0 : ByteArray) : Option ((List S_Block) × Int) :=
  ((impl_areShort.f ([x0])).bind fun y7 => (bif (!y7) then (some (([] : List S_Block), 2)) else ((impl_readBucket.f x0).bind fun y12 => (bif (!y12.2) then (some (([] : List S_Block), 3)) else (some (y12.1, 0))))))
set_option maxRecDepth 100000 in
set_option maxHeartbeats 0 in
theorem impl_ReadBucket_t (w0 : World) (x0 : ByteArray) (r : (List S_Block) × Int) (H : impl_ReadBucket.f x0 = some r) :
    Calls Try.prog 34 #[.string x0] w0 (Ret (fun v w => ∃ (A0 : Option Addr) (p0 : Nat) (k0 : Chunk), v = .tuple #[.slice A0 r.1.length p0, .int .i64 r.2] ∧ Own L_Block 81 A0 p0 r.1 k0 ∧ Sat [] w0 w [] [(0, k0)])) := by
  have hs : Sat [] w0 w0 [] [] := Sat.init w0 [] [] (by simp) (by simp) List.nodup_nil (by simp [blks])
  unfold impl_ReadBucket.f at H
  refine enter Try.func34 rfl Try.ntmps34 rfl fun a hk => ?_
  apply wp_seq_k; intro K1 hK1
  apply wp_region_lit
  refine sa _ rfl hk rfl rfl rfl fun a hk => ?_
  refine sa _ rfl hk rfl rfl rfl fun a hk => ?_
  show wpList _ _ _ [] _ _
  refine wpList_nil ?_
  refine hK1 _ _ ?_
  apply wp_seq_k; intro K2 hK2
  apply wp_seq_k; intro K3 hK3
  apply wp_region_lit
  refine sm _ rfl hk rfl rfl rfl fun a hk => ?_
  refine sbs (L := Lay.str) (pv := [(0, (.string x0))]) (xs := [x0]) (ess := [[.string x0]]) 1 hs rfl hk rfl rfl rfl un154 (bs9_8 x0) (AllOwn.cons0 ⟨rfl, rfl⟩ AllOwn.nil) rfl rfl rfl fun b4 k5 w a hk o6 hs => ?_
  obtain ⟨y7, h8, H⟩ := bind_some H
  refine sc rfl en86 hk rfl rfl rfl (impl_areShort_t _ (some ⟨b4, 0, none⟩) 1 ([x0]) _ o6.view (hs.hasG (k := 1) rfl) _ h8) ?_
  rintro _ w ⟨rfl, hG⟩ a hk
  have hs := hs.call0 hG
  refine sv (.bool (!y7)) hk rfl rfl rfl fun a hk => ?_
  show wpList _ _ _ [] _ _
  refine wpList_nil ?_
  refine hK3 _ _ ?_
  rcases cond_some H with ⟨c9, H⟩ | ⟨c9, H⟩
  · have hk := hk.lit 9 c9 rfl
    refine cnd_true hk rfl rfl ?_
    apply wp_seq_k; intro K10 hK10
    apply wp_region_lit
    refine sa _ rfl hk rfl rfl rfl fun a hk => ?_
    refine sa _ rfl hk rfl rfl rfl fun a hk => ?_
    show wpList _ _ _ [] _ _
    refine wpList_nil ?_
    refine hK10 _ _ ?_
    refine wp_ret ?_
    obtain rfl := Option.some.inj H
    have hs := hs.addNil 2
    exact fin hk _ [(.slice none 0 0), (.int .i64 2)] rfl ⟨rfl, ⟨rfl, trivial⟩⟩ ⟨none, 0, [], rfl, Own.nil _ _, (hs.pick [(0, 2)] rfl).dnil⟩
  · have hk := hk.lit 9 c9 rfl
    refine cnd_false hk rfl rfl ?_
    refine wp_skip ?_
    refine hK2 _ _ ?_
    apply wp_seq_k; intro K11 hK11
    apply wp_region_lit
    refine sm _ rfl hk rfl rfl rfl fun a hk => ?_
    obtain ⟨y12, h13, H⟩ := bind_some H
    refine sc rfl en87 hk rfl rfl rfl (impl_readBucket_t _ x0 _ h13) ?_
    rintro _ w ⟨A14, p15, k16, rfl, o17, hG⟩ a hk
    have hs := hs.call0k hG [3] rfl
    refine sm _ rfl hk rfl rfl rfl fun a hk => ?_
    refine sv (.slice A14 y12.1.length p15) hk rfl rfl rfl fun a hk => ?_
    refine sv (.bool y12.2) hk rfl rfl rfl fun a hk => ?_
    refine sa _ rfl hk rfl rfl rfl fun a hk => ?_
    refine sa _ rfl hk rfl rfl rfl fun a hk => ?_
    show wpList _ _ _ [] _ _
    refine wpList_nil ?_
    refine hK11 _ _ ?_
    apply wp_seq_k; intro K18 hK18
    apply wp_seq_k; intro K19 hK19
    apply wp_region_lit
    refine sm _ rfl hk rfl rfl rfl fun a hk => ?_
    refine sv (.bool (!y12.2)) hk rfl rfl rfl fun a hk => ?_
    show wpList _ _ _ [] _ _
    refine wpList_nil ?_
    refine hK19 _ _ ?_
    rcases cond_some H with ⟨c20, H⟩ | ⟨c20, H⟩
    · have hk := hk.lit 16 c20 rfl
      refine cnd_true hk rfl rfl ?_
      apply wp_seq_k; intro K21 hK21
      apply wp_region_lit
      refine sa _ rfl hk rfl rfl rfl fun a hk => ?_
      refine sa _ rfl hk rfl rfl rfl fun a hk => ?_
      show wpList _ _ _ [] _ _
      refine wpList_nil ?_
      refine hK21 _ _ ?_
      refine wp_ret ?_
      obtain rfl := Option.some.inj H
      have hs := hs.addNil 4
      exact fin hk _ [(.slice none 0 0), (.int .i64 3)] rfl ⟨rfl, ⟨rfl, trivial⟩⟩ ⟨none, 0, [], rfl, Own.nil _ _, (hs.pick [(0, 4)] rfl).dnil⟩
    · have hk := hk.lit 16 c20 rfl
      refine cnd_false hk rfl rfl ?_
      refine wp_skip ?_
      refine hK18 _ _ ?_
      apply wp_seq_k; intro K22 hK22
      apply wp_region_lit
      refine sm _ rfl hk rfl rfl rfl fun a hk => ?_
      refine sa _ rfl hk rfl rfl rfl fun a hk => ?_
      refine sa _ rfl hk rfl rfl rfl fun a hk => ?_
      show wpList _ _ _ [] _ _
      refine wpList_nil ?_
      refine hK22 _ _ ?_
      refine wp_ret ?_
      obtain rfl := Option.some.inj H
      exact fin hk _ [(.slice A14 y12.1.length p15), (.int .i64 0)] rfl ⟨rfl, ⟨rfl, trivial⟩⟩ ⟨A14, p15, _, rfl, o17, (hs.pick [(0, 3)] rfl).dnil⟩

noncomputable def laws_markBlockS.s0 (l0 : List S_Block) (u6 : List S_Block) (u10 : Int) (u11 : Int) : Option (((List S_Block) × Int × Int) ⊕ Ex ((List S_Block) × Int) (Int × (List S_Block))) :=
  (bif (decide (u11 < (l0.length : Int))) then (if 0 ≤ u11 ∧ u11 < (l0.length : Int) then (if 0 ≤ u11 ∧ u11 < (l0.length : Int) then (if 0 ≤ u11 ∧ u11 < (l0.length : Int) then (some (.inl ((((u6.set u11.toNat (⟨u10, (u6.getD u11.toNat z_Block).Leaf, (u6.getD u11.toNat z_Block).Value⟩ : S_Block)).set u11.toNat (⟨((u6.set u11.toNat (⟨u10, (u6.getD u11.toNat z_Block).Leaf, (u6.getD u11.toNat z_Block).Value⟩ : S_Block)).getD u11.toNat z_Block).Id, (w64 (u10 + 1)), ((u6.set u11.toNat (⟨u10, (u6.getD u11.toNat z_Block).Leaf, (u6.getD u11.toNat z_Block).Value⟩ : S_Block)).getD u11.toNat z_Block).Value⟩ : S_Block)).set u11.toNat (⟨(((u6.set u11.toNat (⟨u10, (u6.getD u11.toNat z_Block).Leaf, (u6.getD u11.toNat z_Block).Value⟩ : S_Block)).set u11.toNat (⟨((u6.set u11.toNat (⟨u10, (u6.getD u11.toNat z_Block).Leaf, (u6.getD u11.toNat z_Block).Value⟩ : S_Block)).getD u11.toNat z_Block).Id, (w64 (u10 + 1)), ((u6.set u11.toNat (⟨u10, (u6.getD u11.toNat z_Block).Leaf, (u6.getD u11.toNat z_Block).Value⟩ : S_Block)).getD u11.toNat z_Block).Value⟩ : S_Block)).getD u11.toNat z_Block).Id, (((u6.set u11.toNat (⟨u10, (u6.getD u11.toNat z_Block).Leaf, (u6.getD u11.toNat z_Block).Value⟩ : S_Block)).set u11.toNat (⟨((u6.set u11.toNat (⟨u10, (u6.getD u11.toNat z_Block).Leaf, (u6.getD u11.toNat z_Block).Value⟩ : S_Block)).getD u11.toNat z_Block).Id, (w64 (u10 + 1)), ((u6.set u11.toNat (⟨u10, (u6.getD u11.toNat z_Block).Leaf, (u6.getD u11.toNat z_Block).Value⟩ : S_Block)).getD u11.toNat z_Block).Value⟩ : S_Block)).getD u11.toNat z_Block).Leaf, (w64 ((w64 (u10 + 1)) + 1))⟩ : S_Block)), (w64 ((w64 ((w64 (u10 + 1)) + 1)) + 1)), (w64 (u11 + 1))))) else none) else none) else none) else (some (.inr (.out (u6, u10)))))
noncomputable def laws_markBlockS.f (l0 : List S_Block) (x1 : Int) : Option (Int × (List S_Block)) :=
  ((loopO (fun s => laws_markBlockS.s0 l0 s.1 s.2.1 s.2.2) (l0, x1, 0)).bind fun o => match o with | .out (u12, u16) => (some (u16, u12)) | .ret r => (some r))
set_option maxRecDepth 100000 in
set_option maxHeartbeats 0 in
theorem laws_markBlockS_t (w0 : World) (A0_ : Option Addr) (p0_ : Nat) (l0 : List S_Block) (k0_ : Chunk) (v0_ : Own L_Block 81 A0_ p0_ l0 k0_) (x1 : Int) (hs0 : Sat (blks [(1, k0_)]) w0 w0 [] [(1, k0_)]) (r : Int × (List S_Block)) (H : laws_markBlockS.f l0 x1 = some r) :
    Calls Try.prog 35 #[.slice A0_ l0.length p0_, .int .i64 x1] w0 (Ret (fun v w => ∃ (k0 : Chunk), v = .int .i64 r.1 ∧ (Own L_Block 81 A0_ p0_ r.2 k0 ∧ r.2.length = l0.length) ∧ Sat (blks [(1, k0_)]) w0 w [] [(0, k0)])) := by
  have hs := hs0
  unfold laws_markBlockS.f at H
  refine enter Try.func35 rfl Try.ntmps35 rfl fun a hk => ?_
  apply wp_seq_k; intro K1 hK1
  apply wp_region_lit
  refine sa _ rfl hk rfl rfl rfl fun a hk => ?_
  show wpList _ _ _ [] _ _
  refine wpList_nil ?_
  refine hK1 _ _ ?_
  apply wp_seq_k; intro K2 hK2
  apply wp_seq_k; intro K3 hK3
  apply wp_region_lit
  refine sa _ rfl hk rfl rfl rfl fun a hk => ?_
  show wpList _ _ _ [] _ _
  refine wpList_nil ?_
  refine hK3 _ _ ?_
  obtain ⟨o17, h18, HL19⟩ := bind_some H
  clear H
  obtain ⟨R20, hR20⟩ : ∃ R : Act → World → Prop, R = fun a w => ∃ (u12 : List S_Block) (u16 : Int) (k13 : Chunk), o17 = .out (u12, u16) ∧ Kn [(0, (.slice A0_ l0.length p0_)), (1, (.int .i64 u16))] 34 a ∧ Sat (blks [(1, k0_)]) w0 w [] [(1, k13)] ∧ Own L_Block 81 A0_ p0_ u12 k13 ∧ u12.length = l0.length := ⟨_, rfl⟩
  refine wp_cutq R20 ?_ ?_
  · refine wp_block ?_
    obtain ⟨fu22, h18⟩ := loopO_some h18
    obtain ⟨I21, hI21⟩ : ∃ I : Nat → Act → World → Prop, I = fun fu a w => ∃ (u6 : List S_Block) (u10 : Int) (u11 : Int) (k7 : Chunk), loopN (fun s => laws_markBlockS.s0 l0 s.1 s.2.1 s.2.2) fu (u6, u10, u11) = some o17 ∧ Kn [(0, (.slice A0_ l0.length p0_)), (1, (.int .i64 u10)), (5, (.int .i64 u11))] 34 a ∧ Sat (blks [(1, k0_)]) w0 w [] [(1, k7)] ∧ Own L_Block 81 A0_ p0_ u6 k7 ∧ u6.length = l0.length := ⟨_, rfl⟩
    refine wp_loop_ghost I21 fu22 ?_ ?_
    · rw [hI21]
      exact ⟨l0, x1, 0, _, h18, (hk.c 0 rfl (hk.c 1 rfl (hk.c 5 rfl hk.k))), (hs.pick [(1, 1)] rfl), v0_, rfl⟩
    · clear h18 hk hs
      intro fu22 a w hI0
      rw [hI21] at hI0
      obtain ⟨u6, u10, u11, k7, hi, hk, hs, o8, lh9⟩ := hI0
      obtain ⟨x23, H, h24⟩ := loop_round hi
      try dsimp only at H
      unfold laws_markBlockS.s0 at H
      apply wp_seq_k; intro K25 hK25
      apply wp_seq_k; intro K26 hK26
      apply wp_region_lit
      refine sm _ rfl hk rfl rfl rfl fun a hk => ?_
      refine sm _ rfl hk rfl rfl rfl fun a hk => ?_
      refine sle rfl hk rfl rfl rfl un26 fun a hk => ?_
      refine sv (.bool (decide (u11 < (l0.length : Int)))) hk rfl rfl rfl fun a hk => ?_
      show wpList _ _ _ [] _ _
      refine wpList_nil ?_
      refine hK26 _ _ ?_
      rcases cond_some H with ⟨c27, H⟩ | ⟨c27, H⟩
      · have hk := hk.lit 9 c27 rfl
        refine cnd_true hk rfl rfl ?_
        refine wp_skip ?_
        refine hK25 _ _ ?_
        apply wp_seq_k; intro K28 hK28
        refine wp_block ?_
        apply wp_seq_k; intro K29 hK29
        apply wp_region_lit
        refine sm _ rfl hk rfl rfl rfl fun a hk => ?_
        refine sm _ rfl hk rfl rfl rfl fun a hk => ?_
        refine sm _ rfl hk rfl rfl rfl fun a hk => ?_
        rcases ite_some H with ⟨c30, H⟩ | ⟨_, H⟩
        rotate_left
        · cases H
        obtain ⟨b31, q32, hAc30⟩ := (o8.view).some_ u11 c30.1 (by rw [lh9]; exact c30.2)
        refine si rfl hk rfl rfl rfl rfl un26 sz81 c30.1 c30.2 hAc30 fun a hk => ?_
        refine sf (padd A0_ (u11.toNat * 3 + 0)) rfl hk rfl rfl rfl fd81_0 (padd_add _ _ _) fun a hk => ?_
        refine so (j := 0) 1 z_Block (⟨u10, (u6.getD u11.toNat z_Block).Leaf, (u6.getD u11.toNat z_Block).Value⟩ : S_Block) hs rfl o8 c30.1 (by rw [lh9]; exact c30.2) rfl hk rfl rfl rfl rfl rfl sz3 (by simp [Value.cells, Value.oneCell']) (Nat.le_of_ble_eq_true rfl) (fun _ _ h => ⟨by rw [h.1]; rfl, h.2⟩) fun k33 w a hk o34 hs => ?_
        have lh35 : (u6.set u11.toNat (⟨u10, (u6.getD u11.toNat z_Block).Leaf, (u6.getD u11.toNat z_Block).Value⟩ : S_Block)).length = l0.length := by rw [List.length_set]; exact lh9
        show wpList _ _ _ [] _ _
        refine wpList_nil ?_
        refine hK29 _ _ ?_
        apply wp_seq_k; intro K36 hK36
        apply wp_region_lit
        refine sm _ rfl hk rfl rfl rfl fun a hk => ?_
        refine sv (.int .i64 (w64 (u10 + 1))) hk rfl rfl rfl fun a hk => ?_
        refine sa _ rfl hk rfl rfl rfl fun a hk => ?_
        show wpList _ _ _ [] _ _
        refine wpList_nil ?_
        refine hK36 _ _ ?_
        apply wp_seq_k; intro K37 hK37
        apply wp_region_lit
        refine sm _ rfl hk rfl rfl rfl fun a hk => ?_
        refine sm _ rfl hk rfl rfl rfl fun a hk => ?_
        refine sm _ rfl hk rfl rfl rfl fun a hk => ?_
        rcases ite_some H with ⟨c38, H⟩ | ⟨_, H⟩
        rotate_left
        · cases H
        obtain ⟨b39, q40, hAc38⟩ := (o34.view).some_ u11 c38.1 (by rw [lh35]; exact c38.2)
        refine si rfl hk rfl rfl rfl rfl un26 sz81 c38.1 c38.2 hAc38 fun a hk => ?_
        refine sf (padd A0_ (u11.toNat * 3 + 1)) rfl hk rfl rfl rfl fd81_1 (padd_add _ _ _) fun a hk => ?_
        refine so (j := 1) 1 z_Block (⟨((u6.set u11.toNat (⟨u10, (u6.getD u11.toNat z_Block).Leaf, (u6.getD u11.toNat z_Block).Value⟩ : S_Block)).getD u11.toNat z_Block).Id, (w64 (u10 + 1)), ((u6.set u11.toNat (⟨u10, (u6.getD u11.toNat z_Block).Leaf, (u6.getD u11.toNat z_Block).Value⟩ : S_Block)).getD u11.toNat z_Block).Value⟩ : S_Block) hs rfl o34 c38.1 (by rw [lh35]; exact c38.2) rfl hk rfl rfl rfl rfl rfl sz3 (by simp [Value.cells, Value.oneCell']) (Nat.le_of_ble_eq_true rfl) (fun _ _ h => ⟨by rw [h.1]; rfl, h.2⟩) fun k41 w a hk o42 hs => ?_
        have lh43 : ((u6.set u11.toNat (⟨u10, (u6.getD u11.toNat z_Block).Leaf, (u6.getD u11.toNat z_Block).Value⟩ : S_Block)).set u11.toNat (⟨((u6.set u11.toNat (⟨u10, (u6.getD u11.toNat z_Block).Leaf, (u6.getD u11.toNat z_Block).Value⟩ : S_Block)).getD u11.toNat z_Block).Id, (w64 (u10 + 1)), ((u6.set u11.toNat (⟨u10, (u6.getD u11.toNat z_Block).Leaf, (u6.getD u11.toNat z_Block).Value⟩ : S_Block)).getD u11.toNat z_Block).Value⟩ : S_Block)).length = l0.length := by rw [List.length_set]; exact lh35
        show wpList _ _ _ [] _ _
        refine wpList_nil ?_
        refine hK37 _ _ ?_
        apply wp_seq_k; intro K44 hK44
        apply wp_region_lit
        refine sm _ rfl hk rfl rfl rfl fun a hk => ?_
        refine sv (.int .i64 (w64 ((w64 (u10 + 1)) + 1))) hk rfl rfl rfl fun a hk => ?_
        refine sa _ rfl hk rfl rfl rfl fun a hk => ?_
        show wpList _ _ _ [] _ _
        refine wpList_nil ?_
        refine hK44 _ _ ?_
        apply wp_seq_k; intro K45 hK45
        apply wp_region_lit
        refine sm _ rfl hk rfl rfl rfl fun a hk => ?_
        refine sm _ rfl hk rfl rfl rfl fun a hk => ?_
        refine sm _ rfl hk rfl rfl rfl fun a hk => ?_
        rcases ite_some H with ⟨c46, H⟩ | ⟨_, H⟩
        rotate_left
        · cases H
        obtain ⟨b47, q48, hAc46⟩ := (o42.view).some_ u11 c46.1 (by rw [lh43]; exact c46.2)
        refine si rfl hk rfl rfl rfl rfl un26 sz81 c46.1 c46.2 hAc46 fun a hk => ?_
        refine sf (padd A0_ (u11.toNat * 3 + 2)) rfl hk rfl rfl rfl fd81_2 (padd_add _ _ _) fun a hk => ?_
        refine so (j := 2) 1 z_Block (⟨(((u6.set u11.toNat (⟨u10, (u6.getD u11.toNat z_Block).Leaf, (u6.getD u11.toNat z_Block).Value⟩ : S_Block)).set u11.toNat (⟨((u6.set u11.toNat (⟨u10, (u6.getD u11.toNat z_Block).Leaf, (u6.getD u11.toNat z_Block).Value⟩ : S_Block)).getD u11.toNat z_Block).Id, (w64 (u10 + 1)), ((u6.set u11.toNat (⟨u10, (u6.getD u11.toNat z_Block).Leaf, (u6.getD u11.toNat z_Block).Value⟩ : S_Block)).getD u11.toNat z_Block).Value⟩ : S_Block)).getD u11.toNat z_Block).Id, (((u6.set u11.toNat (⟨u10, (u6.getD u11.toNat z_Block).Leaf, (u6.getD u11.toNat z_Block).Value⟩ : S_Block)).set u11.toNat (⟨((u6.set u11.toNat (⟨u10, (u6.getD u11.toNat z_Block).Leaf, (u6.getD u11.toNat z_Block).Value⟩ : S_Block)).getD u11.toNat z_Block).Id, (w64 (u10 + 1)), ((u6.set u11.toNat (⟨u10, (u6.getD u11.toNat z_Block).Leaf, (u6.getD u11.toNat z_Block).Value⟩ : S_Block)).getD u11.toNat z_Block).Value⟩ : S_Block)).getD u11.toNat z_Block).Leaf, (w64 ((w64 (u10 + 1)) + 1))⟩ : S_Block) hs rfl o42 c46.1 (by rw [lh43]; exact c46.2) rfl hk rfl rfl rfl rfl rfl sz3 (by simp [Value.cells, Value.oneCell']) (Nat.le_of_ble_eq_true rfl) (fun _ _ h => ⟨by rw [h.1]; rfl, h.2⟩) fun k49 w a hk o50 hs => ?_
        have lh51 : (((u6.set u11.toNat (⟨u10, (u6.getD u11.toNat z_Block).Leaf, (u6.getD u11.toNat z_Block).Value⟩ : S_Block)).set u11.toNat (⟨((u6.set u11.toNat (⟨u10, (u6.getD u11.toNat z_Block).Leaf, (u6.getD u11.toNat z_Block).Value⟩ : S_Block)).getD u11.toNat z_Block).Id, (w64 (u10 + 1)), ((u6.set u11.toNat (⟨u10, (u6.getD u11.toNat z_Block).Leaf, (u6.getD u11.toNat z_Block).Value⟩ : S_Block)).getD u11.toNat z_Block).Value⟩ : S_Block)).set u11.toNat (⟨(((u6.set u11.toNat (⟨u10, (u6.getD u11.toNat z_Block).Leaf, (u6.getD u11.toNat z_Block).Value⟩ : S_Block)).set u11.toNat (⟨((u6.set u11.toNat (⟨u10, (u6.getD u11.toNat z_Block).Leaf, (u6.getD u11.toNat z_Block).Value⟩ : S_Block)).getD u11.toNat z_Block).Id, (w64 (u10 + 1)), ((u6.set u11.toNat (⟨u10, (u6.getD u11.toNat z_Block).Leaf, (u6.getD u11.toNat z_Block).Value⟩ : S_Block)).getD u11.toNat z_Block).Value⟩ : S_Block)).getD u11.toNat z_Block).Id, (((u6.set u11.toNat (⟨u10, (u6.getD u11.toNat z_Block).Leaf, (u6.getD u11.toNat z_Block).Value⟩ : S_Block)).set u11.toNat (⟨((u6.set u11.toNat (⟨u10, (u6.getD u11.toNat z_Block).Leaf, (u6.getD u11.toNat z_Block).Value⟩ : S_Block)).getD u11.toNat z_Block).Id, (w64 (u10 + 1)), ((u6.set u11.toNat (⟨u10, (u6.getD u11.toNat z_Block).Leaf, (u6.getD u11.toNat z_Block).Value⟩ : S_Block)).getD u11.toNat z_Block).Value⟩ : S_Block)).getD u11.toNat z_Block).Leaf, (w64 ((w64 (u10 + 1)) + 1))⟩ : S_Block)).length = l0.length := by rw [List.length_set]; exact lh43
        show wpList _ _ _ [] _ _
        refine wpList_nil ?_
        refine hK45 _ _ ?_
        apply wp_region_lit
        refine sm _ rfl hk rfl rfl rfl fun a hk => ?_
        refine sv (.int .i64 (w64 ((w64 ((w64 (u10 + 1)) + 1)) + 1))) hk rfl rfl rfl fun a hk => ?_
        refine sa _ rfl hk rfl rfl rfl fun a hk => ?_
        show wpList _ _ _ [] _ _
        refine wpList_nil ?_
        refine hK28 _ _ ?_
        apply wp_region_lit
        refine sm _ rfl hk rfl rfl rfl fun a hk => ?_
        refine sv (.int .i64 (w64 (u11 + 1))) hk rfl rfl rfl fun a hk => ?_
        refine sa _ rfl hk rfl rfl rfl fun a hk => ?_
        show wpList _ _ _ [] _ _
        refine wpList_nil ?_
        obtain rfl := Option.some.inj H
        obtain ⟨m52, hmm52, h24⟩ := h24
        show ∃ n', n' < _ ∧ I21 n' _ _
        refine ⟨m52, hmm52, ?_⟩
        rw [hI21]
        exact ⟨(((u6.set u11.toNat (⟨u10, (u6.getD u11.toNat z_Block).Leaf, (u6.getD u11.toNat z_Block).Value⟩ : S_Block)).set u11.toNat (⟨((u6.set u11.toNat (⟨u10, (u6.getD u11.toNat z_Block).Leaf, (u6.getD u11.toNat z_Block).Value⟩ : S_Block)).getD u11.toNat z_Block).Id, (w64 (u10 + 1)), ((u6.set u11.toNat (⟨u10, (u6.getD u11.toNat z_Block).Leaf, (u6.getD u11.toNat z_Block).Value⟩ : S_Block)).getD u11.toNat z_Block).Value⟩ : S_Block)).set u11.toNat (⟨(((u6.set u11.toNat (⟨u10, (u6.getD u11.toNat z_Block).Leaf, (u6.getD u11.toNat z_Block).Value⟩ : S_Block)).set u11.toNat (⟨((u6.set u11.toNat (⟨u10, (u6.getD u11.toNat z_Block).Leaf, (u6.getD u11.toNat z_Block).Value⟩ : S_Block)).getD u11.toNat z_Block).Id, (w64 (u10 + 1)), ((u6.set u11.toNat (⟨u10, (u6.getD u11.toNat z_Block).Leaf, (u6.getD u11.toNat z_Block).Value⟩ : S_Block)).getD u11.toNat z_Block).Value⟩ : S_Block)).getD u11.toNat z_Block).Id, (((u6.set u11.toNat (⟨u10, (u6.getD u11.toNat z_Block).Leaf, (u6.getD u11.toNat z_Block).Value⟩ : S_Block)).set u11.toNat (⟨((u6.set u11.toNat (⟨u10, (u6.getD u11.toNat z_Block).Leaf, (u6.getD u11.toNat z_Block).Value⟩ : S_Block)).getD u11.toNat z_Block).Id, (w64 (u10 + 1)), ((u6.set u11.toNat (⟨u10, (u6.getD u11.toNat z_Block).Leaf, (u6.getD u11.toNat z_Block).Value⟩ : S_Block)).getD u11.toNat z_Block).Value⟩ : S_Block)).getD u11.toNat z_Block).Leaf, (w64 ((w64 (u10 + 1)) + 1))⟩ : S_Block)), (w64 ((w64 ((w64 (u10 + 1)) + 1)) + 1)), (w64 (u11 + 1)), _, h24, (hk.c 0 rfl (hk.c 1 rfl (hk.c 5 rfl hk.k))), (hs.pick [(1, 1)] rfl), o50, lh51⟩
      · have hk := hk.lit 9 c27 rfl
        refine cnd_false hk rfl rfl ?_
        refine wp_exit ?_
        obtain rfl := Option.some.inj H
        show R20 _ _
        rw [hR20]
        exact ⟨u6, u10, _, h24.symm, (hk.c 0 rfl (hk.c 1 rfl hk.k)), (hs.pick [(1, 1)] rfl), o8, lh9⟩
  · intro a w hR0
    rw [hR20] at hR0
    obtain ⟨u12, u16, k13, rfl, hk, hs, o14, lh15⟩ := hR0
    have H := HL19
    try dsimp only at H
    refine hK2 _ _ ?_
    apply wp_seq_k; intro K53 hK53
    apply wp_region_lit
    refine sm _ rfl hk rfl rfl rfl fun a hk => ?_
    refine sa _ rfl hk rfl rfl rfl fun a hk => ?_
    show wpList _ _ _ [] _ _
    refine wpList_nil ?_
    refine hK53 _ _ ?_
    refine wp_ret ?_
    obtain rfl := Option.some.inj H
    exact fin hk _ [(.int .i64 u16)] rfl ⟨rfl, trivial⟩ ⟨_, rfl, ⟨o14, lh15⟩, (hs.pick [(0, 1)] rfl).dnil⟩

noncomputable def laws_heldBlockS.s0 (l0 : List S_Block) (u6 : Int) (u7 : Int) : Option ((Int × Int) ⊕ Ex (Int) (Int)) :=
  (bif (decide (u7 < (l0.length : Int))) then (if 0 ≤ u7 ∧ u7 < (l0.length : Int) then (bif (((l0.getD u7.toNat z_Block).Id) != u6) then (some (.inr (.ret (-1)))) else (if 0 ≤ u7 ∧ u7 < (l0.length : Int) then (bif (((l0.getD u7.toNat z_Block).Leaf) != (w64 (u6 + 1))) then (some (.inr (.ret (-1)))) else (if 0 ≤ u7 ∧ u7 < (l0.length : Int) then (bif (((l0.getD u7.toNat z_Block).Value) != (w64 ((w64 (u6 + 1)) + 1))) then (some (.inr (.ret (-1)))) else (some (.inl ((w64 ((w64 ((w64 (u6 + 1)) + 1)) + 1)), (w64 (u7 + 1)))))) else none)) else none)) else none) else (some (.inr (.out u6))))
noncomputable def laws_heldBlockS.f (l0 : List S_Block) (x1 : Int) : Option (Int) :=
  ((loopO (fun s => laws_heldBlockS.s0 l0 s.1 s.2) (x1, 0)).bind fun o => match o with | .out u8 => (some u8) | .ret r => (some r))
set_option maxRecDepth 100000 in
set_option maxHeartbeats 0 in
theorem laws_heldBlockS_t (w0 : World) (A0_ : Option Addr) (p0_ : Nat) (l0 : List S_Block) (k0_ : Chunk) (v0_ : View L_Block A0_ p0_ l0 k0_) (w0_ : Has w0 k0_) (x1 : Int) (r : Int) (H : laws_heldBlockS.f l0 x1 = some r) :
    Calls Try.prog 36 #[.slice A0_ l0.length p0_, .int .i64 x1] w0 (Ret (fun v w => v = .int .i64 r ∧ Sat [] w0 w [] [])) := by
  have hs : Sat [] w0 w0 [(1, k0_)] [] := Sat.init w0 [(1, k0_)] [] (by simp only [List.mem_cons, List.not_mem_nil, or_false]; rintro x (rfl) <;> assumption) (by simp) List.nodup_nil (by simp [blks])
  unfold laws_heldBlockS.f at H
  refine enter Try.func36 rfl Try.ntmps36 rfl fun a hk => ?_
  apply wp_seq_k; intro K1 hK1
  apply wp_region_lit
  refine sa _ rfl hk rfl rfl rfl fun a hk => ?_
  show wpList _ _ _ [] _ _
  refine wpList_nil ?_
  refine hK1 _ _ ?_
  apply wp_seq_k; intro K2 hK2
  apply wp_seq_k; intro K3 hK3
  apply wp_region_lit
  refine sa _ rfl hk rfl rfl rfl fun a hk => ?_
  show wpList _ _ _ [] _ _
  refine wpList_nil ?_
  refine hK3 _ _ ?_
  obtain ⟨o9, h10, HL11⟩ := bind_some H
  clear H
  obtain ⟨R12, hR12⟩ : ∃ R : Act → World → Prop, R = fun a w => ∃ (u8 : Int), o9 = .out u8 ∧ Kn [(1, (.int .i64 u8))] 40 a ∧ Sat [] w0 w [(1, k0_)] [] := ⟨_, rfl⟩
  refine wp_cutq R12 ?_ ?_
  · refine wp_block ?_
    obtain ⟨fu14, h10⟩ := loopO_some h10
    obtain ⟨I13, hI13⟩ : ∃ I : Nat → Act → World → Prop, I = fun fu a w => ∃ (u6 : Int) (u7 : Int), loopN (fun s => laws_heldBlockS.s0 l0 s.1 s.2) fu (u6, u7) = some o9 ∧ Kn [(0, (.slice A0_ l0.length p0_)), (1, (.int .i64 u6)), (5, (.int .i64 u7))] 40 a ∧ Sat [] w0 w [(1, k0_)] [] := ⟨_, rfl⟩
    refine wp_loop_ghost I13 fu14 ?_ ?_
    · rw [hI13]
      exact ⟨x1, 0, h10, (hk.c 0 rfl (hk.c 1 rfl (hk.c 5 rfl hk.k))), (hs.pick [] rfl)⟩
    · clear h10 hk hs
      intro fu14 a w hI0
      rw [hI13] at hI0
      obtain ⟨u6, u7, hi, hk, hs⟩ := hI0
      obtain ⟨x15, H, h16⟩ := loop_round hi
      try dsimp only at H
      unfold laws_heldBlockS.s0 at H
      apply wp_seq_k; intro K17 hK17
      apply wp_seq_k; intro K18 hK18
      apply wp_region_lit
      refine sm _ rfl hk rfl rfl rfl fun a hk => ?_
      refine sm _ rfl hk rfl rfl rfl fun a hk => ?_
      refine sle rfl hk rfl rfl rfl un26 fun a hk => ?_
      refine sv (.bool (decide (u7 < (l0.length : Int)))) hk rfl rfl rfl fun a hk => ?_
      show wpList _ _ _ [] _ _
      refine wpList_nil ?_
      refine hK18 _ _ ?_
      rcases cond_some H with ⟨c19, H⟩ | ⟨c19, H⟩
      · have hk := hk.lit 9 c19 rfl
        refine cnd_true hk rfl rfl ?_
        refine wp_skip ?_
        refine hK17 _ _ ?_
        apply wp_seq_k; intro K20 hK20
        refine wp_block ?_
        apply wp_seq_k; intro K21 hK21
        apply wp_seq_k; intro K22 hK22
        apply wp_region_lit
        refine sm _ rfl hk rfl rfl rfl fun a hk => ?_
        refine sm _ rfl hk rfl rfl rfl fun a hk => ?_
        rcases ite_some H with ⟨c23, H⟩ | ⟨_, H⟩
        rotate_left
        · cases H
        obtain ⟨b24, q25, hAc23⟩ := (v0_).some_ u7 c23.1 c23.2
        refine si rfl hk rfl rfl rfl rfl un26 sz81 c23.1 c23.2 hAc23 fun a hk => ?_
        refine sf (padd A0_ (u7.toNat * 3 + 0)) rfl hk rfl rfl rfl fd81_0 (padd_add _ _ _) fun a hk => ?_
        obtain ⟨_, rfl, e26⟩ := (v0_).at_ z_Block u7 c23.1 c23.2
        refine sl (v := (.int .i64 ((l0.getD u7.toNat z_Block).Id))) rfl hk rfl rfl rfl ag3 ((e26 0 _ rfl).cell (hs.hasD (k := 1) rfl)) fun a hk => ?_
        refine sm _ rfl hk rfl rfl rfl fun a hk => ?_
        refine sv (.bool (((l0.getD u7.toNat z_Block).Id) != u6)) hk rfl rfl rfl fun a hk => ?_
        show wpList _ _ _ [] _ _
        refine wpList_nil ?_
        refine hK22 _ _ ?_
        rcases cond_some H with ⟨c27, H⟩ | ⟨c27, H⟩
        · have hk := hk.lit 18 c27 rfl
          refine cnd_true hk rfl rfl ?_
          apply wp_seq_k; intro K28 hK28
          apply wp_region_lit
          refine sa _ rfl hk rfl rfl rfl fun a hk => ?_
          show wpList _ _ _ [] _ _
          refine wpList_nil ?_
          refine hK28 _ _ ?_
          refine wp_ret ?_
          obtain rfl := Option.some.inj H
          have ho9 := h16
          try dsimp only at ho9
          subst ho9
          have H := HL11
          try dsimp only at H
          obtain rfl := Option.some.inj H
          exact fin hk _ [(.int .i64 (-1))] rfl ⟨rfl, trivial⟩ ⟨rfl, (hs.pick [] rfl).dnil⟩
        · have hk := hk.lit 18 c27 rfl
          refine cnd_false hk rfl rfl ?_
          refine wp_skip ?_
          refine hK21 _ _ ?_
          apply wp_seq_k; intro K29 hK29
          apply wp_region_lit
          refine sm _ rfl hk rfl rfl rfl fun a hk => ?_
          refine sv (.int .i64 (w64 (u6 + 1))) hk rfl rfl rfl fun a hk => ?_
          refine sa _ rfl hk rfl rfl rfl fun a hk => ?_
          show wpList _ _ _ [] _ _
          refine wpList_nil ?_
          refine hK29 _ _ ?_
          apply wp_seq_k; intro K30 hK30
          apply wp_seq_k; intro K31 hK31
          apply wp_region_lit
          refine sm _ rfl hk rfl rfl rfl fun a hk => ?_
          refine sm _ rfl hk rfl rfl rfl fun a hk => ?_
          rcases ite_some H with ⟨c32, H⟩ | ⟨_, H⟩
          rotate_left
          · cases H
          obtain ⟨b33, q34, hAc32⟩ := (v0_).some_ u7 c32.1 c32.2
          refine si rfl hk rfl rfl rfl rfl un26 sz81 c32.1 c32.2 hAc32 fun a hk => ?_
          refine sf (padd A0_ (u7.toNat * 3 + 1)) rfl hk rfl rfl rfl fd81_1 (padd_add _ _ _) fun a hk => ?_
          obtain ⟨_, rfl, e35⟩ := (v0_).at_ z_Block u7 c32.1 c32.2
          refine sl (v := (.int .i64 ((l0.getD u7.toNat z_Block).Leaf))) rfl hk rfl rfl rfl ag3 ((e35 1 _ rfl).cell (hs.hasD (k := 1) rfl)) fun a hk => ?_
          refine sm _ rfl hk rfl rfl rfl fun a hk => ?_
          refine sv (.bool (((l0.getD u7.toNat z_Block).Leaf) != (w64 (u6 + 1)))) hk rfl rfl rfl fun a hk => ?_
          show wpList _ _ _ [] _ _
          refine wpList_nil ?_
          refine hK31 _ _ ?_
          rcases cond_some H with ⟨c36, H⟩ | ⟨c36, H⟩
          · have hk := hk.lit 27 c36 rfl
            refine cnd_true hk rfl rfl ?_
            apply wp_seq_k; intro K37 hK37
            apply wp_region_lit
            refine sa _ rfl hk rfl rfl rfl fun a hk => ?_
            show wpList _ _ _ [] _ _
            refine wpList_nil ?_
            refine hK37 _ _ ?_
            refine wp_ret ?_
            obtain rfl := Option.some.inj H
            have ho9 := h16
            try dsimp only at ho9
            subst ho9
            have H := HL11
            try dsimp only at H
            obtain rfl := Option.some.inj H
            exact fin hk _ [(.int .i64 (-1))] rfl ⟨rfl, trivial⟩ ⟨rfl, (hs.pick [] rfl).dnil⟩
          · have hk := hk.lit 27 c36 rfl
            refine cnd_false hk rfl rfl ?_
            refine wp_skip ?_
            refine hK30 _ _ ?_
            apply wp_seq_k; intro K38 hK38
            apply wp_region_lit
            refine sm _ rfl hk rfl rfl rfl fun a hk => ?_
            refine sv (.int .i64 (w64 ((w64 (u6 + 1)) + 1))) hk rfl rfl rfl fun a hk => ?_
            refine sa _ rfl hk rfl rfl rfl fun a hk => ?_
            show wpList _ _ _ [] _ _
            refine wpList_nil ?_
            refine hK38 _ _ ?_
            apply wp_seq_k; intro K39 hK39
            apply wp_seq_k; intro K40 hK40
            apply wp_region_lit
            refine sm _ rfl hk rfl rfl rfl fun a hk => ?_
            refine sm _ rfl hk rfl rfl rfl fun a hk => ?_
            rcases ite_some H with ⟨c41, H⟩ | ⟨_, H⟩
            rotate_left
            · cases H
            obtain ⟨b42, q43, hAc41⟩ := (v0_).some_ u7 c41.1 c41.2
            refine si rfl hk rfl rfl rfl rfl un26 sz81 c41.1 c41.2 hAc41 fun a hk => ?_
            refine sf (padd A0_ (u7.toNat * 3 + 2)) rfl hk rfl rfl rfl fd81_2 (padd_add _ _ _) fun a hk => ?_
            obtain ⟨_, rfl, e44⟩ := (v0_).at_ z_Block u7 c41.1 c41.2
            refine sl (v := (.int .i64 ((l0.getD u7.toNat z_Block).Value))) rfl hk rfl rfl rfl ag3 ((e44 2 _ rfl).cell (hs.hasD (k := 1) rfl)) fun a hk => ?_
            refine sm _ rfl hk rfl rfl rfl fun a hk => ?_
            refine sv (.bool (((l0.getD u7.toNat z_Block).Value) != (w64 ((w64 (u6 + 1)) + 1)))) hk rfl rfl rfl fun a hk => ?_
            show wpList _ _ _ [] _ _
            refine wpList_nil ?_
            refine hK40 _ _ ?_
            rcases cond_some H with ⟨c45, H⟩ | ⟨c45, H⟩
            · have hk := hk.lit 36 c45 rfl
              refine cnd_true hk rfl rfl ?_
              apply wp_seq_k; intro K46 hK46
              apply wp_region_lit
              refine sa _ rfl hk rfl rfl rfl fun a hk => ?_
              show wpList _ _ _ [] _ _
              refine wpList_nil ?_
              refine hK46 _ _ ?_
              refine wp_ret ?_
              obtain rfl := Option.some.inj H
              have ho9 := h16
              try dsimp only at ho9
              subst ho9
              have H := HL11
              try dsimp only at H
              obtain rfl := Option.some.inj H
              exact fin hk _ [(.int .i64 (-1))] rfl ⟨rfl, trivial⟩ ⟨rfl, (hs.pick [] rfl).dnil⟩
            · have hk := hk.lit 36 c45 rfl
              refine cnd_false hk rfl rfl ?_
              refine wp_skip ?_
              refine hK39 _ _ ?_
              apply wp_region_lit
              refine sm _ rfl hk rfl rfl rfl fun a hk => ?_
              refine sv (.int .i64 (w64 ((w64 ((w64 (u6 + 1)) + 1)) + 1))) hk rfl rfl rfl fun a hk => ?_
              refine sa _ rfl hk rfl rfl rfl fun a hk => ?_
              show wpList _ _ _ [] _ _
              refine wpList_nil ?_
              refine hK20 _ _ ?_
              apply wp_region_lit
              refine sm _ rfl hk rfl rfl rfl fun a hk => ?_
              refine sv (.int .i64 (w64 (u7 + 1))) hk rfl rfl rfl fun a hk => ?_
              refine sa _ rfl hk rfl rfl rfl fun a hk => ?_
              show wpList _ _ _ [] _ _
              refine wpList_nil ?_
              obtain rfl := Option.some.inj H
              obtain ⟨m47, hmm47, h16⟩ := h16
              show ∃ n', n' < _ ∧ I13 n' _ _
              refine ⟨m47, hmm47, ?_⟩
              rw [hI13]
              exact ⟨(w64 ((w64 ((w64 (u6 + 1)) + 1)) + 1)), (w64 (u7 + 1)), h16, (hk.c 0 rfl (hk.c 1 rfl (hk.c 5 rfl hk.k))), (hs.pick [] rfl)⟩
      · have hk := hk.lit 9 c19 rfl
        refine cnd_false hk rfl rfl ?_
        refine wp_exit ?_
        obtain rfl := Option.some.inj H
        show R12 _ _
        rw [hR12]
        exact ⟨u6, h16.symm, (hk.c 1 rfl hk.k), (hs.pick [] rfl)⟩
  · intro a w hR0
    rw [hR12] at hR0
    obtain ⟨u8, rfl, hk, hs⟩ := hR0
    have H := HL11
    try dsimp only at H
    refine hK2 _ _ ?_
    apply wp_seq_k; intro K48 hK48
    apply wp_region_lit
    refine sm _ rfl hk rfl rfl rfl fun a hk => ?_
    refine sa _ rfl hk rfl rfl rfl fun a hk => ?_
    show wpList _ _ _ [] _ _
    refine wpList_nil ?_
    refine hK48 _ _ ?_
    refine wp_ret ?_
    obtain rfl := Option.some.inj H
    exact fin hk _ [(.int .i64 u8)] rfl ⟨rfl, trivial⟩ ⟨rfl, (hs.pick [] rfl).dnil⟩

noncomputable def laws_FnExactReadBucket.f (x0 : ByteArray) : Option (Bool) :=
  (bif (decide ((x0.size : Int) > 1048576)) then (some true) else ((spec_ReadBucket.f x0).bind fun y7 => ((impl_ReadBucket.f x0).bind fun y14 => ((((laws_eqBlockS.f y14.1 y7.1).bind fun y28 => (bif (!y28) then (some true) else (some (y14.2 != y7.2)))) : Option (Bool)).bind fun u23 => (bif u23 then (some false) else ((laws_markBlockS.f y14.1 1).bind fun y35 => ((laws_heldBlockS.f y35.2 1).bind fun y43 => (bif (decide (y43 < 0)) then (some false) else (bif (y43 != y35.1) then (some false) else ((impl_ReadBucket.f x0).bind fun y54 => ((((laws_eqBlockS.f y54.1 y7.1).bind fun y68 => (bif (!y68) then (some true) else (some (y54.2 != y7.2)))) : Option (Bool)).bind fun u63 => (bif u63 then (some false) else ((laws_heldBlockS.f y35.2 1).bind fun y75 => (bif (decide (y75 < 0)) then (some false) else (bif (y75 != y35.1) then (some false) else (some true))))))))))))))))
set_option maxRecDepth 100000 in
set_option maxHeartbeats 0 in
theorem laws_FnExactReadBucket_t (w0 : World) (x0 : ByteArray) (r : Bool) (H : laws_FnExactReadBucket.f x0 = some r) :
    Calls Try.prog 7 #[.string x0] w0 (Ret (fun v w => v = .bool r ∧ Sat [] w0 w [] [])) := by
  have hs : Sat [] w0 w0 [] [] := Sat.init w0 [] [] (by simp) (by simp) List.nodup_nil (by simp [blks])
  unfold laws_FnExactReadBucket.f at H
  refine enter Try.func7 rfl Try.ntmps7 rfl fun a hk => ?_
  apply wp_seq_k; intro K1 hK1
  apply wp_region_lit
  refine sa _ rfl hk rfl rfl rfl fun a hk => ?_
  show wpList _ _ _ [] _ _
  refine wpList_nil ?_
  refine hK1 _ _ ?_
  apply wp_seq_k; intro K2 hK2
  apply wp_seq_k; intro K3 hK3
  apply wp_region_lit
  refine sm _ rfl hk rfl rfl rfl fun a hk => ?_
  refine sles rfl hk rfl rfl rfl un9 fun a hk => ?_
  refine sv (.bool (decide ((x0.size : Int) > 1048576))) hk rfl rfl rfl fun a hk => ?_
  show wpList _ _ _ [] _ _
  refine wpList_nil ?_
  refine hK3 _ _ ?_
  rcases cond_some H with ⟨c4, H⟩ | ⟨c4, H⟩
  · have hk := hk.lit 13 c4 rfl
    refine cnd_true hk rfl rfl ?_
    apply wp_seq_k; intro K5 hK5
    apply wp_region_lit
    refine sa _ rfl hk rfl rfl rfl fun a hk => ?_
    show wpList _ _ _ [] _ _
    refine wpList_nil ?_
    refine hK5 _ _ ?_
    refine wp_ret ?_
    obtain rfl := Option.some.inj H
    exact fin hk _ [(.bool true)] rfl ⟨rfl, trivial⟩ ⟨rfl, (hs.pick [] rfl).dnil⟩
  · have hk := hk.lit 13 c4 rfl
    refine cnd_false hk rfl rfl ?_
    refine wp_skip ?_
    refine hK2 _ _ ?_
    apply wp_seq_k; intro K6 hK6
    apply wp_region_lit
    refine sm _ rfl hk rfl rfl rfl fun a hk => ?_
    obtain ⟨y7, h8, H⟩ := bind_some H
    refine sc rfl en33 hk rfl rfl rfl (spec_ReadBucket_t _ x0 _ h8) ?_
    rintro _ w ⟨A9, p10, k11, rfl, o12, hG⟩ a hk
    have hs := hs.call0k hG [1] rfl
    refine sm _ rfl hk rfl rfl rfl fun a hk => ?_
    refine sv (.slice A9 y7.1.length p10) hk rfl rfl rfl fun a hk => ?_
    refine sv (.int .i64 y7.2) hk rfl rfl rfl fun a hk => ?_
    refine sa _ rfl hk rfl rfl rfl fun a hk => ?_
    refine sa _ rfl hk rfl rfl rfl fun a hk => ?_
    show wpList _ _ _ [] _ _
    refine wpList_nil ?_
    refine hK6 _ _ ?_
    apply wp_seq_k; intro K13 hK13
    apply wp_region_lit
    refine sm _ rfl hk rfl rfl rfl fun a hk => ?_
    obtain ⟨y14, h15, H⟩ := bind_some H
    refine sc rfl en34 hk rfl rfl rfl (impl_ReadBucket_t _ x0 _ h15) ?_
    rintro _ w ⟨A16, p17, k18, rfl, o19, hG⟩ a hk
    have hs := hs.call0k hG [2] rfl
    refine sm _ rfl hk rfl rfl rfl fun a hk => ?_
    refine sv (.slice A16 y14.1.length p17) hk rfl rfl rfl fun a hk => ?_
    refine sv (.int .i64 y14.2) hk rfl rfl rfl fun a hk => ?_
    refine sa _ rfl hk rfl rfl rfl fun a hk => ?_
    refine sa _ rfl hk rfl rfl rfl fun a hk => ?_
    show wpList _ _ _ [] _ _
    refine wpList_nil ?_
    refine hK13 _ _ ?_
    apply wp_seq_k; intro K20 hK20
    apply wp_seq_k; intro K21 hK21
    obtain ⟨o24, h25, HL26⟩ := bind_some H
    clear H
    obtain ⟨R27, hR27⟩ : ∃ R : Act → World → Prop, R = fun a w => ∃ (u23 : Bool), u23 = o24 ∧ Kn [(0, (.string x0)), (3, (.slice A9 y7.1.length p10)), (4, (.int .i64 y7.2)), (5, (.slice A16 y14.1.length p17)), (32, (.bool u23))] 66 a ∧ Sat [] w0 w [] [(1, k11), (2, k18)] := ⟨_, rfl⟩
    refine wp_cutq R27 ?_ ?_
    · have H := h25
      apply wp_region_lit
      refine sm _ rfl hk rfl rfl rfl fun a hk => ?_
      refine sm _ rfl hk rfl rfl rfl fun a hk => ?_
      obtain ⟨y28, h29, H⟩ := bind_some H
      refine sc rfl en15 hk rfl rfl rfl (laws_eqBlockS_t _ A16 p17 y14.1 _ o19.view (hs.hasG (k := 2) rfl) A9 p10 y7.1 _ o12.view (hs.hasG (k := 1) rfl) _ h29) ?_
      rintro _ w ⟨rfl, hG⟩ a hk
      have hs := hs.call0 hG
      refine sv (.bool (!y28)) hk rfl rfl rfl fun a hk => ?_
      refine sm _ rfl hk rfl rfl rfl fun a hk => ?_
      rcases cond_some H with ⟨c30, H⟩ | ⟨c30, H⟩
      · have hk := hk.lit 28 c30 rfl
        refine sk hk rfl rfl rfl fun a hk => ?_
        refine sk hk rfl rfl rfl fun a hk => ?_
        refine sk hk rfl rfl rfl fun a hk => ?_
        refine sv (.bool true) hk rfl rfl rfl fun a hk => ?_
        show wpList _ _ _ [] _ _
        refine wpList_nil ?_
        obtain rfl := Option.some.inj H
        show R27 _ _
        rw [hR27]
        exact ⟨true, rfl, (hk.c 0 rfl (hk.c 3 rfl (hk.c 4 rfl (hk.c 5 rfl (hk.c 32 rfl hk.k))))), (hs.pick [(1, 1), (2, 2)] rfl)⟩
      · have hk := hk.lit 28 c30 rfl
        refine sm _ rfl hk rfl rfl rfl fun a hk => ?_
        refine sm _ rfl hk rfl rfl rfl fun a hk => ?_
        refine sv (.bool (y14.2 != y7.2)) hk rfl rfl rfl fun a hk => ?_
        refine sv (.bool (y14.2 != y7.2)) hk rfl rfl rfl fun a hk => ?_
        show wpList _ _ _ [] _ _
        refine wpList_nil ?_
        obtain rfl := Option.some.inj H
        show R27 _ _
        rw [hR27]
        exact ⟨(y14.2 != y7.2), rfl, (hk.c 0 rfl (hk.c 3 rfl (hk.c 4 rfl (hk.c 5 rfl (hk.c 32 rfl hk.k))))), (hs.pick [(1, 1), (2, 2)] rfl)⟩
    · intro a w hR0
      rw [hR27] at hR0
      obtain ⟨u23, rfl, hk, hs⟩ := hR0
      have H := HL26
      try dsimp only at H
      refine hK21 _ _ ?_
      rcases cond_some H with ⟨c31, H⟩ | ⟨c31, H⟩
      · have hk := hk.lit 32 c31 rfl
        refine cnd_true hk rfl rfl ?_
        apply wp_seq_k; intro K32 hK32
        apply wp_region_lit
        refine sa _ rfl hk rfl rfl rfl fun a hk => ?_
        show wpList _ _ _ [] _ _
        refine wpList_nil ?_
        refine hK32 _ _ ?_
        refine wp_ret ?_
        obtain rfl := Option.some.inj H
        exact fin hk _ [(.bool false)] rfl ⟨rfl, trivial⟩ ⟨rfl, (hs.pick [] rfl).dnil⟩
      · have hk := hk.lit 32 c31 rfl
        refine cnd_false hk rfl rfl ?_
        refine wp_skip ?_
        refine hK20 _ _ ?_
        apply wp_seq_k; intro K33 hK33
        apply wp_region_lit
        refine sa _ rfl hk rfl rfl rfl fun a hk => ?_
        show wpList _ _ _ [] _ _
        refine wpList_nil ?_
        refine hK33 _ _ ?_
        apply wp_seq_k; intro K34 hK34
        apply wp_region_lit
        refine sm _ rfl hk rfl rfl rfl fun a hk => ?_
        refine sm _ rfl hk rfl rfl rfl fun a hk => ?_
        obtain ⟨y35, h36, H⟩ := bind_some H
        refine sc rfl en35 hk rfl rfl rfl (laws_markBlockS_t _ A16 p17 y14.1 _ o19 1 ((hs.hand [(1, 2)] rfl).dpick [] rfl) _ h36) ?_
        rintro _ w ⟨k37, rfl, ⟨o38, lh39⟩, hG⟩ a hk
        have hs := hs.back [(1, 2)] rfl hG [2] rfl
        have lh40 : y35.2.length = y14.1.length := lh39
        refine sa _ rfl hk rfl rfl rfl fun a hk => ?_
        show wpList _ _ _ [] _ _
        refine wpList_nil ?_
        refine hK34 _ _ ?_
        apply wp_seq_k; intro K41 hK41
        apply wp_region_lit
        refine sa _ rfl hk rfl rfl rfl fun a hk => ?_
        show wpList _ _ _ [] _ _
        refine wpList_nil ?_
        refine hK41 _ _ ?_
        apply wp_seq_k; intro K42 hK42
        apply wp_region_lit
        refine sm _ rfl hk rfl rfl rfl fun a hk => ?_
        refine sm _ rfl hk rfl rfl rfl fun a hk => ?_
        have hk := hk.re 36 (v' := (.slice A16 y35.2.length p17)) rfl (by rw [lh40])
        obtain ⟨y43, h44, H⟩ := bind_some H
        refine sc rfl en36 hk rfl rfl rfl (laws_heldBlockS_t _ A16 p17 y35.2 _ o38.view (hs.hasG (k := 2) rfl) 1 _ h44) ?_
        rintro _ w ⟨rfl, hG⟩ a hk
        have hs := hs.call0 hG
        refine sa _ rfl hk rfl rfl rfl fun a hk => ?_
        show wpList _ _ _ [] _ _
        refine wpList_nil ?_
        refine hK42 _ _ ?_
        apply wp_seq_k; intro K45 hK45
        apply wp_seq_k; intro K46 hK46
        apply wp_region_lit
        refine sm _ rfl hk rfl rfl rfl fun a hk => ?_
        refine sv (.bool (decide (y43 < 0))) hk rfl rfl rfl fun a hk => ?_
        show wpList _ _ _ [] _ _
        refine wpList_nil ?_
        refine hK46 _ _ ?_
        rcases cond_some H with ⟨c47, H⟩ | ⟨c47, H⟩
        · have hk := hk.lit 40 c47 rfl
          refine cnd_true hk rfl rfl ?_
          apply wp_seq_k; intro K48 hK48
          apply wp_region_lit
          refine sa _ rfl hk rfl rfl rfl fun a hk => ?_
          show wpList _ _ _ [] _ _
          refine wpList_nil ?_
          refine hK48 _ _ ?_
          refine wp_ret ?_
          obtain rfl := Option.some.inj H
          exact fin hk _ [(.bool false)] rfl ⟨rfl, trivial⟩ ⟨rfl, (hs.pick [] rfl).dnil⟩
        · have hk := hk.lit 40 c47 rfl
          refine cnd_false hk rfl rfl ?_
          refine wp_skip ?_
          refine hK45 _ _ ?_
          apply wp_seq_k; intro K49 hK49
          apply wp_seq_k; intro K50 hK50
          apply wp_region_lit
          refine sm _ rfl hk rfl rfl rfl fun a hk => ?_
          refine sm _ rfl hk rfl rfl rfl fun a hk => ?_
          refine sv (.bool (y43 != y35.1)) hk rfl rfl rfl fun a hk => ?_
          show wpList _ _ _ [] _ _
          refine wpList_nil ?_
          refine hK50 _ _ ?_
          rcases cond_some H with ⟨c51, H⟩ | ⟨c51, H⟩
          · have hk := hk.lit 43 c51 rfl
            refine cnd_true hk rfl rfl ?_
            apply wp_seq_k; intro K52 hK52
            apply wp_region_lit
            refine sa _ rfl hk rfl rfl rfl fun a hk => ?_
            show wpList _ _ _ [] _ _
            refine wpList_nil ?_
            refine hK52 _ _ ?_
            refine wp_ret ?_
            obtain rfl := Option.some.inj H
            exact fin hk _ [(.bool false)] rfl ⟨rfl, trivial⟩ ⟨rfl, (hs.pick [] rfl).dnil⟩
          · have hk := hk.lit 43 c51 rfl
            refine cnd_false hk rfl rfl ?_
            refine wp_skip ?_
            refine hK49 _ _ ?_
            apply wp_seq_k; intro K53 hK53
            apply wp_region_lit
            refine sm _ rfl hk rfl rfl rfl fun a hk => ?_
            obtain ⟨y54, h55, H⟩ := bind_some H
            refine sc rfl en34 hk rfl rfl rfl (impl_ReadBucket_t _ x0 _ h55) ?_
            rintro _ w ⟨A56, p57, k58, rfl, o59, hG⟩ a hk
            have hs := hs.call0k hG [4] rfl
            refine sm _ rfl hk rfl rfl rfl fun a hk => ?_
            refine sv (.slice A56 y54.1.length p57) hk rfl rfl rfl fun a hk => ?_
            refine sv (.int .i64 y54.2) hk rfl rfl rfl fun a hk => ?_
            refine sa _ rfl hk rfl rfl rfl fun a hk => ?_
            refine sa _ rfl hk rfl rfl rfl fun a hk => ?_
            show wpList _ _ _ [] _ _
            refine wpList_nil ?_
            refine hK53 _ _ ?_
            apply wp_seq_k; intro K60 hK60
            apply wp_seq_k; intro K61 hK61
            obtain ⟨o64, h65, HL66⟩ := bind_some H
            clear H
            obtain ⟨R67, hR67⟩ : ∃ R : Act → World → Prop, R = fun a w => ∃ (u63 : Bool), u63 = o64 ∧ Kn [(5, (.slice A16 y14.1.length p17)), (7, (.int .i64 y35.1)), (57, (.bool u63))] 66 a ∧ Sat [] w0 w [] [(2, k37)] := ⟨_, rfl⟩
            refine wp_cutq R67 ?_ ?_
            · have H := h65
              apply wp_region_lit
              refine sm _ rfl hk rfl rfl rfl fun a hk => ?_
              refine sm _ rfl hk rfl rfl rfl fun a hk => ?_
              obtain ⟨y68, h69, H⟩ := bind_some H
              refine sc rfl en15 hk rfl rfl rfl (laws_eqBlockS_t _ A56 p57 y54.1 _ o59.view (hs.hasG (k := 4) rfl) A9 p10 y7.1 _ o12.view (hs.hasG (k := 1) rfl) _ h69) ?_
              rintro _ w ⟨rfl, hG⟩ a hk
              have hs := hs.call0 hG
              refine sv (.bool (!y68)) hk rfl rfl rfl fun a hk => ?_
              refine sm _ rfl hk rfl rfl rfl fun a hk => ?_
              rcases cond_some H with ⟨c70, H⟩ | ⟨c70, H⟩
              · have hk := hk.lit 53 c70 rfl
                refine sk hk rfl rfl rfl fun a hk => ?_
                refine sk hk rfl rfl rfl fun a hk => ?_
                refine sk hk rfl rfl rfl fun a hk => ?_
                refine sv (.bool true) hk rfl rfl rfl fun a hk => ?_
                show wpList _ _ _ [] _ _
                refine wpList_nil ?_
                obtain rfl := Option.some.inj H
                show R67 _ _
                rw [hR67]
                exact ⟨true, rfl, (hk.c 5 rfl (hk.c 7 rfl (hk.c 57 rfl hk.k))), (hs.pick [(2, 2)] rfl)⟩
              · have hk := hk.lit 53 c70 rfl
                refine sm _ rfl hk rfl rfl rfl fun a hk => ?_
                refine sm _ rfl hk rfl rfl rfl fun a hk => ?_
                refine sv (.bool (y54.2 != y7.2)) hk rfl rfl rfl fun a hk => ?_
                refine sv (.bool (y54.2 != y7.2)) hk rfl rfl rfl fun a hk => ?_
                show wpList _ _ _ [] _ _
                refine wpList_nil ?_
                obtain rfl := Option.some.inj H
                show R67 _ _
                rw [hR67]
                exact ⟨(y54.2 != y7.2), rfl, (hk.c 5 rfl (hk.c 7 rfl (hk.c 57 rfl hk.k))), (hs.pick [(2, 2)] rfl)⟩
            · intro a w hR0
              rw [hR67] at hR0
              obtain ⟨u63, rfl, hk, hs⟩ := hR0
              have H := HL66
              try dsimp only at H
              refine hK61 _ _ ?_
              rcases cond_some H with ⟨c71, H⟩ | ⟨c71, H⟩
              · have hk := hk.lit 57 c71 rfl
                refine cnd_true hk rfl rfl ?_
                apply wp_seq_k; intro K72 hK72
                apply wp_region_lit
                refine sa _ rfl hk rfl rfl rfl fun a hk => ?_
                show wpList _ _ _ [] _ _
                refine wpList_nil ?_
                refine hK72 _ _ ?_
                refine wp_ret ?_
                obtain rfl := Option.some.inj H
                exact fin hk _ [(.bool false)] rfl ⟨rfl, trivial⟩ ⟨rfl, (hs.pick [] rfl).dnil⟩
              · have hk := hk.lit 57 c71 rfl
                refine cnd_false hk rfl rfl ?_
                refine wp_skip ?_
                refine hK60 _ _ ?_
                apply wp_seq_k; intro K73 hK73
                apply wp_region_lit
                refine sa _ rfl hk rfl rfl rfl fun a hk => ?_
                show wpList _ _ _ [] _ _
                refine wpList_nil ?_
                refine hK73 _ _ ?_
                apply wp_seq_k; intro K74 hK74
                apply wp_region_lit
                refine sm _ rfl hk rfl rfl rfl fun a hk => ?_
                refine sm _ rfl hk rfl rfl rfl fun a hk => ?_
                have hk := hk.re 58 (v' := (.slice A16 y35.2.length p17)) rfl (by rw [lh40])
                obtain ⟨y75, h76, H⟩ := bind_some H
                refine sc rfl en36 hk rfl rfl rfl (laws_heldBlockS_t _ A16 p17 y35.2 _ o38.view (hs.hasG (k := 2) rfl) 1 _ h76) ?_
                rintro _ w ⟨rfl, hG⟩ a hk
                have hs := hs.call0 hG
                refine sa _ rfl hk rfl rfl rfl fun a hk => ?_
                show wpList _ _ _ [] _ _
                refine wpList_nil ?_
                refine hK74 _ _ ?_
                apply wp_seq_k; intro K77 hK77
                apply wp_seq_k; intro K78 hK78
                apply wp_region_lit
                refine sm _ rfl hk rfl rfl rfl fun a hk => ?_
                refine sv (.bool (decide (y75 < 0))) hk rfl rfl rfl fun a hk => ?_
                show wpList _ _ _ [] _ _
                refine wpList_nil ?_
                refine hK78 _ _ ?_
                rcases cond_some H with ⟨c79, H⟩ | ⟨c79, H⟩
                · have hk := hk.lit 62 c79 rfl
                  refine cnd_true hk rfl rfl ?_
                  apply wp_seq_k; intro K80 hK80
                  apply wp_region_lit
                  refine sa _ rfl hk rfl rfl rfl fun a hk => ?_
                  show wpList _ _ _ [] _ _
                  refine wpList_nil ?_
                  refine hK80 _ _ ?_
                  refine wp_ret ?_
                  obtain rfl := Option.some.inj H
                  exact fin hk _ [(.bool false)] rfl ⟨rfl, trivial⟩ ⟨rfl, (hs.pick [] rfl).dnil⟩
                · have hk := hk.lit 62 c79 rfl
                  refine cnd_false hk rfl rfl ?_
                  refine wp_skip ?_
                  refine hK77 _ _ ?_
                  apply wp_seq_k; intro K81 hK81
                  apply wp_seq_k; intro K82 hK82
                  apply wp_region_lit
                  refine sm _ rfl hk rfl rfl rfl fun a hk => ?_
                  refine sm _ rfl hk rfl rfl rfl fun a hk => ?_
                  refine sv (.bool (y75 != y35.1)) hk rfl rfl rfl fun a hk => ?_
                  show wpList _ _ _ [] _ _
                  refine wpList_nil ?_
                  refine hK82 _ _ ?_
                  rcases cond_some H with ⟨c83, H⟩ | ⟨c83, H⟩
                  · have hk := hk.lit 65 c83 rfl
                    refine cnd_true hk rfl rfl ?_
                    apply wp_seq_k; intro K84 hK84
                    apply wp_region_lit
                    refine sa _ rfl hk rfl rfl rfl fun a hk => ?_
                    show wpList _ _ _ [] _ _
                    refine wpList_nil ?_
                    refine hK84 _ _ ?_
                    refine wp_ret ?_
                    obtain rfl := Option.some.inj H
                    exact fin hk _ [(.bool false)] rfl ⟨rfl, trivial⟩ ⟨rfl, (hs.pick [] rfl).dnil⟩
                  · have hk := hk.lit 65 c83 rfl
                    refine cnd_false hk rfl rfl ?_
                    refine wp_skip ?_
                    refine hK81 _ _ ?_
                    apply wp_seq_k; intro K85 hK85
                    apply wp_region_lit
                    refine sa _ rfl hk rfl rfl rfl fun a hk => ?_
                    show wpList _ _ _ [] _ _
                    refine wpList_nil ?_
                    refine hK85 _ _ ?_
                    refine wp_ret ?_
                    obtain rfl := Option.some.inj H
                    exact fin hk _ [(.bool true)] rfl ⟨rfl, trivial⟩ ⟨rfl, (hs.pick [] rfl).dnil⟩

end Go.Proofs.Ytmgfkpfacdlfbaa
