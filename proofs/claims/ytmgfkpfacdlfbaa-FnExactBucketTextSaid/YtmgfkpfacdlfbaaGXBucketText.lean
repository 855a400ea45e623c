/- The functions that FnExactBucketText reaches: for each a model and the walk that shows that the Go code comes to it. -/
import Derived.Test.YtmgfkpfacdlfbaaT
namespace Go.Proofs.Ytmgfkpfacdlfbaa
open Go Go.Z Go.Proofs Go.MuLone Go.ChangeShapes Go.WideShapes Go.ChangeAt Go.RowKit
set_option linter.unusedVariables false
set_option linter.unusedSimpArgs false
noncomputable def laws_szBlockS.f (l0 : List S_Block) (x1 : Int) : Option (Int) :=
  (bif (decide ((w64 (x1 - (l0.length : Int))) < 0)) then (some (-1)) else (some (w64 (x1 - (l0.length : Int)))))
set_option maxRecDepth 100000 in
set_option maxHeartbeats 0 in
theorem laws_szBlockS_t (w0 : World) (A0_ : Option Addr) (p0_ : Nat) (l0 : List S_Block) (k0_ : Chunk) (v0_ : View L_Block A0_ p0_ l0 k0_) (w0_ : Has w0 k0_) (x1 : Int) (r : Int) (H : laws_szBlockS.f l0 x1 = some r) :
    Calls Try.prog 11 #[.slice A0_ l0.length p0_, .int .i64 x1] w0 (Ret (fun v w => v = .int .i64 r ∧ Sat [] w0 w [] [])) := by
  have hs : Sat [] w0 w0 [(1, k0_)] [] := Sat.init w0 [(1, k0_)] [] (by simp only [List.mem_cons, List.not_mem_nil, or_false]; rintro x (rfl) <;> assumption) (by simp) List.nodup_nil (by simp [blks])
  unfold laws_szBlockS.f at H
  refine enter Try.func11 rfl Try.ntmps11 rfl fun a hk => ?_
  apply wp_seq_k; intro K1 hK1
  apply wp_region_lit
  refine sa _ rfl hk rfl rfl rfl fun a hk => ?_
  show wpList _ _ _ [] _ _
  refine wpList_nil ?_
  refine hK1 _ _ ?_
  apply wp_seq_k; intro K2 hK2
  apply wp_region_lit
  refine sm _ rfl hk rfl rfl rfl fun a hk => ?_
  refine sm _ rfl hk rfl rfl rfl fun a hk => ?_
  refine sle rfl hk rfl rfl rfl un22 fun a hk => ?_
  refine sv (.int .i64 (w64 (x1 - (l0.length : Int)))) hk rfl rfl rfl fun a hk => ?_
  refine sa _ rfl hk rfl rfl rfl fun a hk => ?_
  show wpList _ _ _ [] _ _
  refine wpList_nil ?_
  refine hK2 _ _ ?_
  apply wp_seq_k; intro K3 hK3
  apply wp_seq_k; intro K4 hK4
  apply wp_region_lit
  refine sm _ rfl hk rfl rfl rfl fun a hk => ?_
  refine sv (.bool (decide ((w64 (x1 - (l0.length : Int))) < 0))) hk rfl rfl rfl fun a hk => ?_
  show wpList _ _ _ [] _ _
  refine wpList_nil ?_
  refine hK4 _ _ ?_
  rcases cond_some H with ⟨c5, H⟩ | ⟨c5, H⟩
  · have hk := hk.lit 10 c5 rfl
    refine cnd_true hk rfl rfl ?_
    apply wp_seq_k; intro K6 hK6
    apply wp_region_lit
    refine sa _ rfl hk rfl rfl rfl fun a hk => ?_
    show wpList _ _ _ [] _ _
    refine wpList_nil ?_
    refine hK6 _ _ ?_
    refine wp_ret ?_
    obtain rfl := Option.some.inj H
    exact fin hk _ [(.int .i64 (-1))] rfl ⟨rfl, trivial⟩ ⟨rfl, (hs.pick [] rfl).dnil⟩
  · have hk := hk.lit 10 c5 rfl
    refine cnd_false hk rfl rfl ?_
    refine wp_skip ?_
    refine hK3 _ _ ?_
    apply wp_seq_k; intro K7 hK7
    apply wp_region_lit
    refine sm _ rfl hk rfl rfl rfl fun a hk => ?_
    refine sa _ rfl hk rfl rfl rfl fun a hk => ?_
    show wpList _ _ _ [] _ _
    refine wpList_nil ?_
    refine hK7 _ _ ?_
    refine wp_ret ?_
    obtain rfl := Option.some.inj H
    exact fin hk _ [(.int .i64 (w64 (x1 - (l0.length : Int))))] rfl ⟨rfl, trivial⟩ ⟨rfl, (hs.pick [] rfl).dnil⟩

noncomputable def spec_l01In.f (x0 : Int) (x1 : Int) (x2 : Int) : Option (Bool) :=
  (((bif (decide (x1 ≤ x0)) then (some (decide (x0 ≤ x2))) else (some false)) : Option (Bool)).bind fun u4 => (some u4))
set_option maxRecDepth 100000 in
set_option maxHeartbeats 0 in
theorem spec_l01In_t (w0 : World) (x0 : Int) (x1 : Int) (x2 : Int) (r : Bool) (H : spec_l01In.f x0 x1 x2 = some r) :
    Calls Try.prog 81 #[.int .i64 x0, .int .i64 x1, .int .i64 x2] w0 (Ret (fun v w => v = .bool r ∧ Sat [] w0 w [] [])) := by
  have hs : Sat [] w0 w0 [] [] := Sat.init w0 [] [] (by simp) (by simp) List.nodup_nil (by simp [blks])
  unfold spec_l01In.f at H
  refine enter Try.func81 rfl Try.ntmps81 rfl fun a hk => ?_
  apply wp_seq_k; intro K1 hK1
  apply wp_region_lit
  refine sa _ rfl hk rfl rfl rfl fun a hk => ?_
  show wpList _ _ _ [] _ _
  refine wpList_nil ?_
  refine hK1 _ _ ?_
  apply wp_seq_k; intro K2 hK2
  obtain ⟨o5, h6, HL7⟩ := bind_some H
  clear H
  obtain ⟨R8, hR8⟩ : ∃ R : Act → World → Prop, R = fun a w => ∃ (u4 : Bool), u4 = o5 ∧ Kn [(6, (.bool u4))] 15 a ∧ Sat [] w0 w [] [] := ⟨_, rfl⟩
  refine wp_cutq R8 ?_ ?_
  · have H := h6
    apply wp_region_lit
    refine sm _ rfl hk rfl rfl rfl fun a hk => ?_
    refine sm _ rfl hk rfl rfl rfl fun a hk => ?_
    refine sv (.bool (decide (x1 ≤ x0))) hk rfl rfl rfl fun a hk => ?_
    refine sm _ rfl hk rfl rfl rfl fun a hk => ?_
    rcases cond_some H with ⟨c9, H⟩ | ⟨c9, H⟩
    · have hk := hk.lit 10 c9 rfl
      refine sm _ rfl hk rfl rfl rfl fun a hk => ?_
      refine sm _ rfl hk rfl rfl rfl fun a hk => ?_
      refine sv (.bool (decide (x0 ≤ x2))) hk rfl rfl rfl fun a hk => ?_
      refine sv (.bool (decide (x0 ≤ x2))) hk rfl rfl rfl fun a hk => ?_
      refine sa _ rfl hk rfl rfl rfl fun a hk => ?_
      show wpList _ _ _ [] _ _
      refine wpList_nil ?_
      obtain rfl := Option.some.inj H
      show R8 _ _
      rw [hR8]
      exact ⟨(decide (x0 ≤ x2)), rfl, (hk.c 6 rfl hk.k), (hs.pick [] rfl)⟩
    · have hk := hk.lit 10 c9 rfl
      refine sk hk rfl rfl rfl fun a hk => ?_
      refine sk hk rfl rfl rfl fun a hk => ?_
      refine sk hk rfl rfl rfl fun a hk => ?_
      refine sv (.bool false) hk rfl rfl rfl fun a hk => ?_
      refine sa _ rfl hk rfl rfl rfl fun a hk => ?_
      show wpList _ _ _ [] _ _
      refine wpList_nil ?_
      obtain rfl := Option.some.inj H
      show R8 _ _
      rw [hR8]
      exact ⟨false, rfl, (hk.c 6 rfl hk.k), (hs.pick [] rfl)⟩
  · intro a w hR0
    rw [hR8] at hR0
    obtain ⟨u4, rfl, hk, hs⟩ := hR0
    have H := HL7
    try dsimp only at H
    refine hK2 _ _ ?_
    refine wp_ret ?_
    obtain rfl := Option.some.inj H
    exact fin hk _ [(.bool u4)] rfl ⟨rfl, trivial⟩ ⟨rfl, (hs.pick [] rfl).dnil⟩

noncomputable def spec_l12Blocks.s0 (l0 : List S_Block) (u6 : Int) : Option ((Int) ⊕ Ex (Unit) (Bool)) :=
  (bif (decide (u6 < (l0.length : Int))) then (if 0 ≤ u6 ∧ u6 < (l0.length : Int) then ((((spec_l01In.f ((l0.getD u6.toNat z_Block).Id) 0 11).bind fun y32 => (bif (!y32) then (some true) else ((spec_l01In.f ((l0.getD u6.toNat z_Block).Leaf) 0 7).bind fun y35 => (bif (!y35) then (some true) else ((spec_l01In.f ((l0.getD u6.toNat z_Block).Value) 0 999999).bind fun y38 => (some (!y38))))))) : Option (Bool)).bind fun u27 => (bif u27 then (some (.inr (.ret false))) else (some (.inl (w64 (u6 + 1)))))) else none) else (some (.inr (.out ()))))
noncomputable def spec_l12Blocks.f (l0 : List S_Block) : Option (Bool) :=
  ((loopO (fun s => spec_l12Blocks.s0 l0 s) 0).bind fun o => match o with | .out _ => (some (decide ((l0.length : Int) ≤ 2))) | .ret r => (some r))
set_option maxRecDepth 100000 in
set_option maxHeartbeats 0 in
theorem spec_l12Blocks_t (w0 : World) (A0_ : Option Addr) (p0_ : Nat) (l0 : List S_Block) (k0_ : Chunk) (v0_ : View L_Block A0_ p0_ l0 k0_) (w0_ : Has w0 k0_) (r : Bool) (H : spec_l12Blocks.f l0 = some r) :
    Calls Try.prog 53 #[.slice A0_ l0.length p0_] w0 (Ret (fun v w => v = .bool r ∧ Sat [] w0 w [] [])) := by
  have hs : Sat [] w0 w0 [(1, k0_)] [] := Sat.init w0 [(1, k0_)] [] (by simp only [List.mem_cons, List.not_mem_nil, or_false]; rintro x (rfl) <;> assumption) (by simp) List.nodup_nil (by simp [blks])
  unfold spec_l12Blocks.f at H
  refine enter Try.func53 rfl Try.ntmps53 rfl fun a hk => ?_
  apply wp_seq_k; intro K1 hK1
  apply wp_region_lit
  refine sa _ rfl hk rfl rfl rfl fun a hk => ?_
  show wpList _ _ _ [] _ _
  refine wpList_nil ?_
  refine hK1 _ _ ?_
  apply wp_seq_k; intro K2 hK2
  apply wp_seq_k; intro K3 hK3
  apply wp_region_lit
  refine sa _ rfl hk rfl rfl rfl fun a hk => ?_
  show wpList _ _ _ [] _ _
  refine wpList_nil ?_
  refine hK3 _ _ ?_
  obtain ⟨o7, h8, HL9⟩ := bind_some H
  clear H
  obtain ⟨R10, hR10⟩ : ∃ R : Act → World → Prop, R = fun a w => o7 = .out () ∧ Kn [(0, (.slice A0_ l0.length p0_))] 34 a ∧ Sat [] w0 w [(1, k0_)] [] := ⟨_, rfl⟩
  refine wp_cutq R10 ?_ ?_
  · refine wp_block ?_
    obtain ⟨fu12, h8⟩ := loopO_some h8
    obtain ⟨I11, hI11⟩ : ∃ I : Nat → Act → World → Prop, I = fun fu a w => ∃ (u6 : Int), loopN (fun s => spec_l12Blocks.s0 l0 s) fu u6 = some o7 ∧ Kn [(0, (.slice A0_ l0.length p0_)), (3, (.int .i64 u6))] 34 a ∧ Sat [] w0 w [(1, k0_)] [] := ⟨_, rfl⟩
    refine wp_loop_ghost I11 fu12 ?_ ?_
    · rw [hI11]
      exact ⟨0, h8, (hk.c 0 rfl (hk.c 3 rfl hk.k)), (hs.pick [] rfl)⟩
    · clear h8 hk hs
      intro fu12 a w hI0
      rw [hI11] at hI0
      obtain ⟨u6, hi, hk, hs⟩ := hI0
      obtain ⟨x13, H, h14⟩ := loop_round hi
      try dsimp only at H
      unfold spec_l12Blocks.s0 at H
      apply wp_seq_k; intro K15 hK15
      apply wp_seq_k; intro K16 hK16
      apply wp_region_lit
      refine sm _ rfl hk rfl rfl rfl fun a hk => ?_
      refine sm _ rfl hk rfl rfl rfl fun a hk => ?_
      refine sle rfl hk rfl rfl rfl un26 fun a hk => ?_
      refine sv (.bool (decide (u6 < (l0.length : Int)))) hk rfl rfl rfl fun a hk => ?_
      show wpList _ _ _ [] _ _
      refine wpList_nil ?_
      refine hK16 _ _ ?_
      rcases cond_some H with ⟨c17, H⟩ | ⟨c17, H⟩
      · have hk := hk.lit 8 c17 rfl
        refine cnd_true hk rfl rfl ?_
        refine wp_skip ?_
        refine hK15 _ _ ?_
        apply wp_seq_k; intro K18 hK18
        refine wp_block ?_
        apply wp_seq_k; intro K19 hK19
        apply wp_region_lit
        refine sm _ rfl hk rfl rfl rfl fun a hk => ?_
        refine sm _ rfl hk rfl rfl rfl fun a hk => ?_
        rcases ite_some H with ⟨c20, H⟩ | ⟨_, H⟩
        rotate_left
        · cases H
        obtain ⟨b21, q22, hAc20⟩ := (v0_).some_ u6 c20.1 c20.2
        refine si rfl hk rfl rfl rfl rfl un26 sz81 c20.1 c20.2 hAc20 fun a hk => ?_
        obtain ⟨_, rfl, e23⟩ := (v0_).at_ z_Block u6 c20.1 c20.2
        refine sln [.int .i64 ((l0.getD u6.toNat z_Block).Id), .int .i64 ((l0.getD u6.toNat z_Block).Leaf), .int .i64 ((l0.getD u6.toNat z_Block).Value)] rfl hk rfl rfl rfl ag81 sz81 (cells_at e23 (hs.hasD (k := 1) rfl)) fun a hk => ?_
        refine salx 3 hs rfl hk rfl rfl ze81 rfl fun b24 w a hk hs => ?_
        refine ssw 3 hs rfl rfl hk rfl rfl rfl rfl sz81 (by simp [Value.oneCell']) rfl fun w a hk hs => ?_
        show wpList _ _ _ [] _ _
        refine wpList_nil ?_
        refine hK19 _ _ ?_
        apply wp_seq_k; intro K25 hK25
        obtain ⟨o28, h29, HL30⟩ := bind_some H
        clear H
        obtain ⟨R31, hR31⟩ : ∃ R : Act → World → Prop, R = fun a w => ∃ (u27 : Bool), u27 = o28 ∧ Kn [(0, (.slice A0_ l0.length p0_)), (3, (.int .i64 u6)), (30, (.bool u27))] 34 a ∧ Sat [] w0 w [(1, k0_)] [] := ⟨_, rfl⟩
        refine wp_cutq R31 ?_ ?_
        · have H := h29
          apply wp_region_lit
          refine sf ⟨b24, 0, none⟩ rfl hk rfl rfl rfl fd81_0 rfl fun a hk => ?_
          refine sl rfl hk rfl rfl rfl ag3 (box_cell hs (k := 3) rfl rfl) fun a hk => ?_
          obtain ⟨y32, h33, H⟩ := bind_some H
          refine sc rfl en81 hk rfl rfl rfl (spec_l01In_t _ ((l0.getD u6.toNat z_Block).Id) 0 11 _ h33) ?_
          rintro _ w ⟨rfl, hG⟩ a hk
          have hs := hs.call0 hG
          refine sv (.bool (!y32)) hk rfl rfl rfl fun a hk => ?_
          refine sm _ rfl hk rfl rfl rfl fun a hk => ?_
          rcases cond_some H with ⟨c34, H⟩ | ⟨c34, H⟩
          · have hk := hk.lit 19 c34 rfl
            refine sk hk rfl rfl rfl fun a hk => ?_
            refine sk hk rfl rfl rfl fun a hk => ?_
            refine sk hk rfl rfl rfl fun a hk => ?_
            refine sk hk rfl rfl rfl fun a hk => ?_
            refine sv (.bool true) hk rfl rfl rfl fun a hk => ?_
            refine sm _ rfl hk rfl rfl rfl fun a hk => ?_
            refine sk hk rfl rfl rfl fun a hk => ?_
            refine sk hk rfl rfl rfl fun a hk => ?_
            refine sk hk rfl rfl rfl fun a hk => ?_
            refine sk hk rfl rfl rfl fun a hk => ?_
            refine sv (.bool true) hk rfl rfl rfl fun a hk => ?_
            show wpList _ _ _ [] _ _
            refine wpList_nil ?_
            obtain rfl := Option.some.inj H
            show R31 _ _
            rw [hR31]
            exact ⟨true, rfl, (hk.c 0 rfl (hk.c 3 rfl (hk.c 30 rfl hk.k))), (hs.pick [] rfl)⟩
          · have hk := hk.lit 19 c34 rfl
            refine sf ⟨b24, 1, none⟩ rfl hk rfl rfl rfl fd81_1 rfl fun a hk => ?_
            refine sl rfl hk rfl rfl rfl ag3 (box_cell hs (k := 3) rfl rfl) fun a hk => ?_
            obtain ⟨y35, h36, H⟩ := bind_some H
            refine sc rfl en81 hk rfl rfl rfl (spec_l01In_t _ ((l0.getD u6.toNat z_Block).Leaf) 0 7 _ h36) ?_
            rintro _ w ⟨rfl, hG⟩ a hk
            have hs := hs.call0 hG
            refine sv (.bool (!y35)) hk rfl rfl rfl fun a hk => ?_
            refine sv (.bool (!y35)) hk rfl rfl rfl fun a hk => ?_
            refine sm _ rfl hk rfl rfl rfl fun a hk => ?_
            rcases cond_some H with ⟨c37, H⟩ | ⟨c37, H⟩
            · have hk := hk.lit 25 c37 rfl
              refine sk hk rfl rfl rfl fun a hk => ?_
              refine sk hk rfl rfl rfl fun a hk => ?_
              refine sk hk rfl rfl rfl fun a hk => ?_
              refine sk hk rfl rfl rfl fun a hk => ?_
              refine sv (.bool true) hk rfl rfl rfl fun a hk => ?_
              show wpList _ _ _ [] _ _
              refine wpList_nil ?_
              obtain rfl := Option.some.inj H
              show R31 _ _
              rw [hR31]
              exact ⟨true, rfl, (hk.c 0 rfl (hk.c 3 rfl (hk.c 30 rfl hk.k))), (hs.pick [] rfl)⟩
            · have hk := hk.lit 25 c37 rfl
              refine sf ⟨b24, 2, none⟩ rfl hk rfl rfl rfl fd81_2 rfl fun a hk => ?_
              refine sl rfl hk rfl rfl rfl ag3 (box_cell hs (k := 3) rfl rfl) fun a hk => ?_
              obtain ⟨y38, h39, H⟩ := bind_some H
              refine sc rfl en81 hk rfl rfl rfl (spec_l01In_t _ ((l0.getD u6.toNat z_Block).Value) 0 999999 _ h39) ?_
              rintro _ w ⟨rfl, hG⟩ a hk
              have hs := hs.call0 hG
              refine sv (.bool (!y38)) hk rfl rfl rfl fun a hk => ?_
              refine sv (.bool (!y38)) hk rfl rfl rfl fun a hk => ?_
              show wpList _ _ _ [] _ _
              refine wpList_nil ?_
              obtain rfl := Option.some.inj H
              show R31 _ _
              rw [hR31]
              exact ⟨(!y38), rfl, (hk.c 0 rfl (hk.c 3 rfl (hk.c 30 rfl hk.k))), (hs.pick [] rfl)⟩
        · intro a w hR0
          rw [hR31] at hR0
          obtain ⟨u27, rfl, hk, hs⟩ := hR0
          have H := HL30
          try dsimp only at H
          refine hK25 _ _ ?_
          rcases cond_some H with ⟨c40, H⟩ | ⟨c40, H⟩
          · have hk := hk.lit 30 c40 rfl
            refine cnd_true hk rfl rfl ?_
            apply wp_seq_k; intro K41 hK41
            apply wp_region_lit
            refine sa _ rfl hk rfl rfl rfl fun a hk => ?_
            show wpList _ _ _ [] _ _
            refine wpList_nil ?_
            refine hK41 _ _ ?_
            refine wp_ret ?_
            obtain rfl := Option.some.inj H
            have ho7 := h14
            try dsimp only at ho7
            subst ho7
            have H := HL9
            try dsimp only at H
            obtain rfl := Option.some.inj H
            exact fin hk _ [(.bool false)] rfl ⟨rfl, trivial⟩ ⟨rfl, (hs.pick [] rfl).dnil⟩
          · have hk := hk.lit 30 c40 rfl
            refine cnd_false hk rfl rfl ?_
            refine wp_skip ?_
            refine hK18 _ _ ?_
            apply wp_region_lit
            refine sm _ rfl hk rfl rfl rfl fun a hk => ?_
            refine sv (.int .i64 (w64 (u6 + 1))) hk rfl rfl rfl fun a hk => ?_
            refine sa _ rfl hk rfl rfl rfl fun a hk => ?_
            show wpList _ _ _ [] _ _
            refine wpList_nil ?_
            obtain rfl := Option.some.inj H
            obtain ⟨m42, hmm42, h14⟩ := h14
            show ∃ n', n' < _ ∧ I11 n' _ _
            refine ⟨m42, hmm42, ?_⟩
            rw [hI11]
            exact ⟨(w64 (u6 + 1)), h14, (hk.c 0 rfl (hk.c 3 rfl hk.k)), (hs.pick [] rfl)⟩
      · have hk := hk.lit 8 c17 rfl
        refine cnd_false hk rfl rfl ?_
        refine wp_exit ?_
        obtain rfl := Option.some.inj H
        show R10 _ _
        rw [hR10]
        exact ⟨h14.symm, (hk.c 0 rfl hk.k), (hs.pick [] rfl)⟩
  · intro a w hR0
    rw [hR10] at hR0
    obtain ⟨rfl, hk, hs⟩ := hR0
    have H := HL9
    try dsimp only at H
    refine hK2 _ _ ?_
    apply wp_seq_k; intro K43 hK43
    apply wp_region_lit
    refine sm _ rfl hk rfl rfl rfl fun a hk => ?_
    refine sle rfl hk rfl rfl rfl un26 fun a hk => ?_
    refine sv (.bool (decide ((l0.length : Int) ≤ 2))) hk rfl rfl rfl fun a hk => ?_
    refine sa _ rfl hk rfl rfl rfl fun a hk => ?_
    show wpList _ _ _ [] _ _
    refine wpList_nil ?_
    refine hK43 _ _ ?_
    refine wp_ret ?_
    obtain rfl := Option.some.inj H
    exact fin hk _ [(.bool (decide ((l0.length : Int) ≤ 2)))] rfl ⟨rfl, trivial⟩ ⟨rfl, (hs.pick [] rfl).dnil⟩

noncomputable def spec_l02Bytes.f (l0 : List Int) (x1 : Int) : Option ((List Int)) :=
  (if l0.length + ([(IntKind.wrap .u8 x1), (IntKind.wrap .u8 (Int.fdiv x1 (2 ^ 8))), (IntKind.wrap .u8 (Int.fdiv x1 (2 ^ 16))), (IntKind.wrap .u8 (Int.fdiv x1 (2 ^ 24)))]).length ≤ 1073741824 then (some (l0 ++ ([(IntKind.wrap .u8 x1), (IntKind.wrap .u8 (Int.fdiv x1 (2 ^ 8))), (IntKind.wrap .u8 (Int.fdiv x1 (2 ^ 16))), (IntKind.wrap .u8 (Int.fdiv x1 (2 ^ 24)))]))) else none)
set_option maxRecDepth 100000 in
set_option maxHeartbeats 0 in
theorem spec_l02Bytes_t (w0 : World) (A0_ : Option Addr) (p0_ : Nat) (l0 : List Int) (k0_ : Chunk) (v0_ : Own (Lay.int .u8) 5 A0_ p0_ l0 k0_) (x1 : Int) (hs0 : Sat (blks [(1, k0_)]) w0 w0 [] [(1, k0_)]) (r : (List Int)) (H : spec_l02Bytes.f l0 x1 = some r) :
    Calls Try.prog 176 #[.slice A0_ l0.length p0_, .int .i64 x1] w0 (Ret (fun v w => ∃ (A0 : Option Addr) (p0 : Nat) (k0 : Chunk), v = .slice A0 r.length p0 ∧ Own (Lay.int .u8) 5 A0 p0 r k0 ∧ Sat (blks [(1, k0_)]) w0 w [] [(0, k0)])) := by
  have hs := hs0
  unfold spec_l02Bytes.f at H
  refine enter Try.func176 rfl Try.ntmps176 rfl fun a hk => ?_
  apply wp_seq_k; intro K1 hK1
  apply wp_region_lit
  refine sa _ rfl hk rfl rfl rfl fun a hk => ?_
  show wpList _ _ _ [] _ _
  refine wpList_nil ?_
  refine hK1 _ _ ?_
  apply wp_seq_k; intro K2 hK2
  apply wp_region_lit
  refine sm _ rfl hk rfl rfl rfl fun a hk => ?_
  refine sm _ rfl hk rfl rfl rfl fun a hk => ?_
  refine scn rfl hk rfl rfl rfl un5 un3 fun a hk => ?_
  refine sm _ rfl hk rfl rfl rfl fun a hk => ?_
  refine sv (.int .i64 (Int.fdiv x1 (2 ^ 8))) hk rfl rfl rfl fun a hk => ?_
  refine scn rfl hk rfl rfl rfl un5 un3 fun a hk => ?_
  refine sm _ rfl hk rfl rfl rfl fun a hk => ?_
  refine sv (.int .i64 (Int.fdiv x1 (2 ^ 16))) hk rfl rfl rfl fun a hk => ?_
  refine scn rfl hk rfl rfl rfl un5 un3 fun a hk => ?_
  refine sm _ rfl hk rfl rfl rfl fun a hk => ?_
  refine sv (.int .i64 (Int.fdiv x1 (2 ^ 24))) hk rfl rfl rfl fun a hk => ?_
  refine scn rfl hk rfl rfl rfl un5 un3 fun a hk => ?_
  refine sbs (L := (Lay.int .u8)) (pv := [(0, (.int .u8 (IntKind.wrap .u8 x1))), (1, (.int .u8 (IntKind.wrap .u8 (Int.fdiv x1 (2 ^ 8))))), (2, (.int .u8 (IntKind.wrap .u8 (Int.fdiv x1 (2 ^ 16))))), (3, (.int .u8 (IntKind.wrap .u8 (Int.fdiv x1 (2 ^ 24)))))]) (xs := [(IntKind.wrap .u8 x1), (IntKind.wrap .u8 (Int.fdiv x1 (2 ^ 8))), (IntKind.wrap .u8 (Int.fdiv x1 (2 ^ 16))), (IntKind.wrap .u8 (Int.fdiv x1 (2 ^ 24)))]) (ess := [[.int .u8 (IntKind.wrap .u8 x1)], [.int .u8 (IntKind.wrap .u8 (Int.fdiv x1 (2 ^ 8)))], [.int .u8 (IntKind.wrap .u8 (Int.fdiv x1 (2 ^ 16)))], [.int .u8 (IntKind.wrap .u8 (Int.fdiv x1 (2 ^ 24)))]]) 2 hs rfl hk rfl rfl rfl un74 (bs5_0 (IntKind.wrap .u8 x1) (IntKind.wrap .u8 (Int.fdiv x1 (2 ^ 8))) (IntKind.wrap .u8 (Int.fdiv x1 (2 ^ 16))) (IntKind.wrap .u8 (Int.fdiv x1 (2 ^ 24)))) (AllOwn.cons0 ⟨rfl, rfl⟩ (AllOwn.cons0 ⟨rfl, rfl⟩ (AllOwn.cons0 ⟨rfl, rfl⟩ (AllOwn.cons0 ⟨rfl, rfl⟩ AllOwn.nil)))) rfl rfl rfl fun b3 k4 w a hk o5 hs => ?_
  rcases ite_some H with ⟨c6, H⟩ | ⟨_, H⟩
  rotate_left
  · cases H
  refine sap 1 (xs := l0) (ys := [(IntKind.wrap .u8 x1), (IntKind.wrap .u8 (Int.fdiv x1 (2 ^ 8))), (IntKind.wrap .u8 (Int.fdiv x1 (2 ^ 16))), (IntKind.wrap .u8 (Int.fdiv x1 (2 ^ 24)))]) (flat_flat : ((Lay.int .u8)).Flat) hs rfl v0_ o5.view (hs.hasG (k := 2) rfl) rfl hk rfl rfl rfl rfl rfl rfl un74 mk5 rfl rfl rfl c6 fun A7 p8 k9 w a hk o10 hs => ?_
  refine sa _ rfl hk rfl rfl rfl fun a hk => ?_
  show wpList _ _ _ [] _ _
  refine wpList_nil ?_
  refine hK2 _ _ ?_
  refine wp_ret ?_
  obtain rfl := Option.some.inj H
  exact fin hk _ [(.slice A7 (l0 ++ ([(IntKind.wrap .u8 x1), (IntKind.wrap .u8 (Int.fdiv x1 (2 ^ 8))), (IntKind.wrap .u8 (Int.fdiv x1 (2 ^ 16))), (IntKind.wrap .u8 (Int.fdiv x1 (2 ^ 24)))])).length p8)] rfl ⟨rfl, trivial⟩ ⟨A7, p8, _, rfl, o10, (hs.pick [(0, 1)] rfl).dnil⟩

noncomputable def spec_l06Ints.s0 (l0 : List Int) (u15 : List Int) (u14 : Int) : Option (((List Int) × Int) ⊕ Ex ((List Int)) (ByteArray)) :=
  (bif (decide (u14 < (l0.length : Int))) then (if 0 ≤ u14 ∧ u14 < (l0.length : Int) then ((spec_l02Bytes.f u15 (l0.getD u14.toNat 0)).bind fun y41 => (some (.inl (y41, (w64 (u14 + 1)))))) else none) else (some (.inr (.out u15))))
noncomputable def spec_l06Ints.f (l0 : List Int) : Option (ByteArray) :=
  ((loopO (fun s => spec_l06Ints.s0 l0 s.1 s.2) (([] : List Int), 0)).bind fun o => match o with | .out u20 => (some (strOfNums u20)) | .ret r => (some r))
set_option maxRecDepth 100000 in
set_option maxHeartbeats 0 in
theorem spec_l06Ints_t (w0 : World) (A0_ : Option Addr) (p0_ : Nat) (l0 : List Int) (k0_ : Chunk) (v0_ : View (Lay.int .i64) A0_ p0_ l0 k0_) (w0_ : Has w0 k0_) (r : ByteArray) (H : spec_l06Ints.f l0 = some r) :
    Calls Try.prog 149 #[.slice A0_ l0.length p0_] w0 (Ret (fun v w => v = .string r ∧ Sat [] w0 w [] [])) := by
  have hs : Sat [] w0 w0 [(1, k0_)] [] := Sat.init w0 [(1, k0_)] [] (by simp only [List.mem_cons, List.not_mem_nil, or_false]; rintro x (rfl) <;> assumption) (by simp) List.nodup_nil (by simp [blks])
  unfold spec_l06Ints.f at H
  refine enter Try.func149 rfl Try.ntmps149 rfl fun a hk => ?_
  apply wp_seq_k; intro K1 hK1
  apply wp_region_lit
  refine sa _ rfl hk rfl rfl rfl fun a hk => ?_
  show wpList _ _ _ [] _ _
  refine wpList_nil ?_
  refine hK1 _ _ ?_
  apply wp_seq_k; intro K2 hK2
  apply wp_region_lit
  refine sbs0 2 (Lay.int .u8) hs rfl hk rfl rfl un74 sz5 fun b3 k4 w a hk o5 hs => ?_
  refine sa _ rfl hk rfl rfl rfl fun a hk => ?_
  show wpList _ _ _ [] _ _
  refine wpList_nil ?_
  refine hK2 _ _ ?_
  apply wp_seq_k; intro K6 hK6
  apply wp_seq_k; intro K7 hK7
  apply wp_region_lit
  refine sa _ rfl hk rfl rfl rfl fun a hk => ?_
  show wpList _ _ _ [] _ _
  refine wpList_nil ?_
  refine hK7 _ _ ?_
  obtain ⟨o25, h26, HL27⟩ := bind_some H
  clear H
  obtain ⟨R28, hR28⟩ : ∃ R : Act → World → Prop, R = fun a w => ∃ (u20 : List Int) (A23 : Option Addr) (p24 : Nat) (k21 : Chunk), o25 = .out u20 ∧ Kn [(3, (.slice A23 u20.length p24))] 20 a ∧ Sat [] w0 w [(1, k0_)] [(2, k21)] ∧ Own (Lay.int .u8) 5 A23 p24 u20 k21 := ⟨_, rfl⟩
  refine wp_cutq R28 ?_ ?_
  · refine wp_block ?_
    obtain ⟨fu30, h26⟩ := loopO_some h26
    obtain ⟨I29, hI29⟩ : ∃ I : Nat → Act → World → Prop, I = fun fu a w => ∃ (u15 : List Int) (u14 : Int) (A18 : Option Addr) (p19 : Nat) (k16 : Chunk), loopN (fun s => spec_l06Ints.s0 l0 s.1 s.2) fu (u15, u14) = some o25 ∧ Kn [(0, (.slice A0_ l0.length p0_)), (3, (.slice A18 u15.length p19)), (4, (.int .i64 u14))] 20 a ∧ Sat [] w0 w [(1, k0_)] [(2, k16)] ∧ Own (Lay.int .u8) 5 A18 p19 u15 k16 := ⟨_, rfl⟩
    refine wp_loop_ghost I29 fu30 ?_ ?_
    · rw [hI29]
      exact ⟨([] : List Int), 0, (some ⟨b3, 0, none⟩), 0, _, h26, (hk.c 0 rfl (hk.c 3 rfl (hk.c 4 rfl hk.k))), (hs.pick [(2, 2)] rfl), o5⟩
    · clear h26 hk hs
      intro fu30 a w hI0
      rw [hI29] at hI0
      obtain ⟨u15, u14, A18, p19, k16, hi, hk, hs, o17⟩ := hI0
      obtain ⟨x31, H, h32⟩ := loop_round hi
      try dsimp only at H
      unfold spec_l06Ints.s0 at H
      apply wp_seq_k; intro K33 hK33
      apply wp_seq_k; intro K34 hK34
      apply wp_region_lit
      refine sm _ rfl hk rfl rfl rfl fun a hk => ?_
      refine sm _ rfl hk rfl rfl rfl fun a hk => ?_
      refine sle rfl hk rfl rfl rfl un31 fun a hk => ?_
      refine sv (.bool (decide (u14 < (l0.length : Int)))) hk rfl rfl rfl fun a hk => ?_
      show wpList _ _ _ [] _ _
      refine wpList_nil ?_
      refine hK34 _ _ ?_
      rcases cond_some H with ⟨c35, H⟩ | ⟨c35, H⟩
      · have hk := hk.lit 9 c35 rfl
        refine cnd_true hk rfl rfl ?_
        refine wp_skip ?_
        refine hK33 _ _ ?_
        apply wp_seq_k; intro K36 hK36
        refine wp_block ?_
        apply wp_region_lit
        refine sm _ rfl hk rfl rfl rfl fun a hk => ?_
        refine sm _ rfl hk rfl rfl rfl fun a hk => ?_
        refine sm _ rfl hk rfl rfl rfl fun a hk => ?_
        rcases ite_some H with ⟨c37, H⟩ | ⟨_, H⟩
        rotate_left
        · cases H
        obtain ⟨b38, q39, hAc37⟩ := (v0_).some_ u14 c37.1 c37.2
        refine si rfl hk rfl rfl rfl rfl un31 sz3 c37.1 c37.2 hAc37 fun a hk => ?_
        obtain ⟨_, rfl, e40⟩ := (v0_).at_ 0 u14 c37.1 c37.2
        refine sl (v := (.int .i64 (l0.getD u14.toNat 0))) rfl hk rfl rfl rfl ag3 ((e40 0 _ rfl).cell (hs.hasD (k := 1) rfl)) fun a hk => ?_
        obtain ⟨y41, h42, H⟩ := bind_some H
        refine sc rfl en176 hk rfl rfl rfl (spec_l02Bytes_t _ A18 p19 u15 _ o17 (l0.getD u14.toNat 0) ((hs.hand [(1, 2)] rfl).dpick [] rfl) _ h42) ?_
        rintro _ w ⟨A43, p44, k45, rfl, o46, hG⟩ a hk
        have hs := hs.back [(1, 2)] rfl hG [4] rfl
        refine sa _ rfl hk rfl rfl rfl fun a hk => ?_
        show wpList _ _ _ [] _ _
        refine wpList_nil ?_
        refine hK36 _ _ ?_
        apply wp_region_lit
        refine sm _ rfl hk rfl rfl rfl fun a hk => ?_
        refine sv (.int .i64 (w64 (u14 + 1))) hk rfl rfl rfl fun a hk => ?_
        refine sa _ rfl hk rfl rfl rfl fun a hk => ?_
        show wpList _ _ _ [] _ _
        refine wpList_nil ?_
        obtain rfl := Option.some.inj H
        obtain ⟨m47, hmm47, h32⟩ := h32
        show ∃ n', n' < _ ∧ I29 n' _ _
        refine ⟨m47, hmm47, ?_⟩
        rw [hI29]
        exact ⟨y41, (w64 (u14 + 1)), A43, p44, _, h32, (hk.c 0 rfl (hk.c 3 rfl (hk.c 4 rfl hk.k))), (hs.pick [(2, 4)] rfl), o46⟩
      · have hk := hk.lit 9 c35 rfl
        refine cnd_false hk rfl rfl ?_
        refine wp_exit ?_
        obtain rfl := Option.some.inj H
        show R28 _ _
        rw [hR28]
        exact ⟨u15, A18, p19, _, h32.symm, (hk.c 3 rfl hk.k), (hs.pick [(2, 2)] rfl), o17⟩
  · intro a w hR0
    rw [hR28] at hR0
    obtain ⟨u20, A23, p24, k21, rfl, hk, hs, o22⟩ := hR0
    have H := HL27
    try dsimp only at H
    refine hK6 _ _ ?_
    apply wp_seq_k; intro K48 hK48
    apply wp_region_lit
    refine sm _ rfl hk rfl rfl rfl fun a hk => ?_
    refine sbt (xs := u20) rfl hk rfl rfl rfl rfl un74 un5 un9 o22.view (hs.hasG (k := 2) rfl) fun a hk => ?_
    refine sa _ rfl hk rfl rfl rfl fun a hk => ?_
    show wpList _ _ _ [] _ _
    refine wpList_nil ?_
    refine hK48 _ _ ?_
    refine wp_ret ?_
    obtain rfl := Option.some.inj H
    exact fin hk _ [(.string (strOfNums u20))] rfl ⟨rfl, trivial⟩ ⟨rfl, (hs.pick [] rfl).dnil⟩

noncomputable def spec_l12Fill.s0 (x1 : Int) (u9 : List Int) : Option (((List Int)) ⊕ Ex ((List Int)) (ByteArray)) :=
  (bif (decide ((u9.length : Int) < x1)) then (if u9.length + ([0]).length ≤ 1073741824 then (some (.inl (u9 ++ ([0])))) else none) else (some (.inr (.out u9))))
noncomputable def spec_l12Fill.f (l0 : List Int) (x1 : Int) : Option (ByteArray) :=
  ((loopO (fun s => spec_l12Fill.s0 x1 s) l0).bind fun o => match o with | .out u14 => ((spec_l06Ints.f u14).bind fun y40 => (some y40)) | .ret r => (some r))
set_option maxRecDepth 100000 in
set_option maxHeartbeats 0 in
theorem spec_l12Fill_t (w0 : World) (A0_ : Option Addr) (p0_ : Nat) (l0 : List Int) (k0_ : Chunk) (v0_ : Own (Lay.int .i64) 3 A0_ p0_ l0 k0_) (x1 : Int) (hs0 : Sat (blks [(1, k0_)]) w0 w0 [] [(1, k0_)]) (r : ByteArray) (H : spec_l12Fill.f l0 x1 = some r) :
    Calls Try.prog 102 #[.slice A0_ l0.length p0_, .int .i64 x1] w0 (Ret (fun v w => v = .string r ∧ Sat (blks [(1, k0_)]) w0 w [] [])) := by
  have hs := hs0
  unfold spec_l12Fill.f at H
  refine enter Try.func102 rfl Try.ntmps102 rfl fun a hk => ?_
  apply wp_seq_k; intro K1 hK1
  apply wp_region_lit
  refine sa _ rfl hk rfl rfl rfl fun a hk => ?_
  show wpList _ _ _ [] _ _
  refine wpList_nil ?_
  refine hK1 _ _ ?_
  apply wp_seq_k; intro K2 hK2
  obtain ⟨o19, h20, HL21⟩ := bind_some H
  clear H
  obtain ⟨R22, hR22⟩ : ∃ R : Act → World → Prop, R = fun a w => ∃ (u14 : List Int) (A17 : Option Addr) (p18 : Nat) (k15 : Chunk), o19 = .out u14 ∧ Kn [(0, (.slice A17 u14.length p18))] 14 a ∧ Sat (blks [(1, k0_)]) w0 w [] [(1, k15)] ∧ Own (Lay.int .i64) 3 A17 p18 u14 k15 := ⟨_, rfl⟩
  refine wp_cutq R22 ?_ ?_
  · refine wp_block ?_
    obtain ⟨fu24, h20⟩ := loopO_some h20
    obtain ⟨I23, hI23⟩ : ∃ I : Nat → Act → World → Prop, I = fun fu a w => ∃ (u9 : List Int) (A12 : Option Addr) (p13 : Nat) (k10 : Chunk), loopN (fun s => spec_l12Fill.s0 x1 s) fu u9 = some o19 ∧ Kn [(0, (.slice A12 u9.length p13)), (1, (.int .i64 x1))] 14 a ∧ Sat (blks [(1, k0_)]) w0 w [] [(1, k10)] ∧ Own (Lay.int .i64) 3 A12 p13 u9 k10 := ⟨_, rfl⟩
    refine wp_loop_ghost I23 fu24 ?_ ?_
    · rw [hI23]
      exact ⟨l0, A0_, p0_, _, h20, (hk.c 0 rfl (hk.c 1 rfl hk.k)), (hs.pick [(1, 1)] rfl), v0_⟩
    · clear h20 hk hs
      intro fu24 a w hI0
      rw [hI23] at hI0
      obtain ⟨u9, A12, p13, k10, hi, hk, hs, o11⟩ := hI0
      obtain ⟨x25, H, h26⟩ := loop_round hi
      try dsimp only at H
      unfold spec_l12Fill.s0 at H
      apply wp_seq_k; intro K27 hK27
      apply wp_seq_k; intro K28 hK28
      apply wp_region_lit
      refine sm _ rfl hk rfl rfl rfl fun a hk => ?_
      refine sle rfl hk rfl rfl rfl un31 fun a hk => ?_
      refine sm _ rfl hk rfl rfl rfl fun a hk => ?_
      refine sv (.bool (decide ((u9.length : Int) < x1))) hk rfl rfl rfl fun a hk => ?_
      show wpList _ _ _ [] _ _
      refine wpList_nil ?_
      refine hK28 _ _ ?_
      rcases cond_some H with ⟨c29, H⟩ | ⟨c29, H⟩
      · have hk := hk.lit 8 c29 rfl
        refine cnd_true hk rfl rfl ?_
        refine wp_skip ?_
        refine hK27 _ _ ?_
        refine wp_block ?_
        apply wp_region_lit
        refine sm _ rfl hk rfl rfl rfl fun a hk => ?_
        refine sbs (L := (Lay.int .i64)) (pv := [(0, (.int .i64 0))]) (xs := [0]) (ess := [[.int .i64 0]]) 3 hs rfl hk rfl rfl rfl un31 (bs3_1 0) (AllOwn.cons0 ⟨rfl, rfl⟩ AllOwn.nil) rfl rfl rfl fun b30 k31 w a hk o32 hs => ?_
        rcases ite_some H with ⟨c33, H⟩ | ⟨_, H⟩
        rotate_left
        · cases H
        refine sap 1 (xs := u9) (ys := [0]) (flat_flat : ((Lay.int .i64)).Flat) hs rfl o11 o32.view (hs.hasG (k := 3) rfl) rfl hk rfl rfl rfl rfl rfl rfl un31 mk3 rfl rfl rfl c33 fun A34 p35 k36 w a hk o37 hs => ?_
        refine sa _ rfl hk rfl rfl rfl fun a hk => ?_
        show wpList _ _ _ [] _ _
        refine wpList_nil ?_
        obtain rfl := Option.some.inj H
        obtain ⟨m38, hmm38, h26⟩ := h26
        show ∃ n', n' < _ ∧ I23 n' _ _
        refine ⟨m38, hmm38, ?_⟩
        rw [hI23]
        exact ⟨(u9 ++ ([0])), A34, p35, _, h26, (hk.c 0 rfl (hk.c 1 rfl hk.k)), (hs.pick [(1, 1)] rfl), o37⟩
      · have hk := hk.lit 8 c29 rfl
        refine cnd_false hk rfl rfl ?_
        refine wp_exit ?_
        obtain rfl := Option.some.inj H
        show R22 _ _
        rw [hR22]
        exact ⟨u9, A12, p13, _, h26.symm, (hk.c 0 rfl hk.k), (hs.pick [(1, 1)] rfl), o11⟩
  · intro a w hR0
    rw [hR22] at hR0
    obtain ⟨u14, A17, p18, k15, rfl, hk, hs, o16⟩ := hR0
    have H := HL21
    try dsimp only at H
    refine hK2 _ _ ?_
    apply wp_seq_k; intro K39 hK39
    apply wp_region_lit
    refine sm _ rfl hk rfl rfl rfl fun a hk => ?_
    obtain ⟨y40, h41, H⟩ := bind_some H
    refine sc rfl en149 hk rfl rfl rfl (spec_l06Ints_t _ A17 p18 u14 _ o16.view (hs.hasG (k := 1) rfl) _ h41) ?_
    rintro _ w ⟨rfl, hG⟩ a hk
    have hs := hs.call0 hG
    refine sa _ rfl hk rfl rfl rfl fun a hk => ?_
    show wpList _ _ _ [] _ _
    refine wpList_nil ?_
    refine hK39 _ _ ?_
    refine wp_ret ?_
    obtain rfl := Option.some.inj H
    exact fin hk _ [(.string y40)] rfl ⟨rfl, trivial⟩ ⟨rfl, (hs.pick [] rfl).dnil⟩

noncomputable def spec_l12Bucket.s0 (l0 : List S_Block) (u15 : List Int) (u14 : Int) : Option (((List Int) × Int) ⊕ Ex ((List Int)) (ByteArray)) :=
  (bif (decide (u14 < (l0.length : Int))) then (if 0 ≤ u14 ∧ u14 < (l0.length : Int) then (if 0 ≤ u14 ∧ u14 < (l0.length : Int) then (if 0 ≤ u14 ∧ u14 < (l0.length : Int) then (if u15.length + ([(l0.getD u14.toNat z_Block).Id, (l0.getD u14.toNat z_Block).Leaf, (l0.getD u14.toNat z_Block).Value]).length ≤ 1073741824 then (some (.inl ((u15 ++ ([(l0.getD u14.toNat z_Block).Id, (l0.getD u14.toNat z_Block).Leaf, (l0.getD u14.toNat z_Block).Value])), (w64 (u14 + 1))))) else none) else none) else none) else none) else (some (.inr (.out u15))))
noncomputable def spec_l12Bucket.f (l0 : List S_Block) : Option (ByteArray) :=
  ((loopO (fun s => spec_l12Bucket.s0 l0 s.1 s.2) ([(l0.length : Int)], 0)).bind fun o => match o with | .out u20 => ((spec_l12Fill.f u20 7).bind fun y60 => (some y60)) | .ret r => (some r))
set_option maxRecDepth 100000 in
set_option maxHeartbeats 0 in
theorem spec_l12Bucket_t (w0 : World) (A0_ : Option Addr) (p0_ : Nat) (l0 : List S_Block) (k0_ : Chunk) (v0_ : View L_Block A0_ p0_ l0 k0_) (w0_ : Has w0 k0_) (r : ByteArray) (H : spec_l12Bucket.f l0 = some r) :
    Calls Try.prog 54 #[.slice A0_ l0.length p0_] w0 (Ret (fun v w => v = .string r ∧ Sat [] w0 w [] [])) := by
  have hs : Sat [] w0 w0 [(1, k0_)] [] := Sat.init w0 [(1, k0_)] [] (by simp only [List.mem_cons, List.not_mem_nil, or_false]; rintro x (rfl) <;> assumption) (by simp) List.nodup_nil (by simp [blks])
  unfold spec_l12Bucket.f at H
  refine enter Try.func54 rfl Try.ntmps54 rfl fun a hk => ?_
  apply wp_seq_k; intro K1 hK1
  apply wp_region_lit
  refine sa _ rfl hk rfl rfl rfl fun a hk => ?_
  show wpList _ _ _ [] _ _
  refine wpList_nil ?_
  refine hK1 _ _ ?_
  apply wp_seq_k; intro K2 hK2
  apply wp_region_lit
  refine sm _ rfl hk rfl rfl rfl fun a hk => ?_
  refine sle rfl hk rfl rfl rfl un26 fun a hk => ?_
  refine sbs (L := (Lay.int .i64)) (pv := [(0, (.int .i64 (l0.length : Int)))]) (xs := [(l0.length : Int)]) (ess := [[.int .i64 (l0.length : Int)]]) 2 hs rfl hk rfl rfl rfl un31 (bs3_1 (l0.length : Int)) (AllOwn.cons0 ⟨rfl, rfl⟩ AllOwn.nil) rfl rfl rfl fun b3 k4 w a hk o5 hs => ?_
  refine sa _ rfl hk rfl rfl rfl fun a hk => ?_
  show wpList _ _ _ [] _ _
  refine wpList_nil ?_
  refine hK2 _ _ ?_
  apply wp_seq_k; intro K6 hK6
  apply wp_seq_k; intro K7 hK7
  apply wp_region_lit
  refine sa _ rfl hk rfl rfl rfl fun a hk => ?_
  show wpList _ _ _ [] _ _
  refine wpList_nil ?_
  refine hK7 _ _ ?_
  obtain ⟨o25, h26, HL27⟩ := bind_some H
  clear H
  obtain ⟨R28, hR28⟩ : ∃ R : Act → World → Prop, R = fun a w => ∃ (u20 : List Int) (A23 : Option Addr) (p24 : Nat) (k21 : Chunk), o25 = .out u20 ∧ Kn [(3, (.slice A23 u20.length p24))] 34 a ∧ Sat [] w0 w [(1, k0_)] [(2, k21)] ∧ Own (Lay.int .i64) 3 A23 p24 u20 k21 := ⟨_, rfl⟩
  refine wp_cutq R28 ?_ ?_
  · refine wp_block ?_
    obtain ⟨fu30, h26⟩ := loopO_some h26
    obtain ⟨I29, hI29⟩ : ∃ I : Nat → Act → World → Prop, I = fun fu a w => ∃ (u15 : List Int) (u14 : Int) (A18 : Option Addr) (p19 : Nat) (k16 : Chunk), loopN (fun s => spec_l12Bucket.s0 l0 s.1 s.2) fu (u15, u14) = some o25 ∧ Kn [(0, (.slice A0_ l0.length p0_)), (3, (.slice A18 u15.length p19)), (4, (.int .i64 u14))] 34 a ∧ Sat [] w0 w [(1, k0_)] [(2, k16)] ∧ Own (Lay.int .i64) 3 A18 p19 u15 k16 := ⟨_, rfl⟩
    refine wp_loop_ghost I29 fu30 ?_ ?_
    · rw [hI29]
      exact ⟨[(l0.length : Int)], 0, (some ⟨b3, 0, none⟩), 1, _, h26, (hk.c 0 rfl (hk.c 3 rfl (hk.c 4 rfl hk.k))), (hs.pick [(2, 2)] rfl), o5⟩
    · clear h26 hk hs
      intro fu30 a w hI0
      rw [hI29] at hI0
      obtain ⟨u15, u14, A18, p19, k16, hi, hk, hs, o17⟩ := hI0
      obtain ⟨x31, H, h32⟩ := loop_round hi
      try dsimp only at H
      unfold spec_l12Bucket.s0 at H
      apply wp_seq_k; intro K33 hK33
      apply wp_seq_k; intro K34 hK34
      apply wp_region_lit
      refine sm _ rfl hk rfl rfl rfl fun a hk => ?_
      refine sm _ rfl hk rfl rfl rfl fun a hk => ?_
      refine sle rfl hk rfl rfl rfl un26 fun a hk => ?_
      refine sv (.bool (decide (u14 < (l0.length : Int)))) hk rfl rfl rfl fun a hk => ?_
      show wpList _ _ _ [] _ _
      refine wpList_nil ?_
      refine hK34 _ _ ?_
      rcases cond_some H with ⟨c35, H⟩ | ⟨c35, H⟩
      · have hk := hk.lit 11 c35 rfl
        refine cnd_true hk rfl rfl ?_
        refine wp_skip ?_
        refine hK33 _ _ ?_
        apply wp_seq_k; intro K36 hK36
        refine wp_block ?_
        refine wp_region_tree (.q 0 (.q 1 (.q 2 (.q 3 (.q 4 (.q 5 (.q 6 (.q 7 (.q 8 (.q 9 (.q 10 (.q 11 (.alt 12 (.alt 13 (.alt 14 (.alt 15 (.alt 16 (.alt 17 (.last 18) .stop) .stop) .stop) .stop) .stop) .stop))))))))))))) mo (by kernel_rfl) (hs.pick [] rfl) fun _ => ?_
        have hs := hs.drew
        refine tqst (.slice A18 u15.length p19) hk rfl rfl rfl rfl (fun w hs => sm _ rfl hk rfl rfl rfl fun a hk => qe hk) fun a hk => ?_
        refine tqst (.slice A0_ l0.length p0_) hk rfl rfl rfl rfl (fun w hs => sm _ rfl hk rfl rfl rfl fun a hk => qe hk) fun a hk => ?_
        refine tqst (.int .i64 u14) hk rfl rfl rfl rfl (fun w hs => sm _ rfl hk rfl rfl rfl fun a hk => qe hk) fun a hk => ?_
        rcases ite_some H with ⟨c38, H⟩ | ⟨_, H⟩
        rotate_left
        · cases H
        obtain ⟨b39, q40, hAc38⟩ := (v0_).some_ u14 c38.1 c38.2
        refine tqst (.pointer (some (padd A0_ (u14.toNat * 3)))) hk rfl rfl rfl rfl (fun w hs => si rfl hk rfl rfl rfl rfl un26 sz81 c38.1 c38.2 hAc38 fun a hk => qe hk) fun a hk => ?_
        refine tqst (.pointer (some (padd A0_ (u14.toNat * 3)))) hk rfl rfl rfl rfl (fun w hs => sf (padd A0_ (u14.toNat * 3 + 0)) rfl hk rfl rfl rfl fd81_0 (padd_add _ _ _) fun a hk => qe hk) fun a hk => ?_
        obtain ⟨_, rfl, e41⟩ := (v0_).at_ z_Block u14 c38.1 c38.2
        refine tqst (.int .i64 ((l0.getD u14.toNat z_Block).Id)) hk rfl rfl rfl rfl (fun w hs => sl (v := (.int .i64 ((l0.getD u14.toNat z_Block).Id))) rfl hk rfl rfl rfl ag3 ((e41 0 _ rfl).cell (hs.hasD (k := 1) rfl)) fun a hk => qe hk) fun a hk => ?_
        refine tqst (.slice A0_ l0.length p0_) hk rfl rfl rfl rfl (fun w hs => sm _ rfl hk rfl rfl rfl fun a hk => qe hk) fun a hk => ?_
        refine tqst (.int .i64 u14) hk rfl rfl rfl rfl (fun w hs => sm _ rfl hk rfl rfl rfl fun a hk => qe hk) fun a hk => ?_
        rcases ite_some H with ⟨c42, H⟩ | ⟨_, H⟩
        rotate_left
        · cases H
        obtain ⟨b43, q44, hAc42⟩ := (v0_).some_ u14 c42.1 c42.2
        refine tqst (.pointer (some (padd A0_ (u14.toNat * 3)))) hk rfl rfl rfl rfl (fun w hs => si rfl hk rfl rfl rfl rfl un26 sz81 c42.1 c42.2 hAc42 fun a hk => qe hk) fun a hk => ?_
        refine tqst (.pointer (some (padd A0_ (u14.toNat * 3 + 1)))) hk rfl rfl rfl rfl (fun w hs => sf (padd A0_ (u14.toNat * 3 + 1)) rfl hk rfl rfl rfl fd81_1 (padd_add _ _ _) fun a hk => qe hk) fun a hk => ?_
        obtain ⟨_, rfl, e45⟩ := (v0_).at_ z_Block u14 c42.1 c42.2
        refine tqst (.int .i64 ((l0.getD u14.toNat z_Block).Leaf)) hk rfl rfl rfl rfl (fun w hs => sl (v := (.int .i64 ((l0.getD u14.toNat z_Block).Leaf))) rfl hk rfl rfl rfl ag3 ((e45 1 _ rfl).cell (hs.hasD (k := 1) rfl)) fun a hk => qe hk) fun a hk => ?_
        refine tqst (.slice A0_ l0.length p0_) hk rfl rfl rfl rfl (fun w hs => sm _ rfl hk rfl rfl rfl fun a hk => qe hk) fun a hk => ?_
        refine tsst hk rfl rfl (fun K_r37_12 hK_r37_12 w hF => ?_) wt_stop
        have hs := hs.f hF
        refine sm _ rfl hk rfl rfl rfl fun a hk => ?_
        refine se (hs.pick [] rfl) hk (hK_r37_12 _ _ ?_)
        refine tsst hk rfl rfl (fun K_r37_13 hK_r37_13 w hF => ?_) wt_stop
        have hs := hs.f hF
        rcases ite_some H with ⟨c46, H⟩ | ⟨_, H⟩
        rotate_left
        · cases H
        obtain ⟨b47, q48, hAc46⟩ := (v0_).some_ u14 c46.1 c46.2
        refine si rfl hk rfl rfl rfl rfl un26 sz81 c46.1 c46.2 hAc46 fun a hk => ?_
        refine se (hs.pick [] rfl) hk (hK_r37_13 _ _ ?_)
        refine tsst hk rfl rfl (fun K_r37_14 hK_r37_14 w hF => ?_) wt_stop
        have hs := hs.f hF
        refine sf (padd A0_ (u14.toNat * 3 + 2)) rfl hk rfl rfl rfl fd81_2 (padd_add _ _ _) fun a hk => ?_
        refine se (hs.pick [] rfl) hk (hK_r37_14 _ _ ?_)
        refine tsst hk rfl rfl (fun K_r37_15 hK_r37_15 w hF => ?_) wt_stop
        have hs := hs.f hF
        obtain ⟨_, rfl, e49⟩ := (v0_).at_ z_Block u14 c46.1 c46.2
        refine sl (v := (.int .i64 ((l0.getD u14.toNat z_Block).Value))) rfl hk rfl rfl rfl ag3 ((e49 2 _ rfl).cell (hs.hasD (k := 1) rfl)) fun a hk => ?_
        refine se (hs.pick [] rfl) hk (hK_r37_15 _ _ ?_)
        refine tsst hk rfl rfl (fun K_r37_16 hK_r37_16 w hF => ?_) wt_stop
        have hs := hs.f hF
        refine sbs (L := (Lay.int .i64)) (pv := [(0, (.int .i64 ((l0.getD u14.toNat z_Block).Id))), (1, (.int .i64 ((l0.getD u14.toNat z_Block).Leaf))), (2, (.int .i64 ((l0.getD u14.toNat z_Block).Value)))]) (xs := [(l0.getD u14.toNat z_Block).Id, (l0.getD u14.toNat z_Block).Leaf, (l0.getD u14.toNat z_Block).Value]) (ess := [[.int .i64 ((l0.getD u14.toNat z_Block).Id)], [.int .i64 ((l0.getD u14.toNat z_Block).Leaf)], [.int .i64 ((l0.getD u14.toNat z_Block).Value)]]) 5 hs rfl hk rfl rfl rfl un31 (bs3_2 ((l0.getD u14.toNat z_Block).Id) ((l0.getD u14.toNat z_Block).Leaf) ((l0.getD u14.toNat z_Block).Value)) (AllOwn.cons0 ⟨rfl, rfl⟩ (AllOwn.cons0 ⟨rfl, rfl⟩ (AllOwn.cons0 ⟨rfl, rfl⟩ AllOwn.nil))) rfl rfl rfl fun b50 k51 w a hk o52 hs => ?_
        refine se (hs.pick [] rfl) hk (hK_r37_16 _ _ ?_)
        refine tsst hk rfl rfl (fun K_r37_17 hK_r37_17 w hF => ?_) wt_stop
        have hs := hs.f hF
        rcases ite_some H with ⟨c53, H⟩ | ⟨_, H⟩
        rotate_left
        · cases H
        refine sap 2 (xs := u15) (ys := [(l0.getD u14.toNat z_Block).Id, (l0.getD u14.toNat z_Block).Leaf, (l0.getD u14.toNat z_Block).Value]) (flat_flat : ((Lay.int .i64)).Flat) hs rfl o17 o52.view (hs.hasG (k := 5) rfl) rfl hk rfl rfl rfl rfl rfl rfl un31 mk3 rfl rfl rfl c53 fun A54 p55 k56 w a hk o57 hs => ?_
        refine se (hs.pick [] rfl) hk (hK_r37_17 _ _ ?_)
        refine tlst hk rfl rfl fun K_r37_18 hK_r37_18 w hF => ?_
        have hs := hs.f hF
        refine sa _ rfl hk rfl rfl rfl fun a hk => ?_
        refine se trivial hk (hK_r37_18 _ _ fun w hF => ?_)
        have hs := hs.f hF
        refine hK36 _ _ ?_
        apply wp_region_lit
        refine sm _ rfl hk rfl rfl rfl fun a hk => ?_
        refine sv (.int .i64 (w64 (u14 + 1))) hk rfl rfl rfl fun a hk => ?_
        refine sa _ rfl hk rfl rfl rfl fun a hk => ?_
        show wpList _ _ _ [] _ _
        refine wpList_nil ?_
        obtain rfl := Option.some.inj H
        obtain ⟨m58, hmm58, h32⟩ := h32
        show ∃ n', n' < _ ∧ I29 n' _ _
        refine ⟨m58, hmm58, ?_⟩
        rw [hI29]
        exact ⟨(u15 ++ ([(l0.getD u14.toNat z_Block).Id, (l0.getD u14.toNat z_Block).Leaf, (l0.getD u14.toNat z_Block).Value])), (w64 (u14 + 1)), A54, p55, _, h32, (hk.c 0 rfl (hk.c 3 rfl (hk.c 4 rfl hk.k))), (hs.pick [(2, 2)] rfl), o57⟩
      · have hk := hk.lit 11 c35 rfl
        refine cnd_false hk rfl rfl ?_
        refine wp_exit ?_
        obtain rfl := Option.some.inj H
        show R28 _ _
        rw [hR28]
        exact ⟨u15, A18, p19, _, h32.symm, (hk.c 3 rfl hk.k), (hs.pick [(2, 2)] rfl), o17⟩
  · intro a w hR0
    rw [hR28] at hR0
    obtain ⟨u20, A23, p24, k21, rfl, hk, hs, o22⟩ := hR0
    have H := HL27
    try dsimp only at H
    refine hK6 _ _ ?_
    apply wp_seq_k; intro K59 hK59
    apply wp_region_lit
    refine sm _ rfl hk rfl rfl rfl fun a hk => ?_
    obtain ⟨y60, h61, H⟩ := bind_some H
    refine sc rfl en102 hk rfl rfl rfl (spec_l12Fill_t _ A23 p24 u20 _ o22 7 ((hs.hand [(1, 2)] rfl).dpick [] rfl) _ h61) ?_
    rintro _ w ⟨rfl, hG⟩ a hk
    have hs := hs.back [(1, 2)] rfl hG [] rfl
    refine sa _ rfl hk rfl rfl rfl fun a hk => ?_
    show wpList _ _ _ [] _ _
    refine wpList_nil ?_
    refine hK59 _ _ ?_
    refine wp_ret ?_
    obtain rfl := Option.some.inj H
    exact fin hk _ [(.string y60)] rfl ⟨rfl, trivial⟩ ⟨rfl, (hs.pick [] rfl).dnil⟩

noncomputable def spec_BucketText.f (l0 : List S_Block) : Option (ByteArray × Int) :=
  (bif (decide ((l0.length : Int) > 4096)) then (some ((⟨#[]⟩ : ByteArray), 2)) else ((spec_l12Blocks.f l0).bind fun y8 => (bif (!y8) then (some ((⟨#[]⟩ : ByteArray), 1)) else ((spec_l12Bucket.f l0).bind fun y13 => (some (y13, 0))))))
set_option maxRecDepth 100000 in
set_option maxHeartbeats 0 in
theorem spec_BucketText_t (w0 : World) (A0_ : Option Addr) (p0_ : Nat) (l0 : List S_Block) (k0_ : Chunk) (v0_ : View L_Block A0_ p0_ l0 k0_) (w0_ : Has w0 k0_) (r : ByteArray × Int) (H : spec_BucketText.f l0 = some r) :
    Calls Try.prog 12 #[.slice A0_ l0.length p0_] w0 (Ret (fun v w => v = .tuple #[.string r.1, .int .i64 r.2] ∧ Sat [] w0 w [] [])) := by
  have hs : Sat [] w0 w0 [(1, k0_)] [] := Sat.init w0 [(1, k0_)] [] (by simp only [List.mem_cons, List.not_mem_nil, or_false]; rintro x (rfl) <;> assumption) (by simp) List.nodup_nil (by simp [blks])
  unfold spec_BucketText.f at H
  refine enter Try.func12 rfl Try.ntmps12 rfl fun a hk => ?_
  apply wp_seq_k; intro K1 hK1
  apply wp_region_lit
  refine sa _ rfl hk rfl rfl rfl fun a hk => ?_
  refine sa _ rfl hk rfl rfl rfl fun a hk => ?_
  show wpList _ _ _ [] _ _
  refine wpList_nil ?_
  refine hK1 _ _ ?_
  apply wp_seq_k; intro K2 hK2
  apply wp_seq_k; intro K3 hK3
  apply wp_region_lit
  refine sm _ rfl hk rfl rfl rfl fun a hk => ?_
  refine sle rfl hk rfl rfl rfl un26 fun a hk => ?_
  refine sv (.bool (decide ((l0.length : Int) > 4096))) hk rfl rfl rfl fun a hk => ?_
  show wpList _ _ _ [] _ _
  refine wpList_nil ?_
  refine hK3 _ _ ?_
  rcases cond_some H with ⟨c4, H⟩ | ⟨c4, H⟩
  · have hk := hk.lit 6 c4 rfl
    refine cnd_true hk rfl rfl ?_
    apply wp_seq_k; intro K5 hK5
    apply wp_region_lit
    refine sa _ rfl hk rfl rfl rfl fun a hk => ?_
    refine sa _ rfl hk rfl rfl rfl fun a hk => ?_
    show wpList _ _ _ [] _ _
    refine wpList_nil ?_
    refine hK5 _ _ ?_
    refine wp_ret ?_
    obtain rfl := Option.some.inj H
    exact fin hk _ [(.string (⟨#[]⟩ : ByteArray)), (.int .i64 2)] rfl ⟨rfl, ⟨rfl, trivial⟩⟩ ⟨rfl, (hs.pick [] rfl).dnil⟩
  · have hk := hk.lit 6 c4 rfl
    refine cnd_false hk rfl rfl ?_
    refine wp_skip ?_
    refine hK2 _ _ ?_
    apply wp_seq_k; intro K6 hK6
    apply wp_seq_k; intro K7 hK7
    apply wp_region_lit
    refine sm _ rfl hk rfl rfl rfl fun a hk => ?_
    obtain ⟨y8, h9, H⟩ := bind_some H
    refine sc rfl en53 hk rfl rfl rfl (spec_l12Blocks_t _ A0_ p0_ l0 _ v0_ (hs.hasD (k := 1) rfl) _ h9) ?_
    rintro _ w ⟨rfl, hG⟩ a hk
    have hs := hs.call0 hG
    refine sv (.bool (!y8)) hk rfl rfl rfl fun a hk => ?_
    show wpList _ _ _ [] _ _
    refine wpList_nil ?_
    refine hK7 _ _ ?_
    rcases cond_some H with ⟨c10, H⟩ | ⟨c10, H⟩
    · have hk := hk.lit 9 c10 rfl
      refine cnd_true hk rfl rfl ?_
      apply wp_seq_k; intro K11 hK11
      apply wp_region_lit
      refine sa _ rfl hk rfl rfl rfl fun a hk => ?_
      refine sa _ rfl hk rfl rfl rfl fun a hk => ?_
      show wpList _ _ _ [] _ _
      refine wpList_nil ?_
      refine hK11 _ _ ?_
      refine wp_ret ?_
      obtain rfl := Option.some.inj H
      exact fin hk _ [(.string (⟨#[]⟩ : ByteArray)), (.int .i64 1)] rfl ⟨rfl, ⟨rfl, trivial⟩⟩ ⟨rfl, (hs.pick [] rfl).dnil⟩
    · have hk := hk.lit 9 c10 rfl
      refine cnd_false hk rfl rfl ?_
      refine wp_skip ?_
      refine hK6 _ _ ?_
      apply wp_seq_k; intro K12 hK12
      apply wp_region_lit
      refine sm _ rfl hk rfl rfl rfl fun a hk => ?_
      obtain ⟨y13, h14, H⟩ := bind_some H
      refine sc rfl en54 hk rfl rfl rfl (spec_l12Bucket_t _ A0_ p0_ l0 _ v0_ (hs.hasD (k := 1) rfl) _ h14) ?_
      rintro _ w ⟨rfl, hG⟩ a hk
      have hs := hs.call0 hG
      refine sa _ rfl hk rfl rfl rfl fun a hk => ?_
      refine sa _ rfl hk rfl rfl rfl fun a hk => ?_
      show wpList _ _ _ [] _ _
      refine wpList_nil ?_
      refine hK12 _ _ ?_
      refine wp_ret ?_
      obtain rfl := Option.some.inj H
      exact fin hk _ [(.string y13), (.int .i64 0)] rfl ⟨rfl, ⟨rfl, trivial⟩⟩ ⟨rfl, (hs.pick [] rfl).dnil⟩

noncomputable def laws_toBlock.f (x0 : S_Block) : Option (S_Block) :=
  (some (⟨x0.Id, x0.Leaf, x0.Value⟩ : S_Block))
set_option maxRecDepth 100000 in
set_option maxHeartbeats 0 in
theorem laws_toBlock_t (w0 : World) (x0 : S_Block) (r : S_Block) (H : laws_toBlock.f x0 = some r) :
    Calls Try.prog 55 #[.agg #[.int .i64 x0.Id, .int .i64 x0.Leaf, .int .i64 x0.Value]] w0 (Ret (fun v w => v = .agg #[.int .i64 r.Id, .int .i64 r.Leaf, .int .i64 r.Value] ∧ Sat [] w0 w [] [])) := by
  have hs : Sat [] w0 w0 [] [] := Sat.init w0 [] [] (by simp) (by simp) List.nodup_nil (by simp [blks])
  unfold laws_toBlock.f at H
  refine enter Try.func55 rfl Try.ntmps55 rfl fun a hk => ?_
  apply wp_seq_k; intro K1 hK1
  apply wp_region_lit
  refine sbx 1 hs rfl hk rfl rfl rfl rfl fun b2 w a hk hs => ?_
  refine salx 2 hs rfl hk rfl rfl ze81 rfl fun b3 w a hk hs => ?_
  show wpList _ _ _ [] _ _
  refine wpList_nil ?_
  refine hK1 _ _ ?_
  apply wp_seq_k; intro K4 hK4
  apply wp_region_lit
  refine salx 3 hs rfl hk rfl rfl ze81 rfl fun b5 w a hk hs => ?_
  show wpList _ _ _ [] _ _
  refine wpList_nil ?_
  refine hK4 _ _ ?_
  apply wp_seq_k; intro K6 hK6
  apply wp_region_lit
  refine sf ⟨b2, 0, none⟩ rfl hk rfl rfl rfl fd83_0 rfl fun a hk => ?_
  refine sl rfl hk rfl rfl rfl ag3 (box_cell hs (k := 1) rfl rfl) fun a hk => ?_
  refine sf ⟨b5, 0, none⟩ rfl hk rfl rfl rfl fd81_0 rfl fun a hk => ?_
  refine ssx (cs' := #[.int .i64 x0.Id, .int .i64 0, .int .i64 0]) 3 hs rfl rfl hk rfl rfl rfl rfl sz3 rfl rfl rfl rfl fun w a hk hs => ?_
  show wpList _ _ _ [] _ _
  refine wpList_nil ?_
  refine hK6 _ _ ?_
  apply wp_seq_k; intro K7 hK7
  apply wp_region_lit
  refine sf ⟨b2, 1, none⟩ rfl hk rfl rfl rfl fd83_1 rfl fun a hk => ?_
  refine sl rfl hk rfl rfl rfl ag3 (box_cell hs (k := 1) rfl rfl) fun a hk => ?_
  refine sf ⟨b5, 1, none⟩ rfl hk rfl rfl rfl fd81_1 rfl fun a hk => ?_
  refine ssx (cs' := #[.int .i64 x0.Id, .int .i64 x0.Leaf, .int .i64 0]) 3 hs rfl rfl hk rfl rfl rfl rfl sz3 rfl rfl rfl rfl fun w a hk hs => ?_
  show wpList _ _ _ [] _ _
  refine wpList_nil ?_
  refine hK7 _ _ ?_
  apply wp_seq_k; intro K8 hK8
  apply wp_region_lit
  refine sf ⟨b2, 2, none⟩ rfl hk rfl rfl rfl fd83_2 rfl fun a hk => ?_
  refine sl rfl hk rfl rfl rfl ag3 (box_cell hs (k := 1) rfl rfl) fun a hk => ?_
  refine sf ⟨b5, 2, none⟩ rfl hk rfl rfl rfl fd81_2 rfl fun a hk => ?_
  refine ssx (cs' := #[.int .i64 x0.Id, .int .i64 x0.Leaf, .int .i64 x0.Value]) 3 hs rfl rfl hk rfl rfl rfl rfl sz3 rfl rfl rfl rfl fun w a hk hs => ?_
  show wpList _ _ _ [] _ _
  refine wpList_nil ?_
  refine hK8 _ _ ?_
  apply wp_seq_k; intro K9 hK9
  apply wp_region_lit
  refine sln [.int .i64 x0.Id, .int .i64 x0.Leaf, .int .i64 x0.Value] rfl hk rfl rfl rfl ag81 sz81 (box_cells hs (k := 3) rfl) fun a hk => ?_
  refine ssw 2 hs rfl rfl hk rfl rfl rfl rfl sz81 (by simp [Value.oneCell']) rfl fun w a hk hs => ?_
  show wpList _ _ _ [] _ _
  refine wpList_nil ?_
  refine hK9 _ _ ?_
  refine wp_ret ?_
  obtain rfl := Option.some.inj H
  exact fin hk _ [(.agg #[.int .i64 x0.Id, .int .i64 x0.Leaf, .int .i64 x0.Value])] rfl ⟨⟨_, rfl, run_loadN ag81 sz81 (box_cells hs (k := 2) rfl)⟩, trivial⟩ ⟨rfl, (hs.pick [] rfl).dnil⟩

noncomputable def laws_toBlockS.s0 (l0 : List S_Block) (u12 : List S_Block) (u16 : Int) : Option (((List S_Block) × Int) ⊕ Ex ((List S_Block)) ((List S_Block))) :=
  (bif (decide (u16 < (l0.length : Int))) then (if 0 ≤ u16 ∧ u16 < (l0.length : Int) then ((laws_toBlock.f (l0.getD u16.toNat z_Block)).bind fun y37 => (if 0 ≤ u16 ∧ u16 < ((((l0.length : Int)).toNat) : Int) then (some (.inl ((u12.set u16.toNat y37), (w64 (u16 + 1))))) else none)) else none) else (some (.inr (.out u12))))
noncomputable def laws_toBlockS.f (l0 : List S_Block) : Option ((List S_Block)) :=
  (if 0 ≤ (l0.length : Int) ∧ (l0.length : Int) ≤ 1073741824 then ((loopO (fun s => laws_toBlockS.s0 l0 s.1 s.2) ((List.replicate ((l0.length : Int)).toNat z_Block), 0)).bind fun o => match o with | .out u17 => (some u17) | .ret r => (some r)) else none)
set_option maxRecDepth 100000 in
set_option maxHeartbeats 0 in
theorem laws_toBlockS_t (w0 : World) (A0_ : Option Addr) (p0_ : Nat) (l0 : List S_Block) (k0_ : Chunk) (v0_ : View L_Block A0_ p0_ l0 k0_) (w0_ : Has w0 k0_) (r : (List S_Block)) (H : laws_toBlockS.f l0 = some r) :
    Calls Try.prog 13 #[.slice A0_ l0.length p0_] w0 (Ret (fun v w => ∃ (A0 : Option Addr) (p0 : Nat) (k0 : Chunk), v = .slice A0 r.length p0 ∧ Own L_Block 81 A0 p0 r k0 ∧ Sat [] w0 w [] [(0, k0)])) := by
  have hs : Sat [] w0 w0 [(1, k0_)] [] := Sat.init w0 [(1, k0_)] [] (by simp only [List.mem_cons, List.not_mem_nil, or_false]; rintro x (rfl) <;> assumption) (by simp) List.nodup_nil (by simp [blks])
  unfold laws_toBlockS.f at H
  refine enter Try.func13 rfl Try.ntmps13 rfl fun a hk => ?_
  apply wp_seq_k; intro K1 hK1
  apply wp_region_lit
  refine sa _ rfl hk rfl rfl rfl fun a hk => ?_
  show wpList _ _ _ [] _ _
  refine wpList_nil ?_
  refine hK1 _ _ ?_
  apply wp_seq_k; intro K2 hK2
  apply wp_region_lit
  refine sm _ rfl hk rfl rfl rfl fun a hk => ?_
  refine sle rfl hk rfl rfl rfl un22 fun a hk => ?_
  rcases ite_some H with ⟨c3, H⟩ | ⟨_, H⟩
  rotate_left
  · cases H
  refine smk 2 L_Block hs rfl hk rfl rfl rfl rfl un26 mk81 lz81 rfl rfl c3.1 c3.2 fun b4 k5 w a hk o6 hs => ?_
  have lh7 : (List.replicate ((l0.length : Int)).toNat z_Block).length = ((l0.length : Int)).toNat := List.length_replicate
  refine sa _ rfl hk rfl rfl rfl fun a hk => ?_
  show wpList _ _ _ [] _ _
  refine wpList_nil ?_
  refine hK2 _ _ ?_
  apply wp_seq_k; intro K8 hK8
  apply wp_seq_k; intro K9 hK9
  apply wp_region_lit
  refine sa _ rfl hk rfl rfl rfl fun a hk => ?_
  show wpList _ _ _ [] _ _
  refine wpList_nil ?_
  refine hK9 _ _ ?_
  obtain ⟨o21, h22, HL23⟩ := bind_some H
  clear H
  obtain ⟨R24, hR24⟩ : ∃ R : Act → World → Prop, R = fun a w => ∃ (u17 : List S_Block) (k18 : Chunk), o21 = .out u17 ∧ Kn [(3, (.slice (some ⟨b4, 0, none⟩) (((l0.length : Int)).toNat) (((l0.length : Int)).toNat)))] 23 a ∧ Sat [] w0 w [(1, k0_)] [(2, k18)] ∧ Own L_Block 81 (some ⟨b4, 0, none⟩) (((l0.length : Int)).toNat) u17 k18 ∧ u17.length = (((l0.length : Int)).toNat) := ⟨_, rfl⟩
  refine wp_cutq R24 ?_ ?_
  · refine wp_block ?_
    obtain ⟨fu26, h22⟩ := loopO_some h22
    obtain ⟨I25, hI25⟩ : ∃ I : Nat → Act → World → Prop, I = fun fu a w => ∃ (u12 : List S_Block) (u16 : Int) (k13 : Chunk), loopN (fun s => laws_toBlockS.s0 l0 s.1 s.2) fu (u12, u16) = some o21 ∧ Kn [(0, (.slice A0_ l0.length p0_)), (3, (.slice (some ⟨b4, 0, none⟩) (((l0.length : Int)).toNat) (((l0.length : Int)).toNat))), (4, (.int .i64 u16))] 23 a ∧ Sat [] w0 w [(1, k0_)] [(2, k13)] ∧ Own L_Block 81 (some ⟨b4, 0, none⟩) (((l0.length : Int)).toNat) u12 k13 ∧ u12.length = (((l0.length : Int)).toNat) := ⟨_, rfl⟩
    refine wp_loop_ghost I25 fu26 ?_ ?_
    · rw [hI25]
      exact ⟨(List.replicate ((l0.length : Int)).toNat z_Block), 0, _, h22, (hk.c 0 rfl (hk.c 3 rfl (hk.c 4 rfl hk.k))), (hs.pick [(2, 2)] rfl), o6, lh7⟩
    · clear h22 hk hs
      intro fu26 a w hI0
      rw [hI25] at hI0
      obtain ⟨u12, u16, k13, hi, hk, hs, o14, lh15⟩ := hI0
      obtain ⟨x27, H, h28⟩ := loop_round hi
      try dsimp only at H
      unfold laws_toBlockS.s0 at H
      apply wp_seq_k; intro K29 hK29
      apply wp_seq_k; intro K30 hK30
      apply wp_region_lit
      refine sm _ rfl hk rfl rfl rfl fun a hk => ?_
      refine sm _ rfl hk rfl rfl rfl fun a hk => ?_
      refine sle rfl hk rfl rfl rfl un22 fun a hk => ?_
      refine sv (.bool (decide (u16 < (l0.length : Int)))) hk rfl rfl rfl fun a hk => ?_
      show wpList _ _ _ [] _ _
      refine wpList_nil ?_
      refine hK30 _ _ ?_
      rcases cond_some H with ⟨c31, H⟩ | ⟨c31, H⟩
      · have hk := hk.lit 11 c31 rfl
        refine cnd_true hk rfl rfl ?_
        refine wp_skip ?_
        refine hK29 _ _ ?_
        apply wp_seq_k; intro K32 hK32
        refine wp_block ?_
        apply wp_region_lit
        refine sm _ rfl hk rfl rfl rfl fun a hk => ?_
        refine sm _ rfl hk rfl rfl rfl fun a hk => ?_
        refine sm _ rfl hk rfl rfl rfl fun a hk => ?_
        refine sm _ rfl hk rfl rfl rfl fun a hk => ?_
        rcases ite_some H with ⟨c33, H⟩ | ⟨_, H⟩
        rotate_left
        · cases H
        obtain ⟨b34, q35, hAc33⟩ := (v0_).some_ u16 c33.1 c33.2
        refine si rfl hk rfl rfl rfl rfl un22 sz83 c33.1 c33.2 hAc33 fun a hk => ?_
        obtain ⟨_, rfl, e36⟩ := (v0_).at_ z_Block u16 c33.1 c33.2
        refine sln [.int .i64 ((l0.getD u16.toNat z_Block).Id), .int .i64 ((l0.getD u16.toNat z_Block).Leaf), .int .i64 ((l0.getD u16.toNat z_Block).Value)] rfl hk rfl rfl rfl ag83 sz83 (cells_at e36 (hs.hasD (k := 1) rfl)) fun a hk => ?_
        obtain ⟨y37, h38, H⟩ := bind_some H
        refine sc rfl en55 hk rfl rfl rfl (laws_toBlock_t _ (l0.getD u16.toNat z_Block) _ h38) ?_
        rintro _ w ⟨rfl, hG⟩ a hk
        have hs := hs.call0 hG
        rcases ite_some H with ⟨c39, H⟩ | ⟨_, H⟩
        rotate_left
        · cases H
        obtain ⟨b40, q41, hAc39⟩ := (o14.view).some_ u16 c39.1 (by rw [lh15]; exact c39.2)
        refine si rfl hk rfl rfl rfl rfl un26 sz81 c39.1 c39.2 hAc39 fun a hk => ?_
        refine so (j := 0) 2 z_Block y37 hs rfl o14 c39.1 (by rw [lh15]; exact c39.2) rfl hk rfl rfl rfl rfl rfl sz81 (by simp [Value.cells, Value.oneCell']) (Nat.le_of_ble_eq_true rfl) (fun _ _ h => ⟨by rw [h.1]; rfl, h.2⟩) fun k42 w a hk o43 hs => ?_
        have lh44 : (u12.set u16.toNat y37).length = (((l0.length : Int)).toNat) := by rw [List.length_set]; exact lh15
        show wpList _ _ _ [] _ _
        refine wpList_nil ?_
        refine hK32 _ _ ?_
        apply wp_region_lit
        refine sm _ rfl hk rfl rfl rfl fun a hk => ?_
        refine sv (.int .i64 (w64 (u16 + 1))) hk rfl rfl rfl fun a hk => ?_
        refine sa _ rfl hk rfl rfl rfl fun a hk => ?_
        show wpList _ _ _ [] _ _
        refine wpList_nil ?_
        obtain rfl := Option.some.inj H
        obtain ⟨m45, hmm45, h28⟩ := h28
        show ∃ n', n' < _ ∧ I25 n' _ _
        refine ⟨m45, hmm45, ?_⟩
        rw [hI25]
        exact ⟨(u12.set u16.toNat y37), (w64 (u16 + 1)), _, h28, (hk.c 0 rfl (hk.c 3 rfl (hk.c 4 rfl hk.k))), (hs.pick [(2, 2)] rfl), o43, lh44⟩
      · have hk := hk.lit 11 c31 rfl
        refine cnd_false hk rfl rfl ?_
        refine wp_exit ?_
        obtain rfl := Option.some.inj H
        show R24 _ _
        rw [hR24]
        exact ⟨u12, _, h28.symm, (hk.c 3 rfl hk.k), (hs.pick [(2, 2)] rfl), o14, lh15⟩
  · intro a w hR0
    rw [hR24] at hR0
    obtain ⟨u17, k18, rfl, hk, hs, o19, lh20⟩ := hR0
    have H := HL23
    try dsimp only at H
    refine hK8 _ _ ?_
    apply wp_seq_k; intro K46 hK46
    apply wp_region_lit
    refine sm _ rfl hk rfl rfl rfl fun a hk => ?_
    refine sa _ rfl hk rfl rfl rfl fun a hk => ?_
    show wpList _ _ _ [] _ _
    refine wpList_nil ?_
    refine hK46 _ _ ?_
    refine wp_ret ?_
    obtain rfl := Option.some.inj H
    exact fin hk _ [(.slice (some ⟨b4, 0, none⟩) (((l0.length : Int)).toNat) (((l0.length : Int)).toNat))] rfl ⟨rfl, trivial⟩ ⟨(some ⟨b4, 0, none⟩), (((l0.length : Int)).toNat), _, (by first | (rw [lh20]; done) | (rw [lh20]; rfl)), o19, (hs.pick [(0, 2)] rfl).dnil⟩

noncomputable def slices_IndexFunc_impl_Block_impl_Block.s0 (l0 : List S_Block) (q1 : S_Block → Option (Bool)) (u6 : Int) : Option ((Int) ⊕ Ex (Unit) (Int)) :=
  (bif (decide (u6 < (l0.length : Int))) then (if 0 ≤ u6 ∧ u6 < (l0.length : Int) then ((q1 (l0.getD u6.toNat z_Block)).bind fun y25 => (bif y25 then (some (.inr (.ret u6))) else (some (.inl (w64 (u6 + 1)))))) else none) else (some (.inr (.out ()))))
noncomputable def slices_IndexFunc_impl_Block_impl_Block.f (l0 : List S_Block) (q1 : S_Block → Option (Bool)) : Option (Int) :=
  ((loopO (fun s => slices_IndexFunc_impl_Block_impl_Block.s0 l0 q1 s) 0).bind fun o => match o with | .out _ => (some (-1)) | .ret r => (some r))
set_option maxRecDepth 100000 in
set_option maxHeartbeats 0 in
theorem slices_IndexFunc_impl_Block_impl_Block_t (w0 : World) (A0_ : Option Addr) (p0_ : Nat) (l0 : List S_Block) (k0_ : Chunk) (v0_ : View L_Block A0_ p0_ l0 k0_) (w0_ : Has w0 k0_) (f1_ : FuncId) (c1_ : List Value) (e1_ : Enters Try.prog f1_) (q1 : S_Block → Option (Bool)) (k1_ : Chunk) (t1_ : ∀ w, Has w k1_ → ∀ (z0 : S_Block) (r : Bool), q1 z0 = some r → Calls Try.prog f1_ (([.agg #[.int .i64 z0.Id, .int .i64 z0.Leaf, .int .i64 z0.Value]] : List Value) ++ c1_).toArray w (Ret (fun v w2 => v = .bool r ∧ Sat [] w w2 [] []))) (w1_ : Has w0 k1_) (r : Int) (H : slices_IndexFunc_impl_Block_impl_Block.f l0 q1 = some r) :
    Calls Try.prog 150 #[.slice A0_ l0.length p0_, .func (.func f1_) #[] c1_.toArray] w0 (Ret (fun v w => v = .int .i64 r ∧ Sat [] w0 w [] [])) := by
  have hs : Sat [] w0 w0 [(1, k0_), (2, k1_)] [] := Sat.init w0 [(1, k0_), (2, k1_)] [] (by simp only [List.mem_cons, List.not_mem_nil, or_false]; rintro x (rfl | rfl) <;> assumption) (by simp) List.nodup_nil (by simp [blks])
  unfold slices_IndexFunc_impl_Block_impl_Block.f at H
  refine enter Try.func150 rfl Try.ntmps150 rfl fun a hk => ?_
  apply wp_seq_k; intro K1 hK1
  apply wp_region_lit
  refine sa _ rfl hk rfl rfl rfl fun a hk => ?_
  show wpList _ _ _ [] _ _
  refine wpList_nil ?_
  refine hK1 _ _ ?_
  apply wp_seq_k; intro K2 hK2
  apply wp_seq_k; intro K3 hK3
  apply wp_region_lit
  refine sm _ rfl hk rfl rfl rfl fun a hk => ?_
  refine sle rfl hk rfl rfl rfl un26 fun a hk => ?_
  refine sm _ rfl hk rfl rfl rfl fun a hk => ?_
  show wpList _ _ _ [] _ _
  refine wpList_nil ?_
  refine hK3 _ _ ?_
  obtain ⟨o7, h8, HL9⟩ := bind_some H
  clear H
  obtain ⟨R10, hR10⟩ : ∃ R : Act → World → Prop, R = fun a w => o7 = .out () ∧ Kn [] 19 a ∧ Sat [] w0 w [(1, k0_), (2, k1_)] [] := ⟨_, rfl⟩
  refine wp_cutq R10 ?_ ?_
  · refine wp_block ?_
    obtain ⟨fu12, h8⟩ := loopO_some h8
    obtain ⟨I11, hI11⟩ : ∃ I : Nat → Act → World → Prop, I = fun fu a w => ∃ (u6 : Int), loopN (fun s => slices_IndexFunc_impl_Block_impl_Block.s0 l0 q1 s) fu u6 = some o7 ∧ Kn [(0, (.slice A0_ l0.length p0_)), (1, (.func (.func f1_) #[] c1_.toArray)), (7, (.int .i64 (l0.length : Int))), (8, (.int .i64 u6))] 19 a ∧ Sat [] w0 w [(1, k0_), (2, k1_)] [] := ⟨_, rfl⟩
    refine wp_loop_ghost I11 fu12 ?_ ?_
    · rw [hI11]
      exact ⟨0, h8, (hk.c 0 rfl (hk.c 1 rfl (hk.c 7 rfl (hk.c 8 rfl hk.k)))), (hs.pick [] rfl)⟩
    · clear h8 hk hs
      intro fu12 a w hI0
      rw [hI11] at hI0
      obtain ⟨u6, hi, hk, hs⟩ := hI0
      obtain ⟨x13, H, h14⟩ := loop_round hi
      try dsimp only at H
      unfold slices_IndexFunc_impl_Block_impl_Block.s0 at H
      apply wp_seq_k; intro K15 hK15
      apply wp_region_lit
      refine sv (.bool (decide (u6 < (l0.length : Int)))) hk rfl rfl rfl fun a hk => ?_
      show wpList _ _ _ [] _ _
      refine wpList_nil ?_
      refine hK15 _ _ ?_
      apply wp_seq_k; intro K16 hK16
      rcases cond_some H with ⟨c17, H⟩ | ⟨c17, H⟩
      · have hk := hk.lit 9 c17 rfl
        refine cnd_true hk rfl rfl ?_
        refine wp_skip ?_
        refine hK16 _ _ ?_
        apply wp_seq_k; intro K18 hK18
        refine wp_block ?_
        apply wp_seq_k; intro K19 hK19
        apply wp_region_lit
        refine sm _ rfl hk rfl rfl rfl fun a hk => ?_
        refine sa _ rfl hk rfl rfl rfl fun a hk => ?_
        show wpList _ _ _ [] _ _
        refine wpList_nil ?_
        refine hK19 _ _ ?_
        apply wp_seq_k; intro K20 hK20
        apply wp_region_lit
        refine sm _ rfl hk rfl rfl rfl fun a hk => ?_
        refine sm _ rfl hk rfl rfl rfl fun a hk => ?_
        refine sm _ rfl hk rfl rfl rfl fun a hk => ?_
        rcases ite_some H with ⟨c21, H⟩ | ⟨_, H⟩
        rotate_left
        · cases H
        obtain ⟨b22, q23, hAc21⟩ := (v0_).some_ u6 c21.1 c21.2
        refine si rfl hk rfl rfl rfl rfl un26 sz81 c21.1 c21.2 hAc21 fun a hk => ?_
        obtain ⟨_, rfl, e24⟩ := (v0_).at_ z_Block u6 c21.1 c21.2
        refine sln [.int .i64 ((l0.getD u6.toNat z_Block).Id), .int .i64 ((l0.getD u6.toNat z_Block).Leaf), .int .i64 ((l0.getD u6.toNat z_Block).Value)] rfl hk rfl rfl rfl ag81 sz81 (cells_at e24 (hs.hasD (k := 1) rfl)) fun a hk => ?_
        obtain ⟨y25, h26, H⟩ := bind_some H
        refine scv (vs := ([(.agg #[.int .i64 ((l0.getD u6.toNat z_Block).Id), .int .i64 ((l0.getD u6.toNat z_Block).Leaf), .int .i64 ((l0.getD u6.toNat z_Block).Value)])] : List Value) ++ c1_) rfl rfl e1_ hk rfl rfl rfl (t1_ _ (hs.hasD (k := 2) rfl) (l0.getD u6.toNat z_Block) _ h26) ?_
        rintro _ w ⟨rfl, hG⟩ a hk
        have hs := hs.call0 hG
        show wpList _ _ _ [] _ _
        refine wpList_nil ?_
        refine hK20 _ _ ?_
        rcases cond_some H with ⟨c27, H⟩ | ⟨c27, H⟩
        · have hk := hk.lit 16 c27 rfl
          refine cnd_true hk rfl rfl ?_
          apply wp_seq_k; intro K28 hK28
          apply wp_region_lit
          refine sm _ rfl hk rfl rfl rfl fun a hk => ?_
          refine sa _ rfl hk rfl rfl rfl fun a hk => ?_
          show wpList _ _ _ [] _ _
          refine wpList_nil ?_
          refine hK28 _ _ ?_
          refine wp_ret ?_
          obtain rfl := Option.some.inj H
          have ho7 := h14
          try dsimp only at ho7
          subst ho7
          have H := HL9
          try dsimp only at H
          obtain rfl := Option.some.inj H
          exact fin hk _ [(.int .i64 u6)] rfl ⟨rfl, trivial⟩ ⟨rfl, (hs.pick [] rfl).dnil⟩
        · have hk := hk.lit 16 c27 rfl
          refine cnd_false hk rfl rfl ?_
          refine wp_skip ?_
          refine hK18 _ _ ?_
          apply wp_region_lit
          refine sv (.int .i64 (w64 (u6 + 1))) hk rfl rfl rfl fun a hk => ?_
          refine sm _ rfl hk rfl rfl rfl fun a hk => ?_
          show wpList _ _ _ [] _ _
          refine wpList_nil ?_
          obtain rfl := Option.some.inj H
          obtain ⟨m29, hmm29, h14⟩ := h14
          show ∃ n', n' < _ ∧ I11 n' _ _
          refine ⟨m29, hmm29, ?_⟩
          rw [hI11]
          exact ⟨(w64 (u6 + 1)), h14, (hk.c 0 rfl (hk.c 1 rfl (hk.c 7 rfl (hk.c 8 rfl hk.k)))), (hs.pick [] rfl)⟩
      · have hk := hk.lit 9 c17 rfl
        refine cnd_false hk rfl rfl ?_
        refine wp_exit ?_
        obtain rfl := Option.some.inj H
        show R10 _ _
        rw [hR10]
        exact ⟨h14.symm, hk.k, (hs.pick [] rfl)⟩
  · intro a w hR0
    rw [hR10] at hR0
    obtain ⟨rfl, hk, hs⟩ := hR0
    have H := HL9
    try dsimp only at H
    refine hK2 _ _ ?_
    apply wp_seq_k; intro K30 hK30
    apply wp_region_lit
    refine sa _ rfl hk rfl rfl rfl fun a hk => ?_
    show wpList _ _ _ [] _ _
    refine wpList_nil ?_
    refine hK30 _ _ ?_
    refine wp_ret ?_
    obtain rfl := Option.some.inj H
    exact fin hk _ [(.int .i64 (-1))] rfl ⟨rfl, trivial⟩ ⟨rfl, (hs.pick [] rfl).dnil⟩

noncomputable def slices_ContainsFunc_impl_Block_impl_Block.f (l0 : List S_Block) (q1 : S_Block → Option (Bool)) : Option (Bool) :=
  ((slices_IndexFunc_impl_Block_impl_Block.f l0 q1).bind fun y3 => (some (decide (y3 ≥ 0))))
set_option maxRecDepth 100000 in
set_option maxHeartbeats 0 in
theorem slices_ContainsFunc_impl_Block_impl_Block_t (w0 : World) (A0_ : Option Addr) (p0_ : Nat) (l0 : List S_Block) (k0_ : Chunk) (v0_ : View L_Block A0_ p0_ l0 k0_) (w0_ : Has w0 k0_) (f1_ : FuncId) (c1_ : List Value) (e1_ : Enters Try.prog f1_) (q1 : S_Block → Option (Bool)) (k1_ : Chunk) (t1_ : ∀ w, Has w k1_ → ∀ (z0 : S_Block) (r : Bool), q1 z0 = some r → Calls Try.prog f1_ (([.agg #[.int .i64 z0.Id, .int .i64 z0.Leaf, .int .i64 z0.Value]] : List Value) ++ c1_).toArray w (Ret (fun v w2 => v = .bool r ∧ Sat [] w w2 [] []))) (w1_ : Has w0 k1_) (r : Bool) (H : slices_ContainsFunc_impl_Block_impl_Block.f l0 q1 = some r) :
    Calls Try.prog 103 #[.slice A0_ l0.length p0_, .func (.func f1_) #[] c1_.toArray] w0 (Ret (fun v w => v = .bool r ∧ Sat [] w0 w [] [])) := by
  have hs : Sat [] w0 w0 [(1, k0_), (2, k1_)] [] := Sat.init w0 [(1, k0_), (2, k1_)] [] (by simp only [List.mem_cons, List.not_mem_nil, or_false]; rintro x (rfl | rfl) <;> assumption) (by simp) List.nodup_nil (by simp [blks])
  unfold slices_ContainsFunc_impl_Block_impl_Block.f at H
  refine enter Try.func103 rfl Try.ntmps103 rfl fun a hk => ?_
  apply wp_seq_k; intro K1 hK1
  apply wp_region_lit
  refine sa _ rfl hk rfl rfl rfl fun a hk => ?_
  show wpList _ _ _ [] _ _
  refine wpList_nil ?_
  refine hK1 _ _ ?_
  apply wp_seq_k; intro K2 hK2
  apply wp_region_lit
  refine sm _ rfl hk rfl rfl rfl fun a hk => ?_
  refine sm _ rfl hk rfl rfl rfl fun a hk => ?_
  obtain ⟨y3, h4, H⟩ := bind_some H
  refine sc rfl en150 hk rfl rfl rfl (slices_IndexFunc_impl_Block_impl_Block_t _ A0_ p0_ l0 _ v0_ (hs.hasD (k := 1) rfl) f1_ c1_ e1_ q1 k1_ t1_ (hs.hasD (k := 2) rfl) _ h4) ?_
  rintro _ w ⟨rfl, hG⟩ a hk
  have hs := hs.call0 hG
  refine sv (.bool (decide (y3 ≥ 0))) hk rfl rfl rfl fun a hk => ?_
  refine sa _ rfl hk rfl rfl rfl fun a hk => ?_
  show wpList _ _ _ [] _ _
  refine wpList_nil ?_
  refine hK2 _ _ ?_
  refine wp_ret ?_
  obtain rfl := Option.some.inj H
  exact fin hk _ [(.bool (decide (y3 ≥ 0)))] rfl ⟨rfl, trivial⟩ ⟨rfl, (hs.pick [] rfl).dnil⟩

noncomputable def impl_areAll_impl_Block__c1.f (x0 : S_Block) (q1 : S_Block → Option (Bool)) : Option (Bool) :=
  ((q1 x0).bind fun y4 => (some (!y4)))
set_option maxRecDepth 100000 in
set_option maxHeartbeats 0 in
theorem impl_areAll_impl_Block__c1_t (w0 : World) (x0 : S_Block) (b1_ : Nat) (f1_ : FuncId) (c1_ : List Value) (e1_ : Enters Try.prog f1_) (q1 : S_Block → Option (Bool)) (k1_ : Chunk) (t1_ : ∀ w, Has w k1_ → ∀ (z0 : S_Block) (r : Bool), q1 z0 = some r → Calls Try.prog f1_ (([.agg #[.int .i64 z0.Id, .int .i64 z0.Leaf, .int .i64 z0.Value]] : List Value) ++ c1_).toArray w (Ret (fun v w2 => v = .bool r ∧ Sat [] w w2 [] []))) (w1_ : Has w0 k1_) (h1_ : Has w0 [(b1_, .cells #[.func (.func f1_) #[] c1_.toArray] 85 (0, 0))]) (r : Bool) (H : impl_areAll_impl_Block__c1.f x0 q1 = some r) :
    Calls Try.prog 104 #[.agg #[.int .i64 x0.Id, .int .i64 x0.Leaf, .int .i64 x0.Value], .pointer (some ⟨b1_, 0, none⟩)] w0 (Ret (fun v w => v = .bool r ∧ Sat [] w0 w [] [])) := by
  have hs : Sat [] w0 w0 [(2, k1_), (1, [(b1_, .cells #[.func (.func f1_) #[] c1_.toArray] 85 (0, 0))])] [] := Sat.init w0 [(2, k1_), (1, [(b1_, .cells #[.func (.func f1_) #[] c1_.toArray] 85 (0, 0))])] [] (by simp only [List.mem_cons, List.not_mem_nil, or_false]; rintro x (rfl | rfl) <;> assumption) (by simp) List.nodup_nil (by simp [blks])
  unfold impl_areAll_impl_Block__c1.f at H
  refine enter Try.func104 rfl Try.ntmps104 rfl fun a hk => ?_
  apply wp_seq_k; intro K1 hK1
  apply wp_region_lit
  refine sbx 3 hs rfl hk rfl rfl rfl rfl fun b2 w a hk hs => ?_
  refine sa _ rfl hk rfl rfl rfl fun a hk => ?_
  show wpList _ _ _ [] _ _
  refine wpList_nil ?_
  refine hK1 _ _ ?_
  apply wp_seq_k; intro K3 hK3
  apply wp_region_lit
  refine sl rfl hk rfl rfl rfl ag85 (box_cellD hs (k := 1) rfl rfl) fun a hk => ?_
  refine sln [.int .i64 x0.Id, .int .i64 x0.Leaf, .int .i64 x0.Value] rfl hk rfl rfl rfl ag81 sz81 (box_cells hs (k := 3) rfl) fun a hk => ?_
  obtain ⟨y4, h5, H⟩ := bind_some H
  refine scv (vs := ([(.agg #[.int .i64 x0.Id, .int .i64 x0.Leaf, .int .i64 x0.Value])] : List Value) ++ c1_) rfl rfl e1_ hk rfl rfl rfl (t1_ _ (hs.hasD (k := 2) rfl) x0 _ h5) ?_
  rintro _ w ⟨rfl, hG⟩ a hk
  have hs := hs.call0 hG
  refine sv (.bool (!y4)) hk rfl rfl rfl fun a hk => ?_
  refine sa _ rfl hk rfl rfl rfl fun a hk => ?_
  show wpList _ _ _ [] _ _
  refine wpList_nil ?_
  refine hK3 _ _ ?_
  refine wp_ret ?_
  obtain rfl := Option.some.inj H
  exact fin hk _ [(.bool (!y4))] rfl ⟨rfl, trivial⟩ ⟨rfl, (hs.pick [] rfl).dnil⟩

noncomputable def impl_areAll_impl_Block.f (l0 : List S_Block) (q1 : S_Block → Option (Bool)) : Option (Bool) :=
  ((slices_ContainsFunc_impl_Block_impl_Block.f l0 (fun z0 => impl_areAll_impl_Block__c1.f z0 q1)).bind fun y4 => (some (!y4)))
set_option maxRecDepth 100000 in
set_option maxHeartbeats 0 in
theorem impl_areAll_impl_Block_t (w0 : World) (A0_ : Option Addr) (p0_ : Nat) (l0 : List S_Block) (k0_ : Chunk) (v0_ : View L_Block A0_ p0_ l0 k0_) (w0_ : Has w0 k0_) (f1_ : FuncId) (c1_ : List Value) (e1_ : Enters Try.prog f1_) (q1 : S_Block → Option (Bool)) (k1_ : Chunk) (t1_ : ∀ w, Has w k1_ → ∀ (z0 : S_Block) (r : Bool), q1 z0 = some r → Calls Try.prog f1_ (([.agg #[.int .i64 z0.Id, .int .i64 z0.Leaf, .int .i64 z0.Value]] : List Value) ++ c1_).toArray w (Ret (fun v w2 => v = .bool r ∧ Sat [] w w2 [] []))) (w1_ : Has w0 k1_) (r : Bool) (H : impl_areAll_impl_Block.f l0 q1 = some r) :
    Calls Try.prog 56 #[.slice A0_ l0.length p0_, .func (.func f1_) #[] c1_.toArray] w0 (Ret (fun v w => v = .bool r ∧ Sat [] w0 w [] [])) := by
  have hs : Sat [] w0 w0 [(1, k0_), (2, k1_)] [] := Sat.init w0 [(1, k0_), (2, k1_)] [] (by simp only [List.mem_cons, List.not_mem_nil, or_false]; rintro x (rfl | rfl) <;> assumption) (by simp) List.nodup_nil (by simp [blks])
  unfold impl_areAll_impl_Block.f at H
  refine enter Try.func56 rfl Try.ntmps56 rfl fun a hk => ?_
  apply wp_seq_k; intro K1 hK1
  apply wp_region_lit
  refine sbx 3 hs rfl hk rfl rfl rfl rfl fun b2 w a hk hs => ?_
  refine sa _ rfl hk rfl rfl rfl fun a hk => ?_
  show wpList _ _ _ [] _ _
  refine wpList_nil ?_
  refine hK1 _ _ ?_
  apply wp_seq_k; intro K3 hK3
  apply wp_region_lit
  refine sm _ rfl hk rfl rfl rfl fun a hk => ?_
  refine smf (cs := [.pointer (some ⟨b2, 0, none⟩)]) rfl hk rfl rfl rfl fun a hk => ?_
  obtain ⟨y4, h5, H⟩ := bind_some H
  refine sc rfl en103 hk rfl rfl rfl (slices_ContainsFunc_impl_Block_impl_Block_t _ A0_ p0_ l0 _ v0_ (hs.hasD (k := 1) rfl) 104 [.pointer (some ⟨b2, 0, none⟩)] en104 (fun z0 => impl_areAll_impl_Block__c1.f z0 q1) ([(b2, .cells #[.func (.func f1_) #[] c1_.toArray] 85 (0, 0))] ++ k1_) (fun w hz z0 r h => impl_areAll_impl_Block__c1_t w z0 _ f1_ c1_ e1_ q1 k1_ t1_ (Has.right hz) (Has.left hz) r h) (Has.app (hs.hasG (k := 3) rfl) (hs.hasD (k := 2) rfl)) _ h5) ?_
  rintro _ w ⟨rfl, hG⟩ a hk
  have hs := hs.call0 hG
  refine sv (.bool (!y4)) hk rfl rfl rfl fun a hk => ?_
  refine sa _ rfl hk rfl rfl rfl fun a hk => ?_
  show wpList _ _ _ [] _ _
  refine wpList_nil ?_
  refine hK3 _ _ ?_
  refine wp_ret ?_
  obtain rfl := Option.some.inj H
  exact fin hk _ [(.bool (!y4))] rfl ⟨rfl, trivial⟩ ⟨rfl, (hs.pick [] rfl).dnil⟩

noncomputable def impl_within.f (x0 : Int) (x1 : Int) (x2 : Int) : Option (Bool) :=
  (((bif (decide (x1 ≤ x0)) then (some (decide (x0 ≤ x2))) else (some false)) : Option (Bool)).bind fun u4 => (some u4))
set_option maxRecDepth 100000 in
set_option maxHeartbeats 0 in
theorem impl_within_t (w0 : World) (x0 : Int) (x1 : Int) (x2 : Int) (r : Bool) (H : impl_within.f x0 x1 x2 = some r) :
    Calls Try.prog 115 #[.int .i64 x0, .int .i64 x1, .int .i64 x2] w0 (Ret (fun v w => v = .bool r ∧ Sat [] w0 w [] [])) := by
  have hs : Sat [] w0 w0 [] [] := Sat.init w0 [] [] (by simp) (by simp) List.nodup_nil (by simp [blks])
  unfold impl_within.f at H
  refine enter Try.func115 rfl Try.ntmps115 rfl fun a hk => ?_
  apply wp_seq_k; intro K1 hK1
  apply wp_region_lit
  refine sa _ rfl hk rfl rfl rfl fun a hk => ?_
  show wpList _ _ _ [] _ _
  refine wpList_nil ?_
  refine hK1 _ _ ?_
  apply wp_seq_k; intro K2 hK2
  obtain ⟨o5, h6, HL7⟩ := bind_some H
  clear H
  obtain ⟨R8, hR8⟩ : ∃ R : Act → World → Prop, R = fun a w => ∃ (u4 : Bool), u4 = o5 ∧ Kn [(6, (.bool u4))] 15 a ∧ Sat [] w0 w [] [] := ⟨_, rfl⟩
  refine wp_cutq R8 ?_ ?_
  · have H := h6
    apply wp_region_lit
    refine sm _ rfl hk rfl rfl rfl fun a hk => ?_
    refine sm _ rfl hk rfl rfl rfl fun a hk => ?_
    refine sv (.bool (decide (x1 ≤ x0))) hk rfl rfl rfl fun a hk => ?_
    refine sm _ rfl hk rfl rfl rfl fun a hk => ?_
    rcases cond_some H with ⟨c9, H⟩ | ⟨c9, H⟩
    · have hk := hk.lit 10 c9 rfl
      refine sm _ rfl hk rfl rfl rfl fun a hk => ?_
      refine sm _ rfl hk rfl rfl rfl fun a hk => ?_
      refine sv (.bool (decide (x0 ≤ x2))) hk rfl rfl rfl fun a hk => ?_
      refine sv (.bool (decide (x0 ≤ x2))) hk rfl rfl rfl fun a hk => ?_
      refine sa _ rfl hk rfl rfl rfl fun a hk => ?_
      show wpList _ _ _ [] _ _
      refine wpList_nil ?_
      obtain rfl := Option.some.inj H
      show R8 _ _
      rw [hR8]
      exact ⟨(decide (x0 ≤ x2)), rfl, (hk.c 6 rfl hk.k), (hs.pick [] rfl)⟩
    · have hk := hk.lit 10 c9 rfl
      refine sk hk rfl rfl rfl fun a hk => ?_
      refine sk hk rfl rfl rfl fun a hk => ?_
      refine sk hk rfl rfl rfl fun a hk => ?_
      refine sv (.bool false) hk rfl rfl rfl fun a hk => ?_
      refine sa _ rfl hk rfl rfl rfl fun a hk => ?_
      show wpList _ _ _ [] _ _
      refine wpList_nil ?_
      obtain rfl := Option.some.inj H
      show R8 _ _
      rw [hR8]
      exact ⟨false, rfl, (hk.c 6 rfl hk.k), (hs.pick [] rfl)⟩
  · intro a w hR0
    rw [hR8] at hR0
    obtain ⟨u4, rfl, hk, hs⟩ := hR0
    have H := HL7
    try dsimp only at H
    refine hK2 _ _ ?_
    refine wp_ret ?_
    obtain rfl := Option.some.inj H
    exact fin hk _ [(.bool u4)] rfl ⟨rfl, trivial⟩ ⟨rfl, (hs.pick [] rfl).dnil⟩

noncomputable def impl_isId.f (x0 : Int) : Option (Bool) :=
  ((impl_within.f x0 0 11).bind fun y3 => (some y3))
set_option maxRecDepth 100000 in
set_option maxHeartbeats 0 in
theorem impl_isId_t (w0 : World) (x0 : Int) (r : Bool) (H : impl_isId.f x0 = some r) :
    Calls Try.prog 105 #[.int .i64 x0] w0 (Ret (fun v w => v = .bool r ∧ Sat [] w0 w [] [])) := by
  have hs : Sat [] w0 w0 [] [] := Sat.init w0 [] [] (by simp) (by simp) List.nodup_nil (by simp [blks])
  unfold impl_isId.f at H
  refine enter Try.func105 rfl Try.ntmps105 rfl fun a hk => ?_
  apply wp_seq_k; intro K1 hK1
  apply wp_region_lit
  refine sa _ rfl hk rfl rfl rfl fun a hk => ?_
  show wpList _ _ _ [] _ _
  refine wpList_nil ?_
  refine hK1 _ _ ?_
  apply wp_seq_k; intro K2 hK2
  apply wp_region_lit
  refine sm _ rfl hk rfl rfl rfl fun a hk => ?_
  obtain ⟨y3, h4, H⟩ := bind_some H
  refine sc rfl en115 hk rfl rfl rfl (impl_within_t _ x0 0 11 _ h4) ?_
  rintro _ w ⟨rfl, hG⟩ a hk
  have hs := hs.call0 hG
  refine sa _ rfl hk rfl rfl rfl fun a hk => ?_
  show wpList _ _ _ [] _ _
  refine wpList_nil ?_
  refine hK2 _ _ ?_
  refine wp_ret ?_
  obtain rfl := Option.some.inj H
  exact fin hk _ [(.bool y3)] rfl ⟨rfl, trivial⟩ ⟨rfl, (hs.pick [] rfl).dnil⟩

noncomputable def impl_isLeaf.f (x0 : Int) : Option (Bool) :=
  ((impl_within.f x0 0 7).bind fun y3 => (some y3))
set_option maxRecDepth 100000 in
set_option maxHeartbeats 0 in
theorem impl_isLeaf_t (w0 : World) (x0 : Int) (r : Bool) (H : impl_isLeaf.f x0 = some r) :
    Calls Try.prog 106 #[.int .i64 x0] w0 (Ret (fun v w => v = .bool r ∧ Sat [] w0 w [] [])) := by
  have hs : Sat [] w0 w0 [] [] := Sat.init w0 [] [] (by simp) (by simp) List.nodup_nil (by simp [blks])
  unfold impl_isLeaf.f at H
  refine enter Try.func106 rfl Try.ntmps106 rfl fun a hk => ?_
  apply wp_seq_k; intro K1 hK1
  apply wp_region_lit
  refine sa _ rfl hk rfl rfl rfl fun a hk => ?_
  show wpList _ _ _ [] _ _
  refine wpList_nil ?_
  refine hK1 _ _ ?_
  apply wp_seq_k; intro K2 hK2
  apply wp_region_lit
  refine sm _ rfl hk rfl rfl rfl fun a hk => ?_
  obtain ⟨y3, h4, H⟩ := bind_some H
  refine sc rfl en115 hk rfl rfl rfl (impl_within_t _ x0 0 7 _ h4) ?_
  rintro _ w ⟨rfl, hG⟩ a hk
  have hs := hs.call0 hG
  refine sa _ rfl hk rfl rfl rfl fun a hk => ?_
  show wpList _ _ _ [] _ _
  refine wpList_nil ?_
  refine hK2 _ _ ?_
  refine wp_ret ?_
  obtain rfl := Option.some.inj H
  exact fin hk _ [(.bool y3)] rfl ⟨rfl, trivial⟩ ⟨rfl, (hs.pick [] rfl).dnil⟩

noncomputable def impl_isValue.f (x0 : Int) : Option (Bool) :=
  ((impl_within.f x0 0 999999).bind fun y3 => (some y3))
set_option maxRecDepth 100000 in
set_option maxHeartbeats 0 in
theorem impl_isValue_t (w0 : World) (x0 : Int) (r : Bool) (H : impl_isValue.f x0 = some r) :
    Calls Try.prog 107 #[.int .i64 x0] w0 (Ret (fun v w => v = .bool r ∧ Sat [] w0 w [] [])) := by
  have hs : Sat [] w0 w0 [] [] := Sat.init w0 [] [] (by simp) (by simp) List.nodup_nil (by simp [blks])
  unfold impl_isValue.f at H
  refine enter Try.func107 rfl Try.ntmps107 rfl fun a hk => ?_
  apply wp_seq_k; intro K1 hK1
  apply wp_region_lit
  refine sa _ rfl hk rfl rfl rfl fun a hk => ?_
  show wpList _ _ _ [] _ _
  refine wpList_nil ?_
  refine hK1 _ _ ?_
  apply wp_seq_k; intro K2 hK2
  apply wp_region_lit
  refine sm _ rfl hk rfl rfl rfl fun a hk => ?_
  obtain ⟨y3, h4, H⟩ := bind_some H
  refine sc rfl en115 hk rfl rfl rfl (impl_within_t _ x0 0 999999 _ h4) ?_
  rintro _ w ⟨rfl, hG⟩ a hk
  have hs := hs.call0 hG
  refine sa _ rfl hk rfl rfl rfl fun a hk => ?_
  show wpList _ _ _ [] _ _
  refine wpList_nil ?_
  refine hK2 _ _ ?_
  refine wp_ret ?_
  obtain rfl := Option.some.inj H
  exact fin hk _ [(.bool y3)] rfl ⟨rfl, trivial⟩ ⟨rfl, (hs.pick [] rfl).dnil⟩

noncomputable def impl_isBlock.f (x0 : S_Block) : Option (Bool) :=
  ((((impl_isId.f x0.Id).bind fun y10 => (bif y10 then ((impl_isLeaf.f x0.Leaf).bind fun y13 => (bif y13 then ((impl_isValue.f x0.Value).bind fun y16 => (some y16)) else (some false))) else (some false))) : Option (Bool)).bind fun u5 => (some u5))
set_option maxRecDepth 100000 in
set_option maxHeartbeats 0 in
theorem impl_isBlock_t (w0 : World) (x0 : S_Block) (r : Bool) (H : impl_isBlock.f x0 = some r) :
    Calls Try.prog 57 #[.agg #[.int .i64 x0.Id, .int .i64 x0.Leaf, .int .i64 x0.Value]] w0 (Ret (fun v w => v = .bool r ∧ Sat [] w0 w [] [])) := by
  have hs : Sat [] w0 w0 [] [] := Sat.init w0 [] [] (by simp) (by simp) List.nodup_nil (by simp [blks])
  unfold impl_isBlock.f at H
  refine enter Try.func57 rfl Try.ntmps57 rfl fun a hk => ?_
  apply wp_seq_k; intro K1 hK1
  apply wp_region_lit
  refine sbx 1 hs rfl hk rfl rfl rfl rfl fun b2 w a hk hs => ?_
  refine sa _ rfl hk rfl rfl rfl fun a hk => ?_
  show wpList _ _ _ [] _ _
  refine wpList_nil ?_
  refine hK1 _ _ ?_
  apply wp_seq_k; intro K3 hK3
  obtain ⟨o6, h7, HL8⟩ := bind_some H
  clear H
  obtain ⟨R9, hR9⟩ : ∃ R : Act → World → Prop, R = fun a w => ∃ (u5 : Bool), u5 = o6 ∧ Kn [(2, (.bool u5))] 16 a ∧ Sat [] w0 w [] [] := ⟨_, rfl⟩
  refine wp_cutq R9 ?_ ?_
  · have H := h7
    apply wp_region_lit
    refine sf ⟨b2, 0, none⟩ rfl hk rfl rfl rfl fd81_0 rfl fun a hk => ?_
    refine sl rfl hk rfl rfl rfl ag3 (box_cell hs (k := 1) rfl rfl) fun a hk => ?_
    obtain ⟨y10, h11, H⟩ := bind_some H
    refine sc rfl en105 hk rfl rfl rfl (impl_isId_t _ x0.Id _ h11) ?_
    rintro _ w ⟨rfl, hG⟩ a hk
    have hs := hs.call0 hG
    refine sm _ rfl hk rfl rfl rfl fun a hk => ?_
    rcases cond_some H with ⟨c12, H⟩ | ⟨c12, H⟩
    · have hk := hk.lit 6 c12 rfl
      refine sf ⟨b2, 1, none⟩ rfl hk rfl rfl rfl fd81_1 rfl fun a hk => ?_
      refine sl rfl hk rfl rfl rfl ag3 (box_cell hs (k := 1) rfl rfl) fun a hk => ?_
      obtain ⟨y13, h14, H⟩ := bind_some H
      refine sc rfl en106 hk rfl rfl rfl (impl_isLeaf_t _ x0.Leaf _ h14) ?_
      rintro _ w ⟨rfl, hG⟩ a hk
      have hs := hs.call0 hG
      refine sv (.bool y13) hk rfl rfl rfl fun a hk => ?_
      refine sm _ rfl hk rfl rfl rfl fun a hk => ?_
      rcases cond_some H with ⟨c15, H⟩ | ⟨c15, H⟩
      · have hk := hk.lit 11 c15 rfl
        refine sf ⟨b2, 2, none⟩ rfl hk rfl rfl rfl fd81_2 rfl fun a hk => ?_
        refine sl rfl hk rfl rfl rfl ag3 (box_cell hs (k := 1) rfl rfl) fun a hk => ?_
        obtain ⟨y16, h17, H⟩ := bind_some H
        refine sc rfl en107 hk rfl rfl rfl (impl_isValue_t _ x0.Value _ h17) ?_
        rintro _ w ⟨rfl, hG⟩ a hk
        have hs := hs.call0 hG
        refine sv (.bool y16) hk rfl rfl rfl fun a hk => ?_
        refine sa _ rfl hk rfl rfl rfl fun a hk => ?_
        show wpList _ _ _ [] _ _
        refine wpList_nil ?_
        obtain rfl := Option.some.inj H
        show R9 _ _
        rw [hR9]
        exact ⟨y16, rfl, (hk.c 2 rfl hk.k), (hs.pick [] rfl)⟩
      · have hk := hk.lit 11 c15 rfl
        refine sk hk rfl rfl rfl fun a hk => ?_
        refine sk hk rfl rfl rfl fun a hk => ?_
        refine sk hk rfl rfl rfl fun a hk => ?_
        refine sv (.bool false) hk rfl rfl rfl fun a hk => ?_
        refine sa _ rfl hk rfl rfl rfl fun a hk => ?_
        show wpList _ _ _ [] _ _
        refine wpList_nil ?_
        obtain rfl := Option.some.inj H
        show R9 _ _
        rw [hR9]
        exact ⟨false, rfl, (hk.c 2 rfl hk.k), (hs.pick [] rfl)⟩
    · have hk := hk.lit 6 c12 rfl
      refine sk hk rfl rfl rfl fun a hk => ?_
      refine sk hk rfl rfl rfl fun a hk => ?_
      refine sk hk rfl rfl rfl fun a hk => ?_
      refine sv (.bool false) hk rfl rfl rfl fun a hk => ?_
      refine sm _ rfl hk rfl rfl rfl fun a hk => ?_
      refine sk hk rfl rfl rfl fun a hk => ?_
      refine sk hk rfl rfl rfl fun a hk => ?_
      refine sk hk rfl rfl rfl fun a hk => ?_
      refine sv (.bool false) hk rfl rfl rfl fun a hk => ?_
      refine sa _ rfl hk rfl rfl rfl fun a hk => ?_
      show wpList _ _ _ [] _ _
      refine wpList_nil ?_
      obtain rfl := Option.some.inj H
      show R9 _ _
      rw [hR9]
      exact ⟨false, rfl, (hk.c 2 rfl hk.k), (hs.pick [] rfl)⟩
  · intro a w hR0
    rw [hR9] at hR0
    obtain ⟨u5, rfl, hk, hs⟩ := hR0
    have H := HL8
    try dsimp only at H
    refine hK3 _ _ ?_
    refine wp_ret ?_
    obtain rfl := Option.some.inj H
    exact fin hk _ [(.bool u5)] rfl ⟨rfl, trivial⟩ ⟨rfl, (hs.pick [] rfl).dnil⟩

noncomputable def impl_little.s0 (x0 : Int) (x1 : Int) (u13 : List Int) (u12 : Int) : Option (((List Int) × Int) ⊕ Ex ((List Int)) (ByteArray)) :=
  (bif (decide (u12 < x1)) then (if 0 ≤ (w64 (8 * u12)) then (if u13.length + ([(IntKind.wrap .u8 (Int.fdiv x0 (2 ^ min (w64 (8 * u12)).toNat 64)))]).length ≤ 1073741824 then (some (.inl ((u13 ++ ([(IntKind.wrap .u8 (Int.fdiv x0 (2 ^ min (w64 (8 * u12)).toNat 64)))])), (w64 (u12 + 1))))) else none) else none) else (some (.inr (.out u13))))
noncomputable def impl_little.f (x0 : Int) (x1 : Int) : Option (ByteArray) :=
  ((loopO (fun s => impl_little.s0 x0 x1 s.1 s.2) (([] : List Int), 0)).bind fun o => match o with | .out u18 => (some (strOfNums u18)) | .ret r => (some r))
set_option maxRecDepth 100000 in
set_option maxHeartbeats 0 in
theorem impl_little_t (w0 : World) (x0 : Int) (x1 : Int) (r : ByteArray) (H : impl_little.f x0 x1 = some r) :
    Calls Try.prog 178 #[.int .i64 x0, .int .i64 x1] w0 (Ret (fun v w => v = .string r ∧ Sat [] w0 w [] [])) := by
  have hs : Sat [] w0 w0 [] [] := Sat.init w0 [] [] (by simp) (by simp) List.nodup_nil (by simp [blks])
  unfold impl_little.f at H
  refine enter Try.func178 rfl Try.ntmps178 rfl fun a hk => ?_
  apply wp_seq_k; intro K1 hK1
  apply wp_region_lit
  refine sa _ rfl hk rfl rfl rfl fun a hk => ?_
  show wpList _ _ _ [] _ _
  refine wpList_nil ?_
  refine hK1 _ _ ?_
  apply wp_seq_k; intro K2 hK2
  apply wp_region_lit
  refine sa _ rfl hk rfl rfl rfl fun a hk => ?_
  show wpList _ _ _ [] _ _
  refine wpList_nil ?_
  refine hK2 _ _ ?_
  apply wp_seq_k; intro K3 hK3
  apply wp_seq_k; intro K4 hK4
  apply wp_region_lit
  refine sm _ rfl hk rfl rfl rfl fun a hk => ?_
  refine sm _ rfl hk rfl rfl rfl fun a hk => ?_
  show wpList _ _ _ [] _ _
  refine wpList_nil ?_
  refine hK4 _ _ ?_
  obtain ⟨o23, h24, HL25⟩ := bind_some H
  clear H
  obtain ⟨R26, hR26⟩ : ∃ R : Act → World → Prop, R = fun a w => ∃ (u18 : List Int) (A21 : Option Addr) (p22 : Nat) (k19 : Chunk), o23 = .out u18 ∧ Kn [(5, (.slice A21 u18.length p22))] 22 a ∧ Sat [] w0 w [] [(3, k19)] ∧ Own (Lay.int .u8) 5 A21 p22 u18 k19 := ⟨_, rfl⟩
  refine wp_cutq R26 ?_ ?_
  · refine wp_block ?_
    obtain ⟨fu28, h24⟩ := loopO_some h24
    obtain ⟨I27, hI27⟩ : ∃ I : Nat → Act → World → Prop, I = fun fu a w => ∃ (u13 : List Int) (u12 : Int) (A16 : Option Addr) (p17 : Nat) (k14 : Chunk), loopN (fun s => impl_little.s0 x0 x1 s.1 s.2) fu (u13, u12) = some o23 ∧ Kn [(0, (.int .i64 x0)), (5, (.slice A16 u13.length p17)), (7, (.int .i64 x1)), (8, (.int .i64 u12))] 22 a ∧ Sat [] w0 w [] [(3, k14)] ∧ Own (Lay.int .u8) 5 A16 p17 u13 k14 := ⟨_, rfl⟩
    refine wp_loop_ghost I27 fu28 ?_ ?_
    · rw [hI27]
      exact ⟨([] : List Int), 0, none, 0, _, h24, (hk.c 0 rfl (hk.c 5 rfl (hk.c 7 rfl (hk.c 8 rfl hk.k)))), ((hs.addNil 1003).pick [(3, 1003)] rfl), Own.nil _ _⟩
    · clear h24 hk hs
      intro fu28 a w hI0
      rw [hI27] at hI0
      obtain ⟨u13, u12, A16, p17, k14, hi, hk, hs, o15⟩ := hI0
      obtain ⟨x29, H, h30⟩ := loop_round hi
      try dsimp only at H
      unfold impl_little.s0 at H
      apply wp_seq_k; intro K31 hK31
      apply wp_region_lit
      refine sv (.bool (decide (u12 < x1))) hk rfl rfl rfl fun a hk => ?_
      show wpList _ _ _ [] _ _
      refine wpList_nil ?_
      refine hK31 _ _ ?_
      apply wp_seq_k; intro K32 hK32
      rcases cond_some H with ⟨c33, H⟩ | ⟨c33, H⟩
      · have hk := hk.lit 9 c33 rfl
        refine cnd_true hk rfl rfl ?_
        refine wp_skip ?_
        refine hK32 _ _ ?_
        apply wp_seq_k; intro K34 hK34
        refine wp_block ?_
        apply wp_seq_k; intro K35 hK35
        apply wp_region_lit
        refine sm _ rfl hk rfl rfl rfl fun a hk => ?_
        refine sa _ rfl hk rfl rfl rfl fun a hk => ?_
        show wpList _ _ _ [] _ _
        refine wpList_nil ?_
        refine hK35 _ _ ?_
        apply wp_region_lit
        refine sm _ rfl hk rfl rfl rfl fun a hk => ?_
        refine sm _ rfl hk rfl rfl rfl fun a hk => ?_
        refine sm _ rfl hk rfl rfl rfl fun a hk => ?_
        refine sv (.int .i64 (w64 (8 * u12))) hk rfl rfl rfl fun a hk => ?_
        rcases ite_some H with ⟨c36, H⟩ | ⟨_, H⟩
        rotate_left
        · cases H
        refine ssr rfl hk rfl rfl rfl rfl c36 fun a hk => ?_
        refine scn rfl hk rfl rfl rfl un5 un3 fun a hk => ?_
        refine sbs (L := (Lay.int .u8)) (pv := [(0, (.int .u8 (IntKind.wrap .u8 (Int.fdiv x0 (2 ^ min (w64 (8 * u12)).toNat 64)))))]) (xs := [(IntKind.wrap .u8 (Int.fdiv x0 (2 ^ min (w64 (8 * u12)).toNat 64)))]) (ess := [[.int .u8 (IntKind.wrap .u8 (Int.fdiv x0 (2 ^ min (w64 (8 * u12)).toNat 64)))]]) 4 hs rfl hk rfl rfl rfl un74 (bs5_3 (IntKind.wrap .u8 (Int.fdiv x0 (2 ^ min (w64 (8 * u12)).toNat 64)))) (AllOwn.cons0 ⟨rfl, rfl⟩ AllOwn.nil) rfl rfl rfl fun b37 k38 w a hk o39 hs => ?_
        rcases ite_some H with ⟨c40, H⟩ | ⟨_, H⟩
        rotate_left
        · cases H
        refine sap 3 (xs := u13) (ys := [(IntKind.wrap .u8 (Int.fdiv x0 (2 ^ min (w64 (8 * u12)).toNat 64)))]) (flat_flat : ((Lay.int .u8)).Flat) hs rfl o15 o39.view (hs.hasG (k := 4) rfl) rfl hk rfl rfl rfl rfl rfl rfl un74 mk5 rfl rfl rfl c40 fun A41 p42 k43 w a hk o44 hs => ?_
        refine sa _ rfl hk rfl rfl rfl fun a hk => ?_
        show wpList _ _ _ [] _ _
        refine wpList_nil ?_
        refine hK34 _ _ ?_
        apply wp_region_lit
        refine sv (.int .i64 (w64 (u12 + 1))) hk rfl rfl rfl fun a hk => ?_
        refine sm _ rfl hk rfl rfl rfl fun a hk => ?_
        show wpList _ _ _ [] _ _
        refine wpList_nil ?_
        obtain rfl := Option.some.inj H
        obtain ⟨m45, hmm45, h30⟩ := h30
        show ∃ n', n' < _ ∧ I27 n' _ _
        refine ⟨m45, hmm45, ?_⟩
        rw [hI27]
        exact ⟨(u13 ++ ([(IntKind.wrap .u8 (Int.fdiv x0 (2 ^ min (w64 (8 * u12)).toNat 64)))])), (w64 (u12 + 1)), A41, p42, _, h30, (hk.c 0 rfl (hk.c 5 rfl (hk.c 7 rfl (hk.c 8 rfl hk.k)))), (hs.pick [(3, 3)] rfl), o44⟩
      · have hk := hk.lit 9 c33 rfl
        refine cnd_false hk rfl rfl ?_
        refine wp_exit ?_
        obtain rfl := Option.some.inj H
        show R26 _ _
        rw [hR26]
        exact ⟨u13, A16, p17, _, h30.symm, (hk.c 5 rfl hk.k), (hs.pick [(3, 3)] rfl), o15⟩
  · intro a w hR0
    rw [hR26] at hR0
    obtain ⟨u18, A21, p22, k19, rfl, hk, hs, o20⟩ := hR0
    have H := HL25
    try dsimp only at H
    refine hK3 _ _ ?_
    apply wp_seq_k; intro K46 hK46
    apply wp_region_lit
    refine sm _ rfl hk rfl rfl rfl fun a hk => ?_
    refine sbt (xs := u18) rfl hk rfl rfl rfl rfl un74 un5 un9 o20.view (hs.hasG (k := 3) rfl) fun a hk => ?_
    refine sa _ rfl hk rfl rfl rfl fun a hk => ?_
    show wpList _ _ _ [] _ _
    refine wpList_nil ?_
    refine hK46 _ _ ?_
    refine wp_ret ?_
    obtain rfl := Option.some.inj H
    exact fin hk _ [(.string (strOfNums u18))] rfl ⟨rfl, trivial⟩ ⟨rfl, (hs.pick [] rfl).dnil⟩

noncomputable def impl_intsText.s0 (l0 : List Int) (u1 : Int) (u2 : ByteArray) : Option ((Int × ByteArray) ⊕ Ex (ByteArray) (ByteArray)) :=
  (bif (decide (u1 < (l0.length : Int))) then (if 0 ≤ u1 ∧ u1 < (l0.length : Int) then ((impl_little.f (l0.getD u1.toNat 0) 4).bind fun y => (if u2.size + y.size ≤ 1073741824 then (some (.inl ((w64 (u1 + 1)), (u2 ++ y)))) else none)) else none) else (some (.inr (.out u2))))
noncomputable def impl_intsText.f (l0 : List Int) : Option (ByteArray) :=
  ((loopO (fun s => impl_intsText.s0 l0 s.1 s.2) (0, (⟨#[]⟩ : ByteArray))).bind fun o => match o with | .out u => (some u) | .ret r => (some r))
set_option maxRecDepth 100000 in
set_option maxHeartbeats 0 in
theorem impl_intsText_n : True := trivial
section
open Go.Shelf
theorem bsz : (Try.prog.info? 188).map (·.size) = some 2 := by kernel_rfl
theorem bli : liesAt Try.prog Try.prog.depth 188 (2 / Try.prog.cellsOf 188) 0 188 1 = true := by kernel_rfl
set_option maxHeartbeats 1000000 in
set_option maxRecDepth 100000 in
theorem cc_used (b : Nat) (w : World) (h0 : w.cell? ⟨b, 0, none⟩ = some (.pointer (some ⟨b, 0, none⟩))) :
    Calls Try.prog 192 #[.pointer (some ⟨b, 0, none⟩)] w fun e w' => e = .returned (.tuple #[]) ∧ w' = w := by
  obtain ⟨j, hj, _⟩ := Option.map_eq_some_iff.1 bsz
  go_enter Try.func192, Try.ntmps192
  go_wp2
  rw [Lib.run_neq_ptr_same w _ Try.underlying186 hj]
  go_wp2
  go_end0
  exact ⟨rfl, rfl⟩
set_option maxHeartbeats 1000000 in
set_option maxRecDepth 100000 in
theorem cc_fresh (b : Nat) (w : World) (h0 : w.cell? ⟨b, 0, none⟩ = some (.pointer none)) (hsh : w.shape? b = some (188, 2)) (hfz : w.frozen? ⟨b, 0, none⟩ = false) :
    Calls Try.prog 192 #[.pointer (some ⟨b, 0, none⟩)] w fun e w' => e = .returned (.tuple #[]) ∧ w' = w.setCell ⟨b, 0, none⟩ (.pointer (some ⟨b, 0, none⟩)) := by
  obtain ⟨j, hj, hjs⟩ := Option.map_eq_some_iff.1 bsz
  go_enter Try.func192, Try.ntmps192
  go_wp2
  rw [Lib.run_to_unsafe w ⟨b, 0, none⟩ Try.underlying186 Try.underlying205 hj (by rw [hjs]; decide) hsh (Nat.zero_lt_succ 1)]
  simp only [Result.andThen]
  rw [Oper.upon_value]
  go_wp2
  rw [run_callFunc_extern Try.func194 (by kernel_rfl) (by kernel_rfl) (by kernel_rfl) (e := Extern.AbiNoEscape.same) (by kernel_rfl)]
  rw [Lib.run_noEscape]
  simp only [Result.andThen]
  rw [Oper.upon_value]
  go_wp2
  rw [Lib.run_from_unsafe w ⟨b, 0, none⟩ Try.underlying205 Try.underlying186 hj hsh bli]
  simp only [Result.andThen]
  rw [Oper.upon_value]
  go_wp2
  go_end0
  exact ⟨rfl, rfl⟩
theorem cc (B b : Nat) (bs : List Value) (w : World) (h : Lib.IsBuilder 188 5 B b bs w) :
    Calls Try.prog 192 #[.pointer (some ⟨b, 0, none⟩)] w fun e w' => e = .returned (.tuple #[]) ∧ (Lib.BuilderAt 188 5 B b (.pointer (some ⟨b, 0, none⟩)) bs w' ∧ Below B w w') := by
  rcases h with h | h
  · refine (cc_fresh b w h.cell0 h.shape h.frozen0).mono ?_
    rintro e w' ⟨rfl, rfl⟩
    exact ⟨rfl, h.used _, (Below.refl B w).setCell (p := ⟨b, 0, none⟩) h.1 _⟩
  · refine (cc_used b w h.cell0).mono ?_
    rintro e w' ⟨rfl, rfl⟩
    exact ⟨rfl, h, Below.refl B _⟩
set_option maxHeartbeats 2000000 in
set_option maxRecDepth 100000 in
theorem ws (B b : Nat) (bs : List Value) (s : ByteArray) (w : World) (h : Lib.IsBuilder 188 5 B b bs w) (hlen : bs.length + s.size ≤ 140737488355328) (hBw : B ≤ w.heap.size) :
    Calls Try.prog 177 #[.pointer (some ⟨b, 0, none⟩), .string s] w fun e w' => e = .returned (.tuple #[.int .i64 s.size, .nilIface]) ∧ (Lib.BuilderAt 188 5 B b (.pointer (some ⟨b, 0, none⟩)) (bs ++ Lib.strCells s) w' ∧ Below B w w') := by
  obtain ⟨i0, hi, hz0, hz1, hz2⟩ := info_parts (by kernel_rfl : (Try.prog.info? 5).map (fun i => (i.zero, i.size, i.bytes)) = some (some (.int .u8 0), 1, 1))
  have e240 : ∀ args w, (callFunc 192 args).run Try.prog w = .ok (.enter 192 args) w := enters_of Try.func192 (by kernel_rfl) rfl
  go_enter Try.func177, Try.ntmps177
  go_wp2_with (go_at_fn 192; refine (cc B b bs _ h).mono ?_)
  rintro e w1 ⟨rfl, h1, hb1⟩
  obtain ⟨hB, v, hbk, hown, hne⟩ := h1
  have c0 : w1.cell? ⟨b, 0, none⟩ = some (.pointer (some ⟨b, 0, none⟩)) := by rw [Lib.cell_of_heap hbk]; rfl
  have c1 : w1.cell? ⟨b, 1, none⟩ = some v := by rw [Lib.cell_of_heap hbk]; rfl
  go_wp2_with (at_builtin; refine Lib.wpList_append_own_string _ rfl _ _ 74 9 rfl B 5 i0 Try.underlying74 Try.underlying9 hi hz0 hz1 hz2 _ _ _ rfl hown s rfl ?c3 ?c4 ?c5 ?_)
  case c3 => unfold maxLen; omega
  case c4 => omega
  case c5 => have := hb1.size; omega
  intro v' w2 hown' hgrow _
  have hlt : b < w1.heap.size := by
    rcases Nat.lt_or_ge b w1.heap.size with h' | h'
    · exact h'
    · simp [Array.getElem?_eq_none h'] at hbk
  have hb2 : w2.heap[b]? = some (.cells #[.pointer (some ⟨b, 0, none⟩), v] 188 (0, 0)) := by
    rw [hgrow.block b hlt (fun e => hne e.symm)]
    exact hbk
  have d0 : w2.cell? ⟨b, 0, none⟩ = some (.pointer (some ⟨b, 0, none⟩)) := by rw [Lib.cell_of_heap hb2]; rfl
  have d1 : w2.cell? ⟨b, 1, none⟩ = some v := by rw [Lib.cell_of_heap hb2]; rfl
  have f1 : w2.frozen? ⟨b, 1, none⟩ = false := Lib.frozen_of_heap hb2 1
  obtain ⟨ao, n', cap, rfl⟩ : ∃ ao n' cap, v' = .slice ao n' cap := by
    rcases hown'.2 with ⟨hv, _⟩ | ⟨g, cap, cur, hv, _⟩
    · exact ⟨_, _, _, hv⟩
    · exact ⟨_, _, _, hv⟩
  go_wp2
  go_ret2
  refine ⟨rfl, ?_, ?_⟩
  · exact Lib.BuilderAt.put (T := 188) (e := 5) hB hb2 (bs' := bs ++ Lib.strCells s) (by simpa [Lib.strCells_length] using hown') (by decide)
  · exact (hb1.grown hgrow (by have := hb1.size; omega) (fun k hk => (hown.lt k hk).1)).setCell (p := ⟨b, 1, none⟩) hB _
def lays169_ren : Go.Shelf.Ren := ⟨fun | 169 => 179 | n => n, fun | 70 => 186 | 9 => 9 | 0 => 0 | 72 => 188 | 37 => 74 | 127 => 203 | 3 => 3 | 5 => 5 | n => n, fun | n => n⟩
theorem lays169 : Go.Proofs.Lays.n169 Try.prog lays169_ren := {
  mixed := by kernel_rfl
  f169 := Try.func179.trans (congrArg some (by kernel_rfl))
  t0 := Try.underlying0
  a0 := Try.isAgg0
  z0 := Try.sizeOf0
  v0 := Try.zeroValue0
  t3 := Try.underlying3
  a3 := Try.isAgg3
  z3 := Try.sizeOf3
  v3 := Try.zeroValue3
  t9 := Try.underlying9
  a9 := Try.isAgg9
  z9 := Try.sizeOf9
  v9 := Try.zeroValue9
  t37 := Try.underlying74
  a37 := Try.isAgg74
  z37 := Try.sizeOf74
  v37 := Try.zeroValue74
  t70 := Try.underlying186
  a70 := Try.isAgg186
  z70 := Try.sizeOf186
  v70 := Try.zeroValue186
  t72 := Try.underlying188
  a72 := Try.isAgg188
  z72 := Try.sizeOf188
  v72 := Try.zeroValue188
  t127 := Try.underlying203
  a127 := Try.isAgg203
  z127 := Try.sizeOf203
  v127 := Try.zeroValue203 }
theorem Builder_Extra_169 : Builder.Extra Try.prog lays169_ren := {
  sizeBuilder := by kernel_rfl
  liesBuilder := by kernel_rfl
  t5 := Try.underlying5
  a5 := Try.isAgg5
  z5 := Try.sizeOf5
  v5 := Try.zeroValue5
  infoByte := by kernel_rfl
  cellsByte := by kernel_rfl
  sizeByte := by kernel_rfl
  neB5 := by decide }
open Go.RowKit in
theorem Builder_String (B b : Nat) (l : List UInt8) (w : World) (h : Lib.IsBuilder 188 5 B b (Lib.byteCells l) w) (h0 : l ≠ []) :
    Calls Try.prog 179 #[.pointer (some ⟨b, 0, none⟩)] w fun e w' => e = .returned (.string ⟨l.toArray⟩) ∧ Below B w w' := Any.Builder_String lays169 Builder_Extra_169 B b l w h h0
open Go.RowKit in
theorem Builder_String_empty (B b : Nat) (w : World) (h : Lib.IsBuilder 188 5 B b [] w) (hBw : B ≤ w.heap.size) :
    Calls Try.prog 179 #[.pointer (some ⟨b, 0, none⟩)] w fun e w' => e = .returned (.string ⟨#[]⟩) ∧ Below B w w' := Any.Builder_String_empty lays169 Builder_Extra_169 B b w h hBw
open Go.RowKit in
theorem Builder_String_any (B b : Nat) (l : List UInt8) (w : World) (h : Lib.IsBuilder 188 5 B b (Lib.byteCells l) w) (hBw : B ≤ w.heap.size) :
    Calls Try.prog 179 #[.pointer (some ⟨b, 0, none⟩)] w fun e w' => e = .returned (.string ⟨l.toArray⟩) ∧ Below B w w' := Any.Builder_String_any lays169 Builder_Extra_169 B b l w h hBw
end
set_option maxRecDepth 100000 in
set_option maxHeartbeats 1000000 in
theorem impl_intsText_t (w0 : World) (A0_ : Option Addr) (p0_ : Nat) (l0 : List Int) (k0_ : Chunk) (v0_ : View (Lay.int .i64) A0_ p0_ l0 k0_) (w0_ : Has w0 k0_) (r : ByteArray) (H : impl_intsText.f l0 = some r) :
    Calls Try.prog 151 #[.slice A0_ l0.length p0_] w0 (Ret (fun v w => v = .string r ∧ Sat [] w0 w [] [])) := by
  unfold impl_intsText.f at H
  refine enter Try.func151 rfl Try.ntmps151 rfl fun a hk => ?_
  apply wp_seq_k; intro K1 hK1
  apply wp_region_lit
  refine sa _ rfl hk rfl rfl rfl fun a hk => ?_
  show wpList _ _ _ [] _ _
  refine wpList_nil ?_
  refine hK1 _ _ ?_
  apply wp_seq_k; intro K2 hK2
  apply wp_region_lit
  refine sal rfl hk rfl rfl (by kernel_rfl : zeroB Try.prog 188 = some (.agg #[.pointer none, .slice none 0 0])) fun a hk => ?_
  show wpList _ _ _ [] _ _
  refine wpList_nil ?_
  refine hK2 _ _ ?_
  have hgen : ∃ w b, w = (w0.alloc (.cells (Value.cells (.agg #[.pointer none, .slice none 0 0])) 188)) ∧ b = w0.heap.size ∧ Lib.IsBuilder 188 5 w0.heap.size b (Lib.byteCells (⟨#[]⟩ : ByteArray).data.toList) w ∧ Below w0.heap.size w0 w :=
    ⟨_, _, rfl, rfl, Lib.fresh_isBuilder 188 5 w0, (Below.refl _ w0).alloc (Nat.le_refl _) _⟩
  obtain ⟨w, b, ew, eb, hb, hbel⟩ := hgen
  rw [← eb] at hk
  rw [← ew]
  clear ew eb
  apply wp_seq_k; intro K3 hK3
  apply wp_seq_k; intro K4 hK4
  apply wp_region_lit
  refine sm _ rfl hk rfl rfl rfl fun a hk => ?_
  refine sle rfl hk rfl rfl rfl un31 fun a hk => ?_
  refine sm _ rfl hk rfl rfl rfl fun a hk => ?_
  show wpList _ _ _ [] _ _
  refine wpList_nil ?_
  refine hK4 _ _ ?_
  obtain ⟨o, h, HL⟩ := bind_some H
  clear H
  obtain ⟨R, hR⟩ : ∃ R : Act → World → Prop, R = fun a w => ∃ u : ByteArray, o = .out u ∧ Kn [(3, .pointer (some ⟨b, 0, none⟩))] 17 a ∧ Lib.IsBuilder 188 5 w0.heap.size b (Lib.byteCells u.data.toList) w ∧ Below w0.heap.size w0 w := ⟨_, rfl⟩
  refine wp_cutq R ?_ ?_
  · refine wp_block ?_
    obtain ⟨fu, h⟩ := loopO_some h
    obtain ⟨I, hI⟩ : ∃ I : Nat → Act → World → Prop, I = fun fu a w => ∃ (u1 : Int) (u2 : ByteArray), loopN (fun s => impl_intsText.s0 l0 s.1 s.2) fu (u1, u2) = some o ∧ Kn [(3, .pointer (some ⟨b, 0, none⟩)), (6, (.slice A0_ l0.length p0_)), (7, (.int .i64 (l0.length : Int))), (8, (.int .i64 u1))] 17 a ∧ Lib.IsBuilder 188 5 w0.heap.size b (Lib.byteCells u2.data.toList) w ∧ Below w0.heap.size w0 w := ⟨_, rfl⟩
    refine wp_loop_ghost I fu ?_ ?_
    · rw [hI]
      exact ⟨0, _, h, (hk.c 3 rfl (hk.c 6 rfl (hk.c 7 rfl (hk.c 8 rfl hk.k)))), hb, hbel⟩
    · clear h hk hb hbel
      intro fu a w hI0
      rw [hI] at hI0
      obtain ⟨u1, u2, hi, hk, hb, hbel⟩ := hI0
      obtain ⟨x13, H, h14⟩ := loop_round hi
      try dsimp only at H
      unfold impl_intsText.s0 at H
      apply wp_seq_k; intro K15 hK15
      apply wp_region_lit
      refine sv (.bool (decide (u1 < (l0.length : Int)))) hk rfl rfl rfl fun a hk => ?_
      show wpList _ _ _ [] _ _
      refine wpList_nil ?_
      refine hK15 _ _ ?_
      apply wp_seq_k; intro K16 hK16
      rcases cond_some H with ⟨c17, H⟩ | ⟨c17, H⟩
      · have hk := hk.lit 9 c17 rfl
        refine cnd_true hk rfl rfl ?_
        refine wp_skip ?_
        refine hK16 _ _ ?_
        apply wp_seq_k; intro K18 hK18
        refine wp_block ?_
        apply wp_seq_k; intro K19 hK19
        apply wp_region_lit
        rcases ite_some H with ⟨c21, H⟩ | ⟨_, H⟩
        rotate_left
        · cases H
        obtain ⟨b22, q23, hAc21⟩ := (v0_).some_ u1 c21.1 c21.2
        refine si rfl hk rfl rfl rfl rfl un31 sz3 c21.1 c21.2 hAc21 fun a hk => ?_
        obtain ⟨_, rfl, e24⟩ := (v0_).at_ 0 u1 c21.1 c21.2
        refine sl (v := (.int .i64 (l0.getD u1.toNat 0))) rfl hk rfl rfl rfl ag3 ((e24 0 _ rfl).cell (has_bel w0_ hbel)) fun a hk => ?_
        refine sa _ rfl hk rfl rfl rfl fun a hk => ?_
        show wpList _ _ _ [] _ _
        refine wpList_nil ?_
        refine hK19 _ _ ?_
        apply wp_region_lit
        refine sm _ rfl hk rfl rfl rfl fun a hk => ?_
        obtain ⟨y25, h26, H⟩ := bind_some H
        refine sc rfl en178 hk rfl rfl rfl (impl_little_t _ (l0.getD u1.toNat 0) 4 y25 h26) ?_
        rintro _ w2 ⟨rfl, hG⟩ a hk
        have hb2 : Lib.IsBuilder 188 5 w0.heap.size b (Lib.byteCells u2.data.toList) w2 := by
          rcases hb with hb | hb
          · exact .inl (bld_F hb hG.below)
          · exact .inr (bld_F hb hG.below)
        have hbel2 : Below w0.heap.size w0 w2 := hbel.trans (hG.below.mono hbel.size)
        rcases ite_some H with ⟨c27, H⟩ | ⟨_, H⟩
        rotate_left
        · cases H
        refine sc rfl en177 hk rfl rfl rfl ((ws w0.heap.size b _ y25 w2 hb2 (by rw [Lib.byteCells_length, ba_len]; omega) hbel2.size).mono (R' := Ret (fun v w' => v = .tuple #[.int .i64 y25.size, .nilIface] ∧ (Lib.BuilderAt 188 5 w0.heap.size b (.pointer (some ⟨b, 0, none⟩)) (Lib.byteCells u2.data.toList ++ Lib.strCells y25) w' ∧ Below w0.heap.size w2 w'))) (fun e w' h => ⟨_, h.1, rfl, h.2⟩)) ?_
        rintro _ w3 ⟨rfl, hb3, hbel3⟩ a hk
        show wpList _ _ _ [] _ _
        refine wpList_nil ?_
        refine hK18 _ _ ?_
        apply wp_region_lit
        refine sv (.int .i64 (w64 (u1 + 1))) hk rfl rfl rfl fun a hk => ?_
        refine sm _ rfl hk rfl rfl rfl fun a hk => ?_
        show wpList _ _ _ [] _ _
        refine wpList_nil ?_
        obtain rfl := Option.some.inj H
        obtain ⟨m, hmm, h14⟩ := h14
        show ∃ n', n' < _ ∧ I n' _ _
        refine ⟨m, hmm, ?_⟩
        rw [hI]
        exact ⟨_, _, h14, (hk.c 3 rfl (hk.c 6 rfl (hk.c 7 rfl (hk.c 8 rfl hk.k)))), .inr (by rw [bc_app]; exact hb3), hbel2.trans hbel3⟩
      · have hk := hk.lit 9 c17 rfl
        refine cnd_false hk rfl rfl ?_
        refine wp_exit ?_
        obtain rfl := Option.some.inj H
        show R _ _
        rw [hR]
        exact ⟨_, h14.symm, (hk.c 3 rfl hk.k), hb, hbel⟩
  · intro a w hR0
    rw [hR] at hR0
    obtain ⟨u, rfl, hk, hb, hbel⟩ := hR0
    have H := HL
    try dsimp only at H
    obtain rfl := Option.some.inj H
    refine hK3 _ _ ?_
    apply wp_seq_k; intro K5 hK5
    apply wp_region_lit
    refine sc rfl en179 hk rfl rfl rfl ((Builder_String_any w0.heap.size b _ w hb hbel.size).mono (R' := Ret (fun v w' => v = .string u ∧ Below w0.heap.size w w')) (fun e w' h => ⟨_, h.1, rfl, h.2⟩)) ?_
    rintro _ w4 ⟨rfl, hbel4⟩ a hk
    refine sa _ rfl hk rfl rfl rfl fun a hk => ?_
    show wpList _ _ _ [] _ _
    refine wpList_nil ?_
    refine hK5 _ _ ?_
    refine wp_ret ?_
    exact fin hk _ [(.string u)] rfl ⟨rfl, trivial⟩ ⟨rfl, Sat.ofBelow (hbel.trans hbel4)⟩

noncomputable def impl_textOf.f (l0 : List Int) (x1 : Int) : Option (ByteArray) :=
  (if 0 ≤ (w64 (x1 - (l0.length : Int))) ∧ l0.length + (w64 (x1 - (l0.length : Int))).toNat ≤ 1073741824 then ((impl_intsText.f (l0 ++ List.replicate (w64 (x1 - (l0.length : Int))).toNat 0)).bind fun y8 => (some y8)) else none)
set_option maxRecDepth 100000 in
set_option maxHeartbeats 0 in
theorem impl_textOf_t (w0 : World) (A0_ : Option Addr) (p0_ : Nat) (l0 : List Int) (k0_ : Chunk) (v0_ : Own (Lay.int .i64) 3 A0_ p0_ l0 k0_) (x1 : Int) (hs0 : Sat (blks [(1, k0_)]) w0 w0 [] [(1, k0_)]) (r : ByteArray) (H : impl_textOf.f l0 x1 = some r) :
    Calls Try.prog 108 #[.slice A0_ l0.length p0_, .int .i64 x1] w0 (Ret (fun v w => v = .string r ∧ Sat (blks [(1, k0_)]) w0 w [] [])) := by
  have hs := hs0
  unfold impl_textOf.f at H
  refine enter Try.func108 rfl Try.ntmps108 rfl fun a hk => ?_
  apply wp_seq_k; intro K1 hK1
  apply wp_region_lit
  refine sa _ rfl hk rfl rfl rfl fun a hk => ?_
  show wpList _ _ _ [] _ _
  refine wpList_nil ?_
  refine hK1 _ _ ?_
  apply wp_seq_k; intro K2 hK2
  apply wp_region_lit
  refine sm _ rfl hk rfl rfl rfl fun a hk => ?_
  refine sm _ rfl hk rfl rfl rfl fun a hk => ?_
  refine sm _ rfl hk rfl rfl rfl fun a hk => ?_
  refine sle rfl hk rfl rfl rfl un31 fun a hk => ?_
  refine sv (.int .i64 (w64 (x1 - (l0.length : Int)))) hk rfl rfl rfl fun a hk => ?_
  rcases ite_some H with ⟨c3, H⟩ | ⟨_, H⟩
  rotate_left
  · cases H
  refine sapn 1 (xs := l0) (z := 0) hs rfl v0_ (by first | exact ⟨rfl, rfl⟩ | exact lz3) rfl hk rfl rfl rfl rfl rfl un31 un3 mk3 rfl rfl rfl c3 fun A4 p5 k6 w a hk o7 hs => ?_
  obtain ⟨y8, h9, H⟩ := bind_some H
  refine sc rfl en151 hk rfl rfl rfl (impl_intsText_t _ A4 p5 (l0 ++ List.replicate (w64 (x1 - (l0.length : Int))).toNat 0) _ o7.view (hs.hasG (k := 1) rfl) _ h9) ?_
  rintro _ w ⟨rfl, hG⟩ a hk
  have hs := hs.call0 hG
  refine sa _ rfl hk rfl rfl rfl fun a hk => ?_
  show wpList _ _ _ [] _ _
  refine wpList_nil ?_
  refine hK2 _ _ ?_
  refine wp_ret ?_
  obtain rfl := Option.some.inj H
  exact fin hk _ [(.string y8)] rfl ⟨rfl, trivial⟩ ⟨rfl, (hs.pick [] rfl).dnil⟩

noncomputable def impl_blocksInts.s0 (l0 : List S_Block) (u15 : List Int) (u14 : Int) : Option (((List Int) × Int) ⊕ Ex ((List Int)) ((List Int))) :=
  (bif (decide (u14 < (l0.length : Int))) then (if 0 ≤ u14 ∧ u14 < (l0.length : Int) then (if u15.length + ([(l0.getD u14.toNat z_Block).Id, (l0.getD u14.toNat z_Block).Leaf, (l0.getD u14.toNat z_Block).Value]).length ≤ 1073741824 then (some (.inl ((u15 ++ ([(l0.getD u14.toNat z_Block).Id, (l0.getD u14.toNat z_Block).Leaf, (l0.getD u14.toNat z_Block).Value])), (w64 (u14 + 1))))) else none) else none) else (some (.inr (.out u15))))
noncomputable def impl_blocksInts.f (l0 : List S_Block) : Option ((List Int)) :=
  ((loopO (fun s => impl_blocksInts.s0 l0 s.1 s.2) ([(l0.length : Int)], 0)).bind fun o => match o with | .out u20 => (some u20) | .ret r => (some r))
set_option maxRecDepth 100000 in
set_option maxHeartbeats 0 in
theorem impl_blocksInts_t (w0 : World) (A0_ : Option Addr) (p0_ : Nat) (l0 : List S_Block) (k0_ : Chunk) (v0_ : View L_Block A0_ p0_ l0 k0_) (w0_ : Has w0 k0_) (r : (List Int)) (H : impl_blocksInts.f l0 = some r) :
    Calls Try.prog 109 #[.slice A0_ l0.length p0_] w0 (Ret (fun v w => ∃ (A0 : Option Addr) (p0 : Nat) (k0 : Chunk), v = .slice A0 r.length p0 ∧ Own (Lay.int .i64) 3 A0 p0 r k0 ∧ Sat [] w0 w [] [(0, k0)])) := by
  have hs : Sat [] w0 w0 [(1, k0_)] [] := Sat.init w0 [(1, k0_)] [] (by simp only [List.mem_cons, List.not_mem_nil, or_false]; rintro x (rfl) <;> assumption) (by simp) List.nodup_nil (by simp [blks])
  unfold impl_blocksInts.f at H
  refine enter Try.func109 rfl Try.ntmps109 rfl fun a hk => ?_
  apply wp_seq_k; intro K1 hK1
  apply wp_region_lit
  refine sa _ rfl hk rfl rfl rfl fun a hk => ?_
  show wpList _ _ _ [] _ _
  refine wpList_nil ?_
  refine hK1 _ _ ?_
  apply wp_seq_k; intro K2 hK2
  apply wp_region_lit
  refine sm _ rfl hk rfl rfl rfl fun a hk => ?_
  refine sle rfl hk rfl rfl rfl un26 fun a hk => ?_
  refine sbs (L := (Lay.int .i64)) (pv := [(0, (.int .i64 (l0.length : Int)))]) (xs := [(l0.length : Int)]) (ess := [[.int .i64 (l0.length : Int)]]) 2 hs rfl hk rfl rfl rfl un31 (bs3_1 (l0.length : Int)) (AllOwn.cons0 ⟨rfl, rfl⟩ AllOwn.nil) rfl rfl rfl fun b3 k4 w a hk o5 hs => ?_
  refine sa _ rfl hk rfl rfl rfl fun a hk => ?_
  show wpList _ _ _ [] _ _
  refine wpList_nil ?_
  refine hK2 _ _ ?_
  apply wp_seq_k; intro K6 hK6
  apply wp_seq_k; intro K7 hK7
  apply wp_region_lit
  refine sm _ rfl hk rfl rfl rfl fun a hk => ?_
  refine sle rfl hk rfl rfl rfl un26 fun a hk => ?_
  refine sm _ rfl hk rfl rfl rfl fun a hk => ?_
  show wpList _ _ _ [] _ _
  refine wpList_nil ?_
  refine hK7 _ _ ?_
  obtain ⟨o25, h26, HL27⟩ := bind_some H
  clear H
  obtain ⟨R28, hR28⟩ : ∃ R : Act → World → Prop, R = fun a w => ∃ (u20 : List Int) (A23 : Option Addr) (p24 : Nat) (k21 : Chunk), o25 = .out u20 ∧ Kn [(3, (.slice A23 u20.length p24))] 26 a ∧ Sat [] w0 w [(1, k0_)] [(2, k21)] ∧ Own (Lay.int .i64) 3 A23 p24 u20 k21 := ⟨_, rfl⟩
  refine wp_cutq R28 ?_ ?_
  · refine wp_block ?_
    obtain ⟨fu30, h26⟩ := loopO_some h26
    obtain ⟨I29, hI29⟩ : ∃ I : Nat → Act → World → Prop, I = fun fu a w => ∃ (u15 : List Int) (u14 : Int) (A18 : Option Addr) (p19 : Nat) (k16 : Chunk), loopN (fun s => impl_blocksInts.s0 l0 s.1 s.2) fu (u15, u14) = some o25 ∧ Kn [(3, (.slice A18 u15.length p19)), (9, (.slice A0_ l0.length p0_)), (10, (.int .i64 (l0.length : Int))), (11, (.int .i64 u14))] 26 a ∧ Sat [] w0 w [(1, k0_)] [(2, k16)] ∧ Own (Lay.int .i64) 3 A18 p19 u15 k16 := ⟨_, rfl⟩
    refine wp_loop_ghost I29 fu30 ?_ ?_
    · rw [hI29]
      exact ⟨[(l0.length : Int)], 0, (some ⟨b3, 0, none⟩), 1, _, h26, (hk.c 3 rfl (hk.c 9 rfl (hk.c 10 rfl (hk.c 11 rfl hk.k)))), (hs.pick [(2, 2)] rfl), o5⟩
    · clear h26 hk hs
      intro fu30 a w hI0
      rw [hI29] at hI0
      obtain ⟨u15, u14, A18, p19, k16, hi, hk, hs, o17⟩ := hI0
      obtain ⟨x31, H, h32⟩ := loop_round hi
      try dsimp only at H
      unfold impl_blocksInts.s0 at H
      apply wp_seq_k; intro K33 hK33
      apply wp_region_lit
      refine sv (.bool (decide (u14 < (l0.length : Int)))) hk rfl rfl rfl fun a hk => ?_
      show wpList _ _ _ [] _ _
      refine wpList_nil ?_
      refine hK33 _ _ ?_
      apply wp_seq_k; intro K34 hK34
      rcases cond_some H with ⟨c35, H⟩ | ⟨c35, H⟩
      · have hk := hk.lit 12 c35 rfl
        refine cnd_true hk rfl rfl ?_
        refine wp_skip ?_
        refine hK34 _ _ ?_
        apply wp_seq_k; intro K36 hK36
        refine wp_block ?_
        apply wp_seq_k; intro K37 hK37
        apply wp_region_lit
        rcases ite_some H with ⟨c38, H⟩ | ⟨_, H⟩
        rotate_left
        · cases H
        obtain ⟨b39, q40, hAc38⟩ := (v0_).some_ u14 c38.1 c38.2
        refine si rfl hk rfl rfl rfl rfl un26 sz81 c38.1 c38.2 hAc38 fun a hk => ?_
        obtain ⟨_, rfl, e41⟩ := (v0_).at_ z_Block u14 c38.1 c38.2
        refine sln [.int .i64 ((l0.getD u14.toNat z_Block).Id), .int .i64 ((l0.getD u14.toNat z_Block).Leaf), .int .i64 ((l0.getD u14.toNat z_Block).Value)] rfl hk rfl rfl rfl ag81 sz81 (cells_at e41 (hs.hasD (k := 1) rfl)) fun a hk => ?_
        refine salx 4 hs rfl hk rfl rfl ze81 rfl fun b42 w a hk hs => ?_
        refine ssw 4 hs rfl rfl hk rfl rfl rfl rfl sz81 (by simp [Value.oneCell']) rfl fun w a hk hs => ?_
        show wpList _ _ _ [] _ _
        refine wpList_nil ?_
        refine hK37 _ _ ?_
        apply wp_region_lit
        refine sm _ rfl hk rfl rfl rfl fun a hk => ?_
        refine sf ⟨b42, 0, none⟩ rfl hk rfl rfl rfl fd81_0 rfl fun a hk => ?_
        refine sl rfl hk rfl rfl rfl ag3 (box_cell hs (k := 4) rfl rfl) fun a hk => ?_
        refine sf ⟨b42, 1, none⟩ rfl hk rfl rfl rfl fd81_1 rfl fun a hk => ?_
        refine sl rfl hk rfl rfl rfl ag3 (box_cell hs (k := 4) rfl rfl) fun a hk => ?_
        refine sf ⟨b42, 2, none⟩ rfl hk rfl rfl rfl fd81_2 rfl fun a hk => ?_
        refine sl rfl hk rfl rfl rfl ag3 (box_cell hs (k := 4) rfl rfl) fun a hk => ?_
        refine sbs (L := (Lay.int .i64)) (pv := [(0, (.int .i64 ((l0.getD u14.toNat z_Block).Id))), (1, (.int .i64 ((l0.getD u14.toNat z_Block).Leaf))), (2, (.int .i64 ((l0.getD u14.toNat z_Block).Value)))]) (xs := [(l0.getD u14.toNat z_Block).Id, (l0.getD u14.toNat z_Block).Leaf, (l0.getD u14.toNat z_Block).Value]) (ess := [[.int .i64 ((l0.getD u14.toNat z_Block).Id)], [.int .i64 ((l0.getD u14.toNat z_Block).Leaf)], [.int .i64 ((l0.getD u14.toNat z_Block).Value)]]) 5 hs rfl hk rfl rfl rfl un31 (bs3_2 ((l0.getD u14.toNat z_Block).Id) ((l0.getD u14.toNat z_Block).Leaf) ((l0.getD u14.toNat z_Block).Value)) (AllOwn.cons0 ⟨rfl, rfl⟩ (AllOwn.cons0 ⟨rfl, rfl⟩ (AllOwn.cons0 ⟨rfl, rfl⟩ AllOwn.nil))) rfl rfl rfl fun b43 k44 w a hk o45 hs => ?_
        rcases ite_some H with ⟨c46, H⟩ | ⟨_, H⟩
        rotate_left
        · cases H
        refine sap 2 (xs := u15) (ys := [(l0.getD u14.toNat z_Block).Id, (l0.getD u14.toNat z_Block).Leaf, (l0.getD u14.toNat z_Block).Value]) (flat_flat : ((Lay.int .i64)).Flat) hs rfl o17 o45.view (hs.hasG (k := 5) rfl) rfl hk rfl rfl rfl rfl rfl rfl un31 mk3 rfl rfl rfl c46 fun A47 p48 k49 w a hk o50 hs => ?_
        refine sa _ rfl hk rfl rfl rfl fun a hk => ?_
        show wpList _ _ _ [] _ _
        refine wpList_nil ?_
        refine hK36 _ _ ?_
        apply wp_region_lit
        refine sv (.int .i64 (w64 (u14 + 1))) hk rfl rfl rfl fun a hk => ?_
        refine sm _ rfl hk rfl rfl rfl fun a hk => ?_
        show wpList _ _ _ [] _ _
        refine wpList_nil ?_
        obtain rfl := Option.some.inj H
        obtain ⟨m51, hmm51, h32⟩ := h32
        show ∃ n', n' < _ ∧ I29 n' _ _
        refine ⟨m51, hmm51, ?_⟩
        rw [hI29]
        exact ⟨(u15 ++ ([(l0.getD u14.toNat z_Block).Id, (l0.getD u14.toNat z_Block).Leaf, (l0.getD u14.toNat z_Block).Value])), (w64 (u14 + 1)), A47, p48, _, h32, (hk.c 3 rfl (hk.c 9 rfl (hk.c 10 rfl (hk.c 11 rfl hk.k)))), (hs.pick [(2, 2)] rfl), o50⟩
      · have hk := hk.lit 12 c35 rfl
        refine cnd_false hk rfl rfl ?_
        refine wp_exit ?_
        obtain rfl := Option.some.inj H
        show R28 _ _
        rw [hR28]
        exact ⟨u15, A18, p19, _, h32.symm, (hk.c 3 rfl hk.k), (hs.pick [(2, 2)] rfl), o17⟩
  · intro a w hR0
    rw [hR28] at hR0
    obtain ⟨u20, A23, p24, k21, rfl, hk, hs, o22⟩ := hR0
    have H := HL27
    try dsimp only at H
    refine hK6 _ _ ?_
    apply wp_seq_k; intro K52 hK52
    apply wp_region_lit
    refine sm _ rfl hk rfl rfl rfl fun a hk => ?_
    refine sa _ rfl hk rfl rfl rfl fun a hk => ?_
    show wpList _ _ _ [] _ _
    refine wpList_nil ?_
    refine hK52 _ _ ?_
    refine wp_ret ?_
    obtain rfl := Option.some.inj H
    exact fin hk _ [(.slice A23 u20.length p24)] rfl ⟨rfl, trivial⟩ ⟨A23, p24, _, rfl, o22, (hs.pick [(0, 2)] rfl).dnil⟩

noncomputable def impl_bucketText.f (l0 : List S_Block) : Option (ByteArray) :=
  ((impl_blocksInts.f l0).bind fun y3 => ((impl_textOf.f y3 7).bind fun y9 => (some y9)))
set_option maxRecDepth 100000 in
set_option maxHeartbeats 0 in
theorem impl_bucketText_t (w0 : World) (A0_ : Option Addr) (p0_ : Nat) (l0 : List S_Block) (k0_ : Chunk) (v0_ : View L_Block A0_ p0_ l0 k0_) (w0_ : Has w0 k0_) (r : ByteArray) (H : impl_bucketText.f l0 = some r) :
    Calls Try.prog 58 #[.slice A0_ l0.length p0_] w0 (Ret (fun v w => v = .string r ∧ Sat [] w0 w [] [])) := by
  have hs : Sat [] w0 w0 [(1, k0_)] [] := Sat.init w0 [(1, k0_)] [] (by simp only [List.mem_cons, List.not_mem_nil, or_false]; rintro x (rfl) <;> assumption) (by simp) List.nodup_nil (by simp [blks])
  unfold impl_bucketText.f at H
  refine enter Try.func58 rfl Try.ntmps58 rfl fun a hk => ?_
  apply wp_seq_k; intro K1 hK1
  apply wp_region_lit
  refine sa _ rfl hk rfl rfl rfl fun a hk => ?_
  show wpList _ _ _ [] _ _
  refine wpList_nil ?_
  refine hK1 _ _ ?_
  apply wp_seq_k; intro K2 hK2
  apply wp_region_lit
  refine sm _ rfl hk rfl rfl rfl fun a hk => ?_
  obtain ⟨y3, h4, H⟩ := bind_some H
  refine sc rfl en109 hk rfl rfl rfl (impl_blocksInts_t _ A0_ p0_ l0 _ v0_ (hs.hasD (k := 1) rfl) _ h4) ?_
  rintro _ w ⟨A5, p6, k7, rfl, o8, hG⟩ a hk
  have hs := hs.call0k hG [2] rfl
  obtain ⟨y9, h10, H⟩ := bind_some H
  refine sc rfl en108 hk rfl rfl rfl (impl_textOf_t _ A5 p6 y3 _ o8 7 ((hs.hand [(1, 2)] rfl).dpick [] rfl) _ h10) ?_
  rintro _ w ⟨rfl, hG⟩ a hk
  have hs := hs.back [(1, 2)] rfl hG [] rfl
  refine sa _ rfl hk rfl rfl rfl fun a hk => ?_
  show wpList _ _ _ [] _ _
  refine wpList_nil ?_
  refine hK2 _ _ ?_
  refine wp_ret ?_
  obtain rfl := Option.some.inj H
  exact fin hk _ [(.string y9)] rfl ⟨rfl, trivial⟩ ⟨rfl, (hs.pick [] rfl).dnil⟩

noncomputable def impl_BucketText.f (l0 : List S_Block) : Option (ByteArray × Int) :=
  (bif (decide ((l0.length : Int) > 4096)) then (some ((⟨#[]⟩ : ByteArray), 2)) else (((bif (decide ((l0.length : Int) > 2)) then (some true) else ((impl_areAll_impl_Block.f l0 impl_isBlock.f).bind fun y14 => (some (!y14)))) : Option (Bool)).bind fun u8 => (bif u8 then (some ((⟨#[]⟩ : ByteArray), 1)) else ((impl_bucketText.f l0).bind fun y19 => (some (y19, 0))))))
set_option maxRecDepth 100000 in
set_option maxHeartbeats 0 in
theorem impl_BucketText_t (w0 : World) (A0_ : Option Addr) (p0_ : Nat) (l0 : List S_Block) (k0_ : Chunk) (v0_ : View L_Block A0_ p0_ l0 k0_) (w0_ : Has w0 k0_) (r : ByteArray × Int) (H : impl_BucketText.f l0 = some r) :
    Calls Try.prog 14 #[.slice A0_ l0.length p0_] w0 (Ret (fun v w => v = .tuple #[.string r.1, .int .i64 r.2] ∧ Sat [] w0 w [] [])) := by
  have hs : Sat [] w0 w0 [(1, k0_)] [] := Sat.init w0 [(1, k0_)] [] (by simp only [List.mem_cons, List.not_mem_nil, or_false]; rintro x (rfl) <;> assumption) (by simp) List.nodup_nil (by simp [blks])
  unfold impl_BucketText.f at H
  refine enter Try.func14 rfl Try.ntmps14 rfl fun a hk => ?_
  apply wp_seq_k; intro K1 hK1
  apply wp_region_lit
  refine sa _ rfl hk rfl rfl rfl fun a hk => ?_
  refine sa _ rfl hk rfl rfl rfl fun a hk => ?_
  show wpList _ _ _ [] _ _
  refine wpList_nil ?_
  refine hK1 _ _ ?_
  apply wp_seq_k; intro K2 hK2
  refine wp_block ?_
  apply wp_seq_k; intro K3 hK3
  apply wp_region_lit
  refine sm _ rfl hk rfl rfl rfl fun a hk => ?_
  refine sle rfl hk rfl rfl rfl un26 fun a hk => ?_
  refine sv (.bool (decide ((l0.length : Int) > 4096))) hk rfl rfl rfl fun a hk => ?_
  refine sa _ rfl hk rfl rfl rfl fun a hk => ?_
  show wpList _ _ _ [] _ _
  refine wpList_nil ?_
  refine hK3 _ _ ?_
  rcases cond_some H with ⟨c4, H⟩ | ⟨c4, H⟩
  · have hk := hk.lit 4 c4 rfl
    refine cnd_true hk rfl rfl ?_
    apply wp_seq_k; intro K5 hK5
    apply wp_region_lit
    refine sa _ rfl hk rfl rfl rfl fun a hk => ?_
    refine sa _ rfl hk rfl rfl rfl fun a hk => ?_
    show wpList _ _ _ [] _ _
    refine wpList_nil ?_
    refine hK5 _ _ ?_
    refine wp_ret ?_
    obtain rfl := Option.some.inj H
    exact fin hk _ [(.string (⟨#[]⟩ : ByteArray)), (.int .i64 2)] rfl ⟨rfl, ⟨rfl, trivial⟩⟩ ⟨rfl, (hs.pick [] rfl).dnil⟩
  · have hk := hk.lit 4 c4 rfl
    refine cnd_false hk rfl rfl ?_
    apply wp_seq_k; intro K6 hK6
    obtain ⟨o9, h10, HL11⟩ := bind_some H
    clear H
    obtain ⟨R12, hR12⟩ : ∃ R : Act → World → Prop, R = fun a w => ∃ (u8 : Bool), u8 = o9 ∧ Kn [(0, (.slice A0_ l0.length p0_)), (8, (.bool u8))] 19 a ∧ Sat [] w0 w [(1, k0_)] [] := ⟨_, rfl⟩
    refine wp_cutq R12 ?_ ?_
    · have H := h10
      apply wp_region_lit
      refine sm _ rfl hk rfl rfl rfl fun a hk => ?_
      refine sle rfl hk rfl rfl rfl un26 fun a hk => ?_
      refine sv (.bool (decide ((l0.length : Int) > 2))) hk rfl rfl rfl fun a hk => ?_
      refine sm _ rfl hk rfl rfl rfl fun a hk => ?_
      rcases cond_some H with ⟨c13, H⟩ | ⟨c13, H⟩
      · have hk := hk.lit 12 c13 rfl
        refine sk hk rfl rfl rfl fun a hk => ?_
        refine sk hk rfl rfl rfl fun a hk => ?_
        refine sk hk rfl rfl rfl fun a hk => ?_
        refine sv (.bool true) hk rfl rfl rfl fun a hk => ?_
        refine sa _ rfl hk rfl rfl rfl fun a hk => ?_
        show wpList _ _ _ [] _ _
        refine wpList_nil ?_
        obtain rfl := Option.some.inj H
        show R12 _ _
        rw [hR12]
        exact ⟨true, rfl, (hk.c 0 rfl (hk.c 8 rfl hk.k)), (hs.pick [] rfl)⟩
      · have hk := hk.lit 12 c13 rfl
        refine sm _ rfl hk rfl rfl rfl fun a hk => ?_
        obtain ⟨y14, h15, H⟩ := bind_some H
        refine sc rfl en56 hk rfl rfl rfl (impl_areAll_impl_Block_t _ A0_ p0_ l0 _ v0_ (hs.hasD (k := 1) rfl) 57 [] en57 impl_isBlock.f [] (fun w _ z0 r h => impl_isBlock_t w z0 r h) (Has.nil _) _ h15) ?_
        rintro _ w ⟨rfl, hG⟩ a hk
        have hs := hs.call0 hG
        refine sv (.bool (!y14)) hk rfl rfl rfl fun a hk => ?_
        refine sv (.bool (!y14)) hk rfl rfl rfl fun a hk => ?_
        refine sa _ rfl hk rfl rfl rfl fun a hk => ?_
        show wpList _ _ _ [] _ _
        refine wpList_nil ?_
        obtain rfl := Option.some.inj H
        show R12 _ _
        rw [hR12]
        exact ⟨(!y14), rfl, (hk.c 0 rfl (hk.c 8 rfl hk.k)), (hs.pick [] rfl)⟩
    · intro a w hR0
      rw [hR12] at hR0
      obtain ⟨u8, rfl, hk, hs⟩ := hR0
      have H := HL11
      try dsimp only at H
      refine hK6 _ _ ?_
      rcases cond_some H with ⟨c16, H⟩ | ⟨c16, H⟩
      · have hk := hk.lit 8 c16 rfl
        refine cnd_true hk rfl rfl ?_
        apply wp_seq_k; intro K17 hK17
        apply wp_region_lit
        refine sa _ rfl hk rfl rfl rfl fun a hk => ?_
        refine sa _ rfl hk rfl rfl rfl fun a hk => ?_
        show wpList _ _ _ [] _ _
        refine wpList_nil ?_
        refine hK17 _ _ ?_
        refine wp_ret ?_
        obtain rfl := Option.some.inj H
        exact fin hk _ [(.string (⟨#[]⟩ : ByteArray)), (.int .i64 1)] rfl ⟨rfl, ⟨rfl, trivial⟩⟩ ⟨rfl, (hs.pick [] rfl).dnil⟩
      · have hk := hk.lit 8 c16 rfl
        refine cnd_false hk rfl rfl ?_
        refine wp_skip ?_
        refine hK2 _ _ ?_
        apply wp_seq_k; intro K18 hK18
        apply wp_region_lit
        refine sm _ rfl hk rfl rfl rfl fun a hk => ?_
        obtain ⟨y19, h20, H⟩ := bind_some H
        refine sc rfl en58 hk rfl rfl rfl (impl_bucketText_t _ A0_ p0_ l0 _ v0_ (hs.hasD (k := 1) rfl) _ h20) ?_
        rintro _ w ⟨rfl, hG⟩ a hk
        have hs := hs.call0 hG
        refine sa _ rfl hk rfl rfl rfl fun a hk => ?_
        refine sa _ rfl hk rfl rfl rfl fun a hk => ?_
        show wpList _ _ _ [] _ _
        refine wpList_nil ?_
        refine hK18 _ _ ?_
        refine wp_ret ?_
        obtain rfl := Option.some.inj H
        exact fin hk _ [(.string y19), (.int .i64 0)] rfl ⟨rfl, ⟨rfl, trivial⟩⟩ ⟨rfl, (hs.pick [] rfl).dnil⟩

noncomputable def laws_eqBlock.f (x0 : S_Block) (x1 : S_Block) : Option (Bool) :=
  (bif (x0.Id != x1.Id) then (some false) else (bif (x0.Leaf != x1.Leaf) then (some false) else (bif (x0.Value != x1.Value) then (some false) else (some true))))
set_option maxRecDepth 100000 in
set_option maxHeartbeats 0 in
theorem laws_eqBlock_t (w0 : World) (x0 : S_Block) (x1 : S_Block) (r : Bool) (H : laws_eqBlock.f x0 x1 = some r) :
    Calls Try.prog 59 #[.agg #[.int .i64 x0.Id, .int .i64 x0.Leaf, .int .i64 x0.Value], .agg #[.int .i64 x1.Id, .int .i64 x1.Leaf, .int .i64 x1.Value]] w0 (Ret (fun v w => v = .bool r ∧ Sat [] w0 w [] [])) := by
  have hs : Sat [] w0 w0 [] [] := Sat.init w0 [] [] (by simp) (by simp) List.nodup_nil (by simp [blks])
  unfold laws_eqBlock.f at H
  refine enter Try.func59 rfl Try.ntmps59 rfl fun a hk => ?_
  apply wp_seq_k; intro K1 hK1
  apply wp_region_lit
  refine sbx 1 hs rfl hk rfl rfl rfl rfl fun b2 w a hk hs => ?_
  refine sbx 2 hs rfl hk rfl rfl rfl rfl fun b3 w a hk hs => ?_
  refine sa _ rfl hk rfl rfl rfl fun a hk => ?_
  show wpList _ _ _ [] _ _
  refine wpList_nil ?_
  refine hK1 _ _ ?_
  apply wp_seq_k; intro K4 hK4
  apply wp_seq_k; intro K5 hK5
  apply wp_region_lit
  refine sf ⟨b2, 0, none⟩ rfl hk rfl rfl rfl fd81_0 rfl fun a hk => ?_
  refine sl rfl hk rfl rfl rfl ag3 (box_cell hs (k := 1) rfl rfl) fun a hk => ?_
  refine sf ⟨b3, 0, none⟩ rfl hk rfl rfl rfl fd81_0 rfl fun a hk => ?_
  refine sl rfl hk rfl rfl rfl ag3 (box_cell hs (k := 2) rfl rfl) fun a hk => ?_
  refine sv (.bool (x0.Id != x1.Id)) hk rfl rfl rfl fun a hk => ?_
  show wpList _ _ _ [] _ _
  refine wpList_nil ?_
  refine hK5 _ _ ?_
  rcases cond_some H with ⟨c6, H⟩ | ⟨c6, H⟩
  · have hk := hk.lit 9 c6 rfl
    refine cnd_true hk rfl rfl ?_
    apply wp_seq_k; intro K7 hK7
    apply wp_region_lit
    refine sa _ rfl hk rfl rfl rfl fun a hk => ?_
    show wpList _ _ _ [] _ _
    refine wpList_nil ?_
    refine hK7 _ _ ?_
    refine wp_ret ?_
    obtain rfl := Option.some.inj H
    exact fin hk _ [(.bool false)] rfl ⟨rfl, trivial⟩ ⟨rfl, (hs.pick [] rfl).dnil⟩
  · have hk := hk.lit 9 c6 rfl
    refine cnd_false hk rfl rfl ?_
    refine wp_skip ?_
    refine hK4 _ _ ?_
    apply wp_seq_k; intro K8 hK8
    apply wp_seq_k; intro K9 hK9
    apply wp_region_lit
    refine sf ⟨b2, 1, none⟩ rfl hk rfl rfl rfl fd81_1 rfl fun a hk => ?_
    refine sl rfl hk rfl rfl rfl ag3 (box_cell hs (k := 1) rfl rfl) fun a hk => ?_
    refine sf ⟨b3, 1, none⟩ rfl hk rfl rfl rfl fd81_1 rfl fun a hk => ?_
    refine sl rfl hk rfl rfl rfl ag3 (box_cell hs (k := 2) rfl rfl) fun a hk => ?_
    refine sv (.bool (x0.Leaf != x1.Leaf)) hk rfl rfl rfl fun a hk => ?_
    show wpList _ _ _ [] _ _
    refine wpList_nil ?_
    refine hK9 _ _ ?_
    rcases cond_some H with ⟨c10, H⟩ | ⟨c10, H⟩
    · have hk := hk.lit 14 c10 rfl
      refine cnd_true hk rfl rfl ?_
      apply wp_seq_k; intro K11 hK11
      apply wp_region_lit
      refine sa _ rfl hk rfl rfl rfl fun a hk => ?_
      show wpList _ _ _ [] _ _
      refine wpList_nil ?_
      refine hK11 _ _ ?_
      refine wp_ret ?_
      obtain rfl := Option.some.inj H
      exact fin hk _ [(.bool false)] rfl ⟨rfl, trivial⟩ ⟨rfl, (hs.pick [] rfl).dnil⟩
    · have hk := hk.lit 14 c10 rfl
      refine cnd_false hk rfl rfl ?_
      refine wp_skip ?_
      refine hK8 _ _ ?_
      apply wp_seq_k; intro K12 hK12
      apply wp_seq_k; intro K13 hK13
      apply wp_region_lit
      refine sf ⟨b2, 2, none⟩ rfl hk rfl rfl rfl fd81_2 rfl fun a hk => ?_
      refine sl rfl hk rfl rfl rfl ag3 (box_cell hs (k := 1) rfl rfl) fun a hk => ?_
      refine sf ⟨b3, 2, none⟩ rfl hk rfl rfl rfl fd81_2 rfl fun a hk => ?_
      refine sl rfl hk rfl rfl rfl ag3 (box_cell hs (k := 2) rfl rfl) fun a hk => ?_
      refine sv (.bool (x0.Value != x1.Value)) hk rfl rfl rfl fun a hk => ?_
      show wpList _ _ _ [] _ _
      refine wpList_nil ?_
      refine hK13 _ _ ?_
      rcases cond_some H with ⟨c14, H⟩ | ⟨c14, H⟩
      · have hk := hk.lit 19 c14 rfl
        refine cnd_true hk rfl rfl ?_
        apply wp_seq_k; intro K15 hK15
        apply wp_region_lit
        refine sa _ rfl hk rfl rfl rfl fun a hk => ?_
        show wpList _ _ _ [] _ _
        refine wpList_nil ?_
        refine hK15 _ _ ?_
        refine wp_ret ?_
        obtain rfl := Option.some.inj H
        exact fin hk _ [(.bool false)] rfl ⟨rfl, trivial⟩ ⟨rfl, (hs.pick [] rfl).dnil⟩
      · have hk := hk.lit 19 c14 rfl
        refine cnd_false hk rfl rfl ?_
        refine wp_skip ?_
        refine hK12 _ _ ?_
        apply wp_seq_k; intro K16 hK16
        apply wp_region_lit
        refine sa _ rfl hk rfl rfl rfl fun a hk => ?_
        show wpList _ _ _ [] _ _
        refine wpList_nil ?_
        refine hK16 _ _ ?_
        refine wp_ret ?_
        obtain rfl := Option.some.inj H
        exact fin hk _ [(.bool true)] rfl ⟨rfl, trivial⟩ ⟨rfl, (hs.pick [] rfl).dnil⟩

noncomputable def laws_eqBlockS.s0 (l0 : List S_Block) (l1 : List S_Block) (u10 : Int) : Option ((Int) ⊕ Ex (Unit) (Bool)) :=
  (bif (decide (u10 < (l0.length : Int))) then (if 0 ≤ u10 ∧ u10 < (l0.length : Int) then (if 0 ≤ u10 ∧ u10 < (l1.length : Int) then ((laws_eqBlock.f (l0.getD u10.toNat z_Block) (l1.getD u10.toNat z_Block)).bind fun y33 => (bif (!y33) then (some (.inr (.ret false))) else (some (.inl (w64 (u10 + 1)))))) else none) else none) else (some (.inr (.out ()))))
noncomputable def laws_eqBlockS.f (l0 : List S_Block) (l1 : List S_Block) : Option (Bool) :=
  (bif ((l0.length : Int) != (l1.length : Int)) then (some false) else ((loopO (fun s => laws_eqBlockS.s0 l0 l1 s) 0).bind fun o => match o with | .out _ => (some true) | .ret r => (some r)))
set_option maxRecDepth 100000 in
set_option maxHeartbeats 0 in
theorem laws_eqBlockS_t (w0 : World) (A0_ : Option Addr) (p0_ : Nat) (l0 : List S_Block) (k0_ : Chunk) (v0_ : View L_Block A0_ p0_ l0 k0_) (w0_ : Has w0 k0_) (A1_ : Option Addr) (p1_ : Nat) (l1 : List S_Block) (k1_ : Chunk) (v1_ : View L_Block A1_ p1_ l1 k1_) (w1_ : Has w0 k1_) (r : Bool) (H : laws_eqBlockS.f l0 l1 = some r) :
    Calls Try.prog 15 #[.slice A0_ l0.length p0_, .slice A1_ l1.length p1_] w0 (Ret (fun v w => v = .bool r ∧ Sat [] w0 w [] [])) := by
  have hs : Sat [] w0 w0 [(1, k0_), (2, k1_)] [] := Sat.init w0 [(1, k0_), (2, k1_)] [] (by simp only [List.mem_cons, List.not_mem_nil, or_false]; rintro x (rfl | rfl) <;> assumption) (by simp) List.nodup_nil (by simp [blks])
  unfold laws_eqBlockS.f at H
  refine enter Try.func15 rfl Try.ntmps15 rfl fun a hk => ?_
  apply wp_seq_k; intro K1 hK1
  apply wp_region_lit
  refine sa _ rfl hk rfl rfl rfl fun a hk => ?_
  show wpList _ _ _ [] _ _
  refine wpList_nil ?_
  refine hK1 _ _ ?_
  apply wp_seq_k; intro K2 hK2
  apply wp_seq_k; intro K3 hK3
  apply wp_region_lit
  refine sm _ rfl hk rfl rfl rfl fun a hk => ?_
  refine sle rfl hk rfl rfl rfl un26 fun a hk => ?_
  refine sm _ rfl hk rfl rfl rfl fun a hk => ?_
  refine sle rfl hk rfl rfl rfl un26 fun a hk => ?_
  refine sv (.bool ((l0.length : Int) != (l1.length : Int))) hk rfl rfl rfl fun a hk => ?_
  show wpList _ _ _ [] _ _
  refine wpList_nil ?_
  refine hK3 _ _ ?_
  rcases cond_some H with ⟨c4, H⟩ | ⟨c4, H⟩
  · have hk := hk.lit 10 c4 rfl
    refine cnd_true hk rfl rfl ?_
    apply wp_seq_k; intro K5 hK5
    apply wp_region_lit
    refine sa _ rfl hk rfl rfl rfl fun a hk => ?_
    show wpList _ _ _ [] _ _
    refine wpList_nil ?_
    refine hK5 _ _ ?_
    refine wp_ret ?_
    obtain rfl := Option.some.inj H
    exact fin hk _ [(.bool false)] rfl ⟨rfl, trivial⟩ ⟨rfl, (hs.pick [] rfl).dnil⟩
  · have hk := hk.lit 10 c4 rfl
    refine cnd_false hk rfl rfl ?_
    refine wp_skip ?_
    refine hK2 _ _ ?_
    apply wp_seq_k; intro K6 hK6
    apply wp_seq_k; intro K7 hK7
    apply wp_region_lit
    refine sa _ rfl hk rfl rfl rfl fun a hk => ?_
    show wpList _ _ _ [] _ _
    refine wpList_nil ?_
    refine hK7 _ _ ?_
    obtain ⟨o11, h12, HL13⟩ := bind_some H
    clear H
    obtain ⟨R14, hR14⟩ : ∃ R : Act → World → Prop, R = fun a w => o11 = .out () ∧ Kn [] 27 a ∧ Sat [] w0 w [(1, k0_), (2, k1_)] [] := ⟨_, rfl⟩
    refine wp_cutq R14 ?_ ?_
    · refine wp_block ?_
      obtain ⟨fu16, h12⟩ := loopO_some h12
      obtain ⟨I15, hI15⟩ : ∃ I : Nat → Act → World → Prop, I = fun fu a w => ∃ (u10 : Int), loopN (fun s => laws_eqBlockS.s0 l0 l1 s) fu u10 = some o11 ∧ Kn [(0, (.slice A0_ l0.length p0_)), (1, (.slice A1_ l1.length p1_)), (5, (.int .i64 u10))] 27 a ∧ Sat [] w0 w [(1, k0_), (2, k1_)] [] := ⟨_, rfl⟩
      refine wp_loop_ghost I15 fu16 ?_ ?_
      · rw [hI15]
        exact ⟨0, h12, (hk.c 0 rfl (hk.c 1 rfl (hk.c 5 rfl hk.k))), (hs.pick [] rfl)⟩
      · clear h12 hk hs
        intro fu16 a w hI0
        rw [hI15] at hI0
        obtain ⟨u10, hi, hk, hs⟩ := hI0
        obtain ⟨x17, H, h18⟩ := loop_round hi
        try dsimp only at H
        unfold laws_eqBlockS.s0 at H
        apply wp_seq_k; intro K19 hK19
        apply wp_seq_k; intro K20 hK20
        apply wp_region_lit
        refine sm _ rfl hk rfl rfl rfl fun a hk => ?_
        refine sm _ rfl hk rfl rfl rfl fun a hk => ?_
        refine sle rfl hk rfl rfl rfl un26 fun a hk => ?_
        refine sv (.bool (decide (u10 < (l0.length : Int)))) hk rfl rfl rfl fun a hk => ?_
        show wpList _ _ _ [] _ _
        refine wpList_nil ?_
        refine hK20 _ _ ?_
        rcases cond_some H with ⟨c21, H⟩ | ⟨c21, H⟩
        · have hk := hk.lit 14 c21 rfl
          refine cnd_true hk rfl rfl ?_
          refine wp_skip ?_
          refine hK19 _ _ ?_
          apply wp_seq_k; intro K22 hK22
          refine wp_block ?_
          apply wp_seq_k; intro K23 hK23
          refine wp_region_tree (.q 0 (.q 1 (.q 2 (.q 3 (.q 4 (.alt 5 (.alt 6 (.alt 7 (.alt 8 (.alt 9 .done .stop) .stop) .stop) .stop) .stop)))))) mo (by kernel_rfl) (hs.pick [] rfl) fun _ => ?_
          have hs := hs.drew
          refine tqst (.slice A0_ l0.length p0_) hk rfl rfl rfl rfl (fun w hs => sm _ rfl hk rfl rfl rfl fun a hk => qe hk) fun a hk => ?_
          refine tqst (.int .i64 u10) hk rfl rfl rfl rfl (fun w hs => sm _ rfl hk rfl rfl rfl fun a hk => qe hk) fun a hk => ?_
          rcases ite_some H with ⟨c25, H⟩ | ⟨_, H⟩
          rotate_left
          · cases H
          obtain ⟨b26, q27, hAc25⟩ := (v0_).some_ u10 c25.1 c25.2
          refine tqst (.pointer (some (padd A0_ (u10.toNat * 3)))) hk rfl rfl rfl rfl (fun w hs => si rfl hk rfl rfl rfl rfl un26 sz81 c25.1 c25.2 hAc25 fun a hk => qe hk) fun a hk => ?_
          obtain ⟨_, rfl, e28⟩ := (v0_).at_ z_Block u10 c25.1 c25.2
          refine tqst (.agg #[.int .i64 ((l0.getD u10.toNat z_Block).Id), .int .i64 ((l0.getD u10.toNat z_Block).Leaf), .int .i64 ((l0.getD u10.toNat z_Block).Value)]) hk rfl rfl rfl rfl (fun w hs => sln [.int .i64 ((l0.getD u10.toNat z_Block).Id), .int .i64 ((l0.getD u10.toNat z_Block).Leaf), .int .i64 ((l0.getD u10.toNat z_Block).Value)] rfl hk rfl rfl rfl ag81 sz81 (cells_at e28 (hs.hasD (k := 1) rfl)) fun a hk => qe hk) fun a hk => ?_
          refine tqst (.slice A1_ l1.length p1_) hk rfl rfl rfl rfl (fun w hs => sm _ rfl hk rfl rfl rfl fun a hk => qe hk) fun a hk => ?_
          refine tsst hk rfl rfl (fun K_r24_5 hK_r24_5 w hF => ?_) wt_stop
          have hs := hs.f hF
          refine sm _ rfl hk rfl rfl rfl fun a hk => ?_
          refine se (hs.pick [] rfl) hk (hK_r24_5 _ _ ?_)
          refine tsst hk rfl rfl (fun K_r24_6 hK_r24_6 w hF => ?_) wt_stop
          have hs := hs.f hF
          rcases ite_some H with ⟨c29, H⟩ | ⟨_, H⟩
          rotate_left
          · cases H
          obtain ⟨b30, q31, hAc29⟩ := (v1_).some_ u10 c29.1 c29.2
          refine si rfl hk rfl rfl rfl rfl un26 sz81 c29.1 c29.2 hAc29 fun a hk => ?_
          refine se (hs.pick [] rfl) hk (hK_r24_6 _ _ ?_)
          refine tsst hk rfl rfl (fun K_r24_7 hK_r24_7 w hF => ?_) wt_stop
          have hs := hs.f hF
          obtain ⟨_, rfl, e32⟩ := (v1_).at_ z_Block u10 c29.1 c29.2
          refine sln [.int .i64 ((l1.getD u10.toNat z_Block).Id), .int .i64 ((l1.getD u10.toNat z_Block).Leaf), .int .i64 ((l1.getD u10.toNat z_Block).Value)] rfl hk rfl rfl rfl ag81 sz81 (cells_at e32 (hs.hasD (k := 2) rfl)) fun a hk => ?_
          refine se (hs.pick [] rfl) hk (hK_r24_7 _ _ ?_)
          refine tsst hk rfl rfl (fun K_r24_8 hK_r24_8 w hF => ?_) wt_stop
          have hs := hs.f hF
          obtain ⟨y33, h34, H⟩ := bind_some H
          refine sc rfl en59 hk rfl rfl rfl (laws_eqBlock_t _ (l0.getD u10.toNat z_Block) (l1.getD u10.toNat z_Block) _ h34) ?_
          rintro _ w ⟨rfl, hG⟩ a hk
          have hs := hs.call0 hG
          refine se (hs.pick [] rfl) hk (hK_r24_8 _ _ ?_)
          refine tsst hk rfl rfl (fun K_r24_9 hK_r24_9 w hF => ?_) wt_stop
          have hs := hs.f hF
          refine sv (.bool (!y33)) hk rfl rfl rfl fun a hk => ?_
          refine se (hs.pick [] rfl) hk (hK_r24_9 _ _ ?_)
          refine wtl_nil fun w hF _ => ?_
          have hs := hs.f hF
          refine hK23 _ _ ?_
          rcases cond_some H with ⟨c35, H⟩ | ⟨c35, H⟩
          · have hk := hk.lit 26 c35 rfl
            refine cnd_true hk rfl rfl ?_
            apply wp_seq_k; intro K36 hK36
            apply wp_region_lit
            refine sa _ rfl hk rfl rfl rfl fun a hk => ?_
            show wpList _ _ _ [] _ _
            refine wpList_nil ?_
            refine hK36 _ _ ?_
            refine wp_ret ?_
            obtain rfl := Option.some.inj H
            have ho11 := h18
            try dsimp only at ho11
            subst ho11
            have H := HL13
            try dsimp only at H
            obtain rfl := Option.some.inj H
            exact fin hk _ [(.bool false)] rfl ⟨rfl, trivial⟩ ⟨rfl, (hs.pick [] rfl).dnil⟩
          · have hk := hk.lit 26 c35 rfl
            refine cnd_false hk rfl rfl ?_
            refine wp_skip ?_
            refine hK22 _ _ ?_
            apply wp_region_lit
            refine sm _ rfl hk rfl rfl rfl fun a hk => ?_
            refine sv (.int .i64 (w64 (u10 + 1))) hk rfl rfl rfl fun a hk => ?_
            refine sa _ rfl hk rfl rfl rfl fun a hk => ?_
            show wpList _ _ _ [] _ _
            refine wpList_nil ?_
            obtain rfl := Option.some.inj H
            obtain ⟨m37, hmm37, h18⟩ := h18
            show ∃ n', n' < _ ∧ I15 n' _ _
            refine ⟨m37, hmm37, ?_⟩
            rw [hI15]
            exact ⟨(w64 (u10 + 1)), h18, (hk.c 0 rfl (hk.c 1 rfl (hk.c 5 rfl hk.k))), (hs.pick [] rfl)⟩
        · have hk := hk.lit 14 c21 rfl
          refine cnd_false hk rfl rfl ?_
          refine wp_exit ?_
          obtain rfl := Option.some.inj H
          show R14 _ _
          rw [hR14]
          exact ⟨h18.symm, hk.k, (hs.pick [] rfl)⟩
    · intro a w hR0
      rw [hR14] at hR0
      obtain ⟨rfl, hk, hs⟩ := hR0
      have H := HL13
      try dsimp only at H
      refine hK6 _ _ ?_
      apply wp_seq_k; intro K38 hK38
      apply wp_region_lit
      refine sa _ rfl hk rfl rfl rfl fun a hk => ?_
      show wpList _ _ _ [] _ _
      refine wpList_nil ?_
      refine hK38 _ _ ?_
      refine wp_ret ?_
      obtain rfl := Option.some.inj H
      exact fin hk _ [(.bool true)] rfl ⟨rfl, trivial⟩ ⟨rfl, (hs.pick [] rfl).dnil⟩

noncomputable def laws_FnExactBucketText.f (l0 : List S_Block) : Option (Bool) :=
  ((laws_szBlockS.f l0 1048576).bind fun y4 => (bif (decide (y4 < 0)) then (some true) else ((laws_toBlockS.f l0).bind fun y11 => ((spec_BucketText.f y11).bind fun y17 => ((laws_toBlockS.f l0).bind fun y20 => ((impl_BucketText.f y20).bind fun y27 => (((bif (!(y27.1.toList == y17.1.toList)) then (some true) else (some (y27.2 != y17.2))) : Option (Bool)).bind fun u32 => (bif u32 then (some false) else ((laws_toBlockS.f l0).bind fun y42 => ((laws_eqBlockS.f y20 y42).bind fun y48 => (bif (!y48) then (some false) else (some true))))))))))))
set_option maxRecDepth 100000 in
set_option maxHeartbeats 0 in
theorem laws_FnExactBucketText_t (w0 : World) (A0_ : Option Addr) (p0_ : Nat) (l0 : List S_Block) (k0_ : Chunk) (v0_ : View L_Block A0_ p0_ l0 k0_) (w0_ : Has w0 k0_) (r : Bool) (H : laws_FnExactBucketText.f l0 = some r) :
    Calls Try.prog 3 #[.slice A0_ l0.length p0_] w0 (Ret (fun v w => v = .bool r ∧ Sat [] w0 w [] [])) := by
  have hs : Sat [] w0 w0 [(1, k0_)] [] := Sat.init w0 [(1, k0_)] [] (by simp only [List.mem_cons, List.not_mem_nil, or_false]; rintro x (rfl) <;> assumption) (by simp) List.nodup_nil (by simp [blks])
  unfold laws_FnExactBucketText.f at H
  refine enter Try.func3 rfl Try.ntmps3 rfl fun a hk => ?_
  apply wp_seq_k; intro K1 hK1
  apply wp_region_lit
  refine sa _ rfl hk rfl rfl rfl fun a hk => ?_
  show wpList _ _ _ [] _ _
  refine wpList_nil ?_
  refine hK1 _ _ ?_
  apply wp_seq_k; intro K2 hK2
  apply wp_region_lit
  refine sa _ rfl hk rfl rfl rfl fun a hk => ?_
  show wpList _ _ _ [] _ _
  refine wpList_nil ?_
  refine hK2 _ _ ?_
  apply wp_seq_k; intro K3 hK3
  apply wp_region_lit
  refine sm _ rfl hk rfl rfl rfl fun a hk => ?_
  refine sm _ rfl hk rfl rfl rfl fun a hk => ?_
  obtain ⟨y4, h5, H⟩ := bind_some H
  refine sc rfl en11 hk rfl rfl rfl (laws_szBlockS_t _ A0_ p0_ l0 _ v0_ (hs.hasD (k := 1) rfl) 1048576 _ h5) ?_
  rintro _ w ⟨rfl, hG⟩ a hk
  have hs := hs.call0 hG
  refine sa _ rfl hk rfl rfl rfl fun a hk => ?_
  show wpList _ _ _ [] _ _
  refine wpList_nil ?_
  refine hK3 _ _ ?_
  apply wp_seq_k; intro K6 hK6
  apply wp_seq_k; intro K7 hK7
  apply wp_region_lit
  refine sm _ rfl hk rfl rfl rfl fun a hk => ?_
  refine sv (.bool (decide (y4 < 0))) hk rfl rfl rfl fun a hk => ?_
  show wpList _ _ _ [] _ _
  refine wpList_nil ?_
  refine hK7 _ _ ?_
  rcases cond_some H with ⟨c8, H⟩ | ⟨c8, H⟩
  · have hk := hk.lit 13 c8 rfl
    refine cnd_true hk rfl rfl ?_
    apply wp_seq_k; intro K9 hK9
    apply wp_region_lit
    refine sa _ rfl hk rfl rfl rfl fun a hk => ?_
    show wpList _ _ _ [] _ _
    refine wpList_nil ?_
    refine hK9 _ _ ?_
    refine wp_ret ?_
    obtain rfl := Option.some.inj H
    exact fin hk _ [(.bool true)] rfl ⟨rfl, trivial⟩ ⟨rfl, (hs.pick [] rfl).dnil⟩
  · have hk := hk.lit 13 c8 rfl
    refine cnd_false hk rfl rfl ?_
    refine wp_skip ?_
    refine hK6 _ _ ?_
    apply wp_seq_k; intro K10 hK10
    apply wp_region_lit
    refine sm _ rfl hk rfl rfl rfl fun a hk => ?_
    obtain ⟨y11, h12, H⟩ := bind_some H
    refine sc rfl en13 hk rfl rfl rfl (laws_toBlockS_t _ A0_ p0_ l0 _ v0_ (hs.hasD (k := 1) rfl) _ h12) ?_
    rintro _ w ⟨A13, p14, k15, rfl, o16, hG⟩ a hk
    have hs := hs.call0k hG [2] rfl
    obtain ⟨y17, h18, H⟩ := bind_some H
    refine sc rfl en12 hk rfl rfl rfl (spec_BucketText_t _ A13 p14 y11 _ o16.view (hs.hasG (k := 2) rfl) _ h18) ?_
    rintro _ w ⟨rfl, hG⟩ a hk
    have hs := hs.call0 hG
    refine sm _ rfl hk rfl rfl rfl fun a hk => ?_
    refine sv (.string y17.1) hk rfl rfl rfl fun a hk => ?_
    refine sv (.int .i64 y17.2) hk rfl rfl rfl fun a hk => ?_
    refine sa _ rfl hk rfl rfl rfl fun a hk => ?_
    refine sa _ rfl hk rfl rfl rfl fun a hk => ?_
    show wpList _ _ _ [] _ _
    refine wpList_nil ?_
    refine hK10 _ _ ?_
    apply wp_seq_k; intro K19 hK19
    apply wp_region_lit
    refine sm _ rfl hk rfl rfl rfl fun a hk => ?_
    obtain ⟨y20, h21, H⟩ := bind_some H
    refine sc rfl en13 hk rfl rfl rfl (laws_toBlockS_t _ A0_ p0_ l0 _ v0_ (hs.hasD (k := 1) rfl) _ h21) ?_
    rintro _ w ⟨A22, p23, k24, rfl, o25, hG⟩ a hk
    have hs := hs.call0k hG [3] rfl
    refine sa _ rfl hk rfl rfl rfl fun a hk => ?_
    show wpList _ _ _ [] _ _
    refine wpList_nil ?_
    refine hK19 _ _ ?_
    apply wp_seq_k; intro K26 hK26
    apply wp_region_lit
    refine sm _ rfl hk rfl rfl rfl fun a hk => ?_
    obtain ⟨y27, h28, H⟩ := bind_some H
    refine sc rfl en14 hk rfl rfl rfl (impl_BucketText_t _ A22 p23 y20 _ o25.view (hs.hasG (k := 3) rfl) _ h28) ?_
    rintro _ w ⟨rfl, hG⟩ a hk
    have hs := hs.call0 hG
    refine sm _ rfl hk rfl rfl rfl fun a hk => ?_
    refine sv (.string y27.1) hk rfl rfl rfl fun a hk => ?_
    refine sv (.int .i64 y27.2) hk rfl rfl rfl fun a hk => ?_
    refine sa _ rfl hk rfl rfl rfl fun a hk => ?_
    refine sa _ rfl hk rfl rfl rfl fun a hk => ?_
    show wpList _ _ _ [] _ _
    refine wpList_nil ?_
    refine hK26 _ _ ?_
    apply wp_seq_k; intro K29 hK29
    apply wp_seq_k; intro K30 hK30
    obtain ⟨o33, h34, HL35⟩ := bind_some H
    clear H
    obtain ⟨R36, hR36⟩ : ∃ R : Act → World → Prop, R = fun a w => ∃ (u32 : Bool), u32 = o33 ∧ Kn [(0, (.slice A0_ l0.length p0_)), (6, (.slice A22 y20.length p23)), (34, (.bool u32))] 40 a ∧ Sat [] w0 w [(1, k0_)] [(3, k24)] := ⟨_, rfl⟩
    refine wp_cutq R36 ?_ ?_
    · have H := h34
      apply wp_region_lit
      refine sm _ rfl hk rfl rfl rfl fun a hk => ?_
      refine sm _ rfl hk rfl rfl rfl fun a hk => ?_
      refine sv (.bool (!(y27.1.toList == y17.1.toList))) hk rfl rfl rfl fun a hk => ?_
      refine sm _ rfl hk rfl rfl rfl fun a hk => ?_
      rcases cond_some H with ⟨c37, H⟩ | ⟨c37, H⟩
      · have hk := hk.lit 30 c37 rfl
        refine sk hk rfl rfl rfl fun a hk => ?_
        refine sk hk rfl rfl rfl fun a hk => ?_
        refine sk hk rfl rfl rfl fun a hk => ?_
        refine sv (.bool true) hk rfl rfl rfl fun a hk => ?_
        show wpList _ _ _ [] _ _
        refine wpList_nil ?_
        obtain rfl := Option.some.inj H
        show R36 _ _
        rw [hR36]
        exact ⟨true, rfl, (hk.c 0 rfl (hk.c 6 rfl (hk.c 34 rfl hk.k))), (hs.pick [(3, 3)] rfl)⟩
      · have hk := hk.lit 30 c37 rfl
        refine sm _ rfl hk rfl rfl rfl fun a hk => ?_
        refine sm _ rfl hk rfl rfl rfl fun a hk => ?_
        refine sv (.bool (y27.2 != y17.2)) hk rfl rfl rfl fun a hk => ?_
        refine sv (.bool (y27.2 != y17.2)) hk rfl rfl rfl fun a hk => ?_
        show wpList _ _ _ [] _ _
        refine wpList_nil ?_
        obtain rfl := Option.some.inj H
        show R36 _ _
        rw [hR36]
        exact ⟨(y27.2 != y17.2), rfl, (hk.c 0 rfl (hk.c 6 rfl (hk.c 34 rfl hk.k))), (hs.pick [(3, 3)] rfl)⟩
    · intro a w hR0
      rw [hR36] at hR0
      obtain ⟨u32, rfl, hk, hs⟩ := hR0
      have H := HL35
      try dsimp only at H
      refine hK30 _ _ ?_
      rcases cond_some H with ⟨c38, H⟩ | ⟨c38, H⟩
      · have hk := hk.lit 34 c38 rfl
        refine cnd_true hk rfl rfl ?_
        apply wp_seq_k; intro K39 hK39
        apply wp_region_lit
        refine sa _ rfl hk rfl rfl rfl fun a hk => ?_
        show wpList _ _ _ [] _ _
        refine wpList_nil ?_
        refine hK39 _ _ ?_
        refine wp_ret ?_
        obtain rfl := Option.some.inj H
        exact fin hk _ [(.bool false)] rfl ⟨rfl, trivial⟩ ⟨rfl, (hs.pick [] rfl).dnil⟩
      · have hk := hk.lit 34 c38 rfl
        refine cnd_false hk rfl rfl ?_
        refine wp_skip ?_
        refine hK29 _ _ ?_
        apply wp_seq_k; intro K40 hK40
        apply wp_seq_k; intro K41 hK41
        apply wp_region_lit
        refine sm _ rfl hk rfl rfl rfl fun a hk => ?_
        refine sm _ rfl hk rfl rfl rfl fun a hk => ?_
        obtain ⟨y42, h43, H⟩ := bind_some H
        refine sc rfl en13 hk rfl rfl rfl (laws_toBlockS_t _ A0_ p0_ l0 _ v0_ (hs.hasD (k := 1) rfl) _ h43) ?_
        rintro _ w ⟨A44, p45, k46, rfl, o47, hG⟩ a hk
        have hs := hs.call0k hG [5] rfl
        obtain ⟨y48, h49, H⟩ := bind_some H
        refine sc rfl en15 hk rfl rfl rfl (laws_eqBlockS_t _ A22 p23 y20 _ o25.view (hs.hasG (k := 3) rfl) A44 p45 y42 _ o47.view (hs.hasG (k := 5) rfl) _ h49) ?_
        rintro _ w ⟨rfl, hG⟩ a hk
        have hs := hs.call0 hG
        refine sv (.bool (!y48)) hk rfl rfl rfl fun a hk => ?_
        show wpList _ _ _ [] _ _
        refine wpList_nil ?_
        refine hK41 _ _ ?_
        rcases cond_some H with ⟨c50, H⟩ | ⟨c50, H⟩
        · have hk := hk.lit 39 c50 rfl
          refine cnd_true hk rfl rfl ?_
          apply wp_seq_k; intro K51 hK51
          apply wp_region_lit
          refine sa _ rfl hk rfl rfl rfl fun a hk => ?_
          show wpList _ _ _ [] _ _
          refine wpList_nil ?_
          refine hK51 _ _ ?_
          refine wp_ret ?_
          obtain rfl := Option.some.inj H
          exact fin hk _ [(.bool false)] rfl ⟨rfl, trivial⟩ ⟨rfl, (hs.pick [] rfl).dnil⟩
        · have hk := hk.lit 39 c50 rfl
          refine cnd_false hk rfl rfl ?_
          refine wp_skip ?_
          refine hK40 _ _ ?_
          apply wp_seq_k; intro K52 hK52
          apply wp_region_lit
          refine sa _ rfl hk rfl rfl rfl fun a hk => ?_
          show wpList _ _ _ [] _ _
          refine wpList_nil ?_
          refine hK52 _ _ ?_
          refine wp_ret ?_
          obtain rfl := Option.some.inj H
          exact fin hk _ [(.bool true)] rfl ⟨rfl, trivial⟩ ⟨rfl, (hs.pick [] rfl).dnil⟩

end Go.Proofs.Ytmgfkpfacdlfbaa
