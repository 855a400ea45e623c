/- Further functions. -/
import Derived.Test.YtjlhmcieholdiaaGXAccessn3
namespace Go.Proofs.Ytjlhmcieholdiaa
open Go Go.Z Go.Proofs Go.MuLone Go.ChangeShapes Go.WideShapes Go.ChangeAt Go.RowKit
set_option linter.unusedVariables false
set_option linter.unusedSimpArgs false
noncomputable def laws_heldBlockS.s0 (l0 : List S_Block) (u6 : Int) (u7 : Int) : Option ((Int × Int) ⊕ Ex (Int) (Int)) :=
  (bif (decide (u7 < (l0.length : Int))) then (if 0 ≤ u7 ∧ u7 < (l0.length : Int) then (bif (((l0.getD u7.toNat z_Block).Id) != u6) then (some (.inr (.ret (-1)))) else (if 0 ≤ u7 ∧ u7 < (l0.length : Int) then (bif (((l0.getD u7.toNat z_Block).Leaf) != (w64 (u6 + 1))) then (some (.inr (.ret (-1)))) else (if 0 ≤ u7 ∧ u7 < (l0.length : Int) then (bif (((l0.getD u7.toNat z_Block).Value) != (w64 ((w64 (u6 + 1)) + 1))) then (some (.inr (.ret (-1)))) else (some (.inl ((w64 ((w64 ((w64 (u6 + 1)) + 1)) + 1)), (w64 (u7 + 1)))))) else none)) else none)) else none) else (some (.inr (.out u6))))
noncomputable def laws_heldBlockS.f (l0 : List S_Block) (x1 : Int) : Option (Int) :=
  ((loopO (fun s => laws_heldBlockS.s0 l0 s.1 s.2) (x1, 0)).bind fun o => match o with | .out u8 => (some u8) | .ret r => (some r))
set_option maxRecDepth 100000 in
set_option maxHeartbeats 0 in
theorem laws_heldBlockS_t (w0 : World) (A0_ : Option Addr) (p0_ : Nat) (l0 : List S_Block) (k0_ : Chunk) (v0_ : View L_Block A0_ p0_ l0 k0_) (w0_ : Has w0 k0_) (x1 : Int) (r : Int) (H : laws_heldBlockS.f l0 x1 = some r) :
    Calls Try.prog 74 #[.slice A0_ l0.length p0_, .int .i64 x1] w0 (Ret (fun v w => v = .int .i64 r ∧ Sat [] w0 w [] [])) := by
  have hs : Sat [] w0 w0 [(1, k0_)] [] := Sat.init w0 [(1, k0_)] [] (by simp only [List.mem_cons, List.not_mem_nil, or_false]; rintro x (rfl) <;> assumption) (by simp) List.nodup_nil (by simp [blks])
  unfold laws_heldBlockS.f at H
  refine enter Try.func74 rfl Try.ntmps74 rfl fun a hk => ?_
  apply wp_seq_k; intro K1 hK1
  apply wp_region_lit
  refine sa _ rfl hk rfl rfl rfl fun a hk => ?_
  show wpList _ _ _ [] _ _
  refine wpList_nil ?_
  refine hK1 _ _ ?_
  apply wp_seq_k; intro K2 hK2
  apply wp_seq_k; intro K3 hK3
  apply wp_region_lit
  refine sa _ rfl hk rfl rfl rfl fun a hk => ?_
  show wpList _ _ _ [] _ _
  refine wpList_nil ?_
  refine hK3 _ _ ?_
  obtain ⟨o9, h10, HL11⟩ := bind_some H
  clear H
  obtain ⟨R12, hR12⟩ : ∃ R : Act → World → Prop, R = fun a w => ∃ (u8 : Int), o9 = .out u8 ∧ Kn [(1, (.int .i64 u8))] 40 a ∧ Sat [] w0 w [(1, k0_)] [] := ⟨_, rfl⟩
  refine wp_cutq R12 ?_ ?_
  ·refine wp_block ?_
   obtain ⟨fu14, h10⟩ := loopO_some h10
   obtain ⟨I13, hI13⟩ : ∃ I : Nat → Act → World → Prop, I = fun fu a w => ∃ (u6 : Int) (u7 : Int), loopN (fun s => laws_heldBlockS.s0 l0 s.1 s.2) fu (u6, u7) = some o9 ∧ Kn [(0, (.slice A0_ l0.length p0_)), (1, (.int .i64 u6)), (5, (.int .i64 u7))] 40 a ∧ Sat [] w0 w [(1, k0_)] [] := ⟨_, rfl⟩
   refine wp_loop_ghost I13 fu14 ?_ ?_
   ·rw [hI13]
    exact ⟨x1, 0, h10, (hk.c 0 rfl (hk.c 1 rfl (hk.c 5 rfl hk.k))), (hs.pick [] rfl)⟩
   ·clear h10 hk hs
    intro fu14 a w hI0
    rw [hI13] at hI0
    obtain ⟨u6, u7, hi, hk, hs⟩ := hI0
    obtain ⟨x15, H, h16⟩ := loop_round hi
    try dsimp only at H
    unfold laws_heldBlockS.s0 at H
    apply wp_seq_k; intro K17 hK17
    apply wp_seq_k; intro K18 hK18
    apply wp_region_lit
    refine sm _ rfl hk rfl rfl rfl fun a hk => ?_
    refine sm _ rfl hk rfl rfl rfl fun a hk => ?_
    refine sle rfl hk rfl rfl rfl un28 fun a hk => ?_
    refine sv (.bool (decide (u7 < (l0.length : Int)))) hk rfl rfl rfl fun a hk => ?_
    show wpList _ _ _ [] _ _
    refine wpList_nil ?_
    refine hK18 _ _ ?_
    rcases cond_some H with ⟨c19, H⟩ | ⟨c19, H⟩
    ·have hk := hk.lit 9 c19 rfl
     refine cnd_true hk rfl rfl ?_
     refine wp_skip ?_
     refine hK17 _ _ ?_
     have hs := hs.pick [] rfl
     apply wp_seq_k; intro K20 hK20
     refine wp_block ?_
     apply wp_seq_k; intro K21 hK21
     apply wp_seq_k; intro K22 hK22
     apply wp_region_lit
     refine sm _ rfl hk rfl rfl rfl fun a hk => ?_
     refine sm _ rfl hk rfl rfl rfl fun a hk => ?_
     rcases ite_some H with ⟨c23, H⟩ | ⟨_, H⟩
     rotate_left
     ·cases H
     obtain ⟨b24, q25, hAc23⟩ := (v0_).some_ u7 c23.1 c23.2
     refine si rfl hk rfl rfl rfl rfl un28 sz102 c23.1 c23.2 hAc23 fun a hk => ?_
     refine sf (padd A0_ (u7.toNat * 3 + 0)) rfl hk rfl rfl rfl fd102_0 (padd_add _ _ _) fun a hk => ?_
     obtain ⟨_, rfl, e26⟩ := (v0_).at_ z_Block u7 c23.1 c23.2
     refine sl (v := (.int .i64 ((l0.getD u7.toNat z_Block).Id))) rfl hk rfl rfl rfl ag3 ((e26 0 _ rfl).cell (hs.hasD (k := 1) rfl)) fun a hk => ?_
     refine sm _ rfl hk rfl rfl rfl fun a hk => ?_
     refine sv (.bool (((l0.getD u7.toNat z_Block).Id) != u6)) hk rfl rfl rfl fun a hk => ?_
     show wpList _ _ _ [] _ _
     refine wpList_nil ?_
     refine hK22 _ _ ?_
     rcases cond_some H with ⟨c27, H⟩ | ⟨c27, H⟩
     ·have hk := hk.lit 18 c27 rfl
      refine cnd_true hk rfl rfl ?_
      apply wp_seq_k; intro K28 hK28
      apply wp_region_lit
      refine sa _ rfl hk rfl rfl rfl fun a hk => ?_
      show wpList _ _ _ [] _ _
      refine wpList_nil ?_
      refine hK28 _ _ ?_
      refine wp_ret ?_
      obtain rfl := Option.some.inj H
      have ho9 := h16
      try dsimp only at ho9
      subst ho9
      have H := HL11
      try dsimp only at H
      obtain rfl := Option.some.inj H
      exact fin hk _ [(.int .i64 (-1))] rfl ⟨rfl, trivial⟩ ⟨rfl, (hs.pick [] rfl).dnil⟩
     ·have hk := hk.lit 18 c27 rfl
      refine cnd_false hk rfl rfl ?_
      refine wp_skip ?_
      refine hK21 _ _ ?_
      apply wp_seq_k; intro K29 hK29
      apply wp_region_lit
      refine sm _ rfl hk rfl rfl rfl fun a hk => ?_
      refine sv (.int .i64 (w64 (u6 + 1))) hk rfl rfl rfl fun a hk => ?_
      refine sa _ rfl hk rfl rfl rfl fun a hk => ?_
      show wpList _ _ _ [] _ _
      refine wpList_nil ?_
      refine hK29 _ _ ?_
      apply wp_seq_k; intro K30 hK30
      apply wp_seq_k; intro K31 hK31
      apply wp_region_lit
      refine sm _ rfl hk rfl rfl rfl fun a hk => ?_
      refine sm _ rfl hk rfl rfl rfl fun a hk => ?_
      rcases ite_some H with ⟨c32, H⟩ | ⟨_, H⟩
      rotate_left
      ·cases H
      obtain ⟨b33, q34, hAc32⟩ := (v0_).some_ u7 c32.1 c32.2
      refine si rfl hk rfl rfl rfl rfl un28 sz102 c32.1 c32.2 hAc32 fun a hk => ?_
      refine sf (padd A0_ (u7.toNat * 3 + 1)) rfl hk rfl rfl rfl fd102_1 (padd_add _ _ _) fun a hk => ?_
      obtain ⟨_, rfl, e35⟩ := (v0_).at_ z_Block u7 c32.1 c32.2
      refine sl (v := (.int .i64 ((l0.getD u7.toNat z_Block).Leaf))) rfl hk rfl rfl rfl ag3 ((e35 1 _ rfl).cell (hs.hasD (k := 1) rfl)) fun a hk => ?_
      refine sm _ rfl hk rfl rfl rfl fun a hk => ?_
      refine sv (.bool (((l0.getD u7.toNat z_Block).Leaf) != (w64 (u6 + 1)))) hk rfl rfl rfl fun a hk => ?_
      show wpList _ _ _ [] _ _
      refine wpList_nil ?_
      refine hK31 _ _ ?_
      have hs := hs.pick [] rfl
      rcases cond_some H with ⟨c36, H⟩ | ⟨c36, H⟩
      ·have hk := hk.lit 27 c36 rfl
       refine cnd_true hk rfl rfl ?_
       apply wp_seq_k; intro K37 hK37
       apply wp_region_lit
       refine sa _ rfl hk rfl rfl rfl fun a hk => ?_
       show wpList _ _ _ [] _ _
       refine wpList_nil ?_
       refine hK37 _ _ ?_
       refine wp_ret ?_
       obtain rfl := Option.some.inj H
       have ho9 := h16
       try dsimp only at ho9
       subst ho9
       have H := HL11
       try dsimp only at H
       obtain rfl := Option.some.inj H
       exact fin hk _ [(.int .i64 (-1))] rfl ⟨rfl, trivial⟩ ⟨rfl, (hs.pick [] rfl).dnil⟩
      ·have hk := hk.lit 27 c36 rfl
       refine cnd_false hk rfl rfl ?_
       refine wp_skip ?_
       refine hK30 _ _ ?_
       apply wp_seq_k; intro K38 hK38
       apply wp_region_lit
       refine sm _ rfl hk rfl rfl rfl fun a hk => ?_
       refine sv (.int .i64 (w64 ((w64 (u6 + 1)) + 1))) hk rfl rfl rfl fun a hk => ?_
       refine sa _ rfl hk rfl rfl rfl fun a hk => ?_
       show wpList _ _ _ [] _ _
       refine wpList_nil ?_
       refine hK38 _ _ ?_
       apply wp_seq_k; intro K39 hK39
       apply wp_seq_k; intro K40 hK40
       apply wp_region_lit
       refine sm _ rfl hk rfl rfl rfl fun a hk => ?_
       refine sm _ rfl hk rfl rfl rfl fun a hk => ?_
       rcases ite_some H with ⟨c41, H⟩ | ⟨_, H⟩
       rotate_left
       ·cases H
       obtain ⟨b42, q43, hAc41⟩ := (v0_).some_ u7 c41.1 c41.2
       refine si rfl hk rfl rfl rfl rfl un28 sz102 c41.1 c41.2 hAc41 fun a hk => ?_
       refine sf (padd A0_ (u7.toNat * 3 + 2)) rfl hk rfl rfl rfl fd102_2 (padd_add _ _ _) fun a hk => ?_
       obtain ⟨_, rfl, e44⟩ := (v0_).at_ z_Block u7 c41.1 c41.2
       refine sl (v := (.int .i64 ((l0.getD u7.toNat z_Block).Value))) rfl hk rfl rfl rfl ag3 ((e44 2 _ rfl).cell (hs.hasD (k := 1) rfl)) fun a hk => ?_
       refine sm _ rfl hk rfl rfl rfl fun a hk => ?_
       refine sv (.bool (((l0.getD u7.toNat z_Block).Value) != (w64 ((w64 (u6 + 1)) + 1)))) hk rfl rfl rfl fun a hk => ?_
       show wpList _ _ _ [] _ _
       refine wpList_nil ?_
       refine hK40 _ _ ?_
       rcases cond_some H with ⟨c45, H⟩ | ⟨c45, H⟩
       ·have hk := hk.lit 36 c45 rfl
        refine cnd_true hk rfl rfl ?_
        apply wp_seq_k; intro K46 hK46
        apply wp_region_lit
        refine sa _ rfl hk rfl rfl rfl fun a hk => ?_
        show wpList _ _ _ [] _ _
        refine wpList_nil ?_
        refine hK46 _ _ ?_
        have hs := hs.pick [] rfl
        refine wp_ret ?_
        obtain rfl := Option.some.inj H
        have ho9 := h16
        try dsimp only at ho9
        subst ho9
        have H := HL11
        try dsimp only at H
        obtain rfl := Option.some.inj H
        exact fin hk _ [(.int .i64 (-1))] rfl ⟨rfl, trivial⟩ ⟨rfl, (hs.pick [] rfl).dnil⟩
       ·have hk := hk.lit 36 c45 rfl
        refine cnd_false hk rfl rfl ?_
        refine wp_skip ?_
        refine hK39 _ _ ?_
        have hs := hs.pick [] rfl
        apply wp_region_lit
        refine sm _ rfl hk rfl rfl rfl fun a hk => ?_
        refine sv (.int .i64 (w64 ((w64 ((w64 (u6 + 1)) + 1)) + 1))) hk rfl rfl rfl fun a hk => ?_
        refine sa _ rfl hk rfl rfl rfl fun a hk => ?_
        show wpList _ _ _ [] _ _
        refine wpList_nil ?_
        refine hK20 _ _ ?_
        apply wp_region_lit
        refine sm _ rfl hk rfl rfl rfl fun a hk => ?_
        refine sv (.int .i64 (w64 (u7 + 1))) hk rfl rfl rfl fun a hk => ?_
        refine sa _ rfl hk rfl rfl rfl fun a hk => ?_
        show wpList _ _ _ [] _ _
        refine wpList_nil ?_
        obtain rfl := Option.some.inj H
        obtain ⟨m47, hmm47, h16⟩ := h16
        show ∃ n', n' < _ ∧ I13 n' _ _
        refine ⟨m47, hmm47, ?_⟩
        rw [hI13]
        exact ⟨(w64 ((w64 ((w64 (u6 + 1)) + 1)) + 1)), (w64 (u7 + 1)), h16, (hk.c 0 rfl (hk.c 1 rfl (hk.c 5 rfl hk.k))), (hs.pick [] rfl)⟩
    ·have hk := hk.lit 9 c19 rfl
     refine cnd_false hk rfl rfl ?_
     refine wp_exit ?_
     obtain rfl := Option.some.inj H
     show R12 _ _
     rw [hR12]
     exact ⟨u6, h16.symm, (hk.c 1 rfl hk.k), (hs.pick [] rfl)⟩
  ·intro a w hR0
   rw [hR12] at hR0
   obtain ⟨u8, rfl, hk, hs⟩ := hR0
   have H := HL11
   try dsimp only at H
   refine hK2 _ _ ?_
   apply wp_seq_k; intro K48 hK48
   apply wp_region_lit
   refine sm _ rfl hk rfl rfl rfl fun a hk => ?_
   refine sa _ rfl hk rfl rfl rfl fun a hk => ?_
   show wpList _ _ _ [] _ _
   refine wpList_nil ?_
   refine hK48 _ _ ?_
   have hs := hs.pick [] rfl
   refine wp_ret ?_
   obtain rfl := Option.some.inj H
   exact fin hk _ [(.int .i64 u8)] rfl ⟨rfl, trivial⟩ ⟨rfl, (hs.pick [] rfl).dnil⟩

noncomputable def laws_heldBlockSS.s0 (l0 : List (List S_Block)) (u6 : Int) (u7 : Int) : Option ((Int × Int) ⊕ Ex (Int) (Int)) :=
  (bif (decide (u7 < (l0.length : Int))) then (if 0 ≤ u7 ∧ u7 < (l0.length : Int) then ((laws_heldBlockS.f (l0.getD u7.toNat []) u6).bind fun y29 => (bif (decide (y29 < 0)) then (some (.inr (.ret (-1)))) else (some (.inl (y29, (w64 (u7 + 1))))))) else none) else (some (.inr (.out u6))))
noncomputable def laws_heldBlockSS.f (l0 : List (List S_Block)) (x1 : Int) : Option (Int) :=
  ((loopO (fun s => laws_heldBlockSS.s0 l0 s.1 s.2) (x1, 0)).bind fun o => match o with | .out u8 => (some u8) | .ret r => (some r))
set_option maxRecDepth 100000 in
set_option maxHeartbeats 0 in
theorem laws_heldBlockSS_t (w0 : World) (A0_ : Option Addr) (p0_ : Nat) (l0 : List (List S_Block)) (k0_ : Chunk) (v0_ : View (Lay.sl L_Block 102) A0_ p0_ l0 k0_) (w0_ : Has w0 k0_) (x1 : Int) (r : Int) (H : laws_heldBlockSS.f l0 x1 = some r) :
    Calls Try.prog 75 #[.slice A0_ l0.length p0_, .int .i64 x1] w0 (Ret (fun v w => v = .int .i64 r ∧ Sat [] w0 w [] [])) := by
  have hs : Sat [] w0 w0 [(1, k0_)] [] := Sat.init w0 [(1, k0_)] [] (by simp only [List.mem_cons, List.not_mem_nil, or_false]; rintro x (rfl) <;> assumption) (by simp) List.nodup_nil (by simp [blks])
  unfold laws_heldBlockSS.f at H
  refine enter Try.func75 rfl Try.ntmps75 rfl fun a hk => ?_
  apply wp_seq_k; intro K1 hK1
  apply wp_region_lit
  refine sa _ rfl hk rfl rfl rfl fun a hk => ?_
  show wpList _ _ _ [] _ _
  refine wpList_nil ?_
  refine hK1 _ _ ?_
  apply wp_seq_k; intro K2 hK2
  apply wp_seq_k; intro K3 hK3
  apply wp_region_lit
  refine sa _ rfl hk rfl rfl rfl fun a hk => ?_
  show wpList _ _ _ [] _ _
  refine wpList_nil ?_
  refine hK3 _ _ ?_
  obtain ⟨o9, h10, HL11⟩ := bind_some H
  clear H
  obtain ⟨R12, hR12⟩ : ∃ R : Act → World → Prop, R = fun a w => ∃ (u8 : Int), o9 = .out u8 ∧ Kn [(1, (.int .i64 u8))] 21 a ∧ Sat [] w0 w [(1, k0_)] [] := ⟨_, rfl⟩
  refine wp_cutq R12 ?_ ?_
  ·refine wp_block ?_
   obtain ⟨fu14, h10⟩ := loopO_some h10
   obtain ⟨I13, hI13⟩ : ∃ I : Nat → Act → World → Prop, I = fun fu a w => ∃ (u6 : Int) (u7 : Int), loopN (fun s => laws_heldBlockSS.s0 l0 s.1 s.2) fu (u6, u7) = some o9 ∧ Kn [(0, (.slice A0_ l0.length p0_)), (1, (.int .i64 u6)), (5, (.int .i64 u7))] 21 a ∧ Sat [] w0 w [(1, k0_)] [] := ⟨_, rfl⟩
   refine wp_loop_ghost I13 fu14 ?_ ?_
   ·rw [hI13]
    exact ⟨x1, 0, h10, (hk.c 0 rfl (hk.c 1 rfl (hk.c 5 rfl hk.k))), (hs.pick [] rfl)⟩
   ·clear h10 hk hs
    intro fu14 a w hI0
    rw [hI13] at hI0
    obtain ⟨u6, u7, hi, hk, hs⟩ := hI0
    obtain ⟨x15, H, h16⟩ := loop_round hi
    try dsimp only at H
    unfold laws_heldBlockSS.s0 at H
    apply wp_seq_k; intro K17 hK17
    apply wp_seq_k; intro K18 hK18
    apply wp_region_lit
    refine sm _ rfl hk rfl rfl rfl fun a hk => ?_
    refine sm _ rfl hk rfl rfl rfl fun a hk => ?_
    refine sle rfl hk rfl rfl rfl un29 fun a hk => ?_
    refine sv (.bool (decide (u7 < (l0.length : Int)))) hk rfl rfl rfl fun a hk => ?_
    show wpList _ _ _ [] _ _
    refine wpList_nil ?_
    refine hK18 _ _ ?_
    rcases cond_some H with ⟨c19, H⟩ | ⟨c19, H⟩
    ·have hk := hk.lit 9 c19 rfl
     refine cnd_true hk rfl rfl ?_
     refine wp_skip ?_
     refine hK17 _ _ ?_
     have hs := hs.pick [] rfl
     apply wp_seq_k; intro K20 hK20
     refine wp_block ?_
     apply wp_seq_k; intro K21 hK21
     apply wp_region_lit
     refine sm _ rfl hk rfl rfl rfl fun a hk => ?_
     refine sm _ rfl hk rfl rfl rfl fun a hk => ?_
     rcases ite_some H with ⟨c22, H⟩ | ⟨_, H⟩
     rotate_left
     ·cases H
     obtain ⟨b23, q24, hAc22⟩ := (v0_).some_ u7 c22.1 c22.2
     refine si rfl hk rfl rfl rfl rfl un29 sz28 c22.1 c22.2 hAc22 fun a hk => ?_
     obtain ⟨_, ⟨_, rfl, A26, p27, rfl, v28⟩, e25⟩ := (v0_).at_ [] u7 c22.1 c22.2
     refine sl (v := (.slice A26 (l0.getD u7.toNat []).length p27)) rfl hk rfl rfl rfl ag28 ((e25 0 _ rfl).cell (hs.hasD (k := 1) rfl)) fun a hk => ?_
     refine sm _ rfl hk rfl rfl rfl fun a hk => ?_
     obtain ⟨y29, h30, H⟩ := bind_some H
     refine sc rfl en74 hk rfl rfl rfl (laws_heldBlockS_t _ A26 p27 (l0.getD u7.toNat []) _ v28 (hs.hasD (k := 1) rfl) u6 _ h30) ?_
     rintro _ w ⟨rfl, hG⟩ a hk
     have hs := hs.call0 hG
     refine sa _ rfl hk rfl rfl rfl fun a hk => ?_
     show wpList _ _ _ [] _ _
     refine wpList_nil ?_
     refine hK21 _ _ ?_
     apply wp_seq_k; intro K31 hK31
     apply wp_region_lit
     refine sm _ rfl hk rfl rfl rfl fun a hk => ?_
     refine sv (.bool (decide (y29 < 0))) hk rfl rfl rfl fun a hk => ?_
     show wpList _ _ _ [] _ _
     refine wpList_nil ?_
     refine hK31 _ _ ?_
     rcases cond_some H with ⟨c32, H⟩ | ⟨c32, H⟩
     ·have hk := hk.lit 19 c32 rfl
      refine cnd_true hk rfl rfl ?_
      apply wp_seq_k; intro K33 hK33
      apply wp_region_lit
      refine sa _ rfl hk rfl rfl rfl fun a hk => ?_
      show wpList _ _ _ [] _ _
      refine wpList_nil ?_
      refine hK33 _ _ ?_
      refine wp_ret ?_
      obtain rfl := Option.some.inj H
      have ho9 := h16
      try dsimp only at ho9
      subst ho9
      have H := HL11
      try dsimp only at H
      obtain rfl := Option.some.inj H
      exact fin hk _ [(.int .i64 (-1))] rfl ⟨rfl, trivial⟩ ⟨rfl, (hs.pick [] rfl).dnil⟩
     ·have hk := hk.lit 19 c32 rfl
      refine cnd_false hk rfl rfl ?_
      refine wp_skip ?_
      refine hK20 _ _ ?_
      apply wp_region_lit
      refine sm _ rfl hk rfl rfl rfl fun a hk => ?_
      refine sv (.int .i64 (w64 (u7 + 1))) hk rfl rfl rfl fun a hk => ?_
      refine sa _ rfl hk rfl rfl rfl fun a hk => ?_
      show wpList _ _ _ [] _ _
      refine wpList_nil ?_
      obtain rfl := Option.some.inj H
      obtain ⟨m34, hmm34, h16⟩ := h16
      show ∃ n', n' < _ ∧ I13 n' _ _
      refine ⟨m34, hmm34, ?_⟩
      rw [hI13]
      exact ⟨y29, (w64 (u7 + 1)), h16, (hk.c 0 rfl (hk.c 1 rfl (hk.c 5 rfl hk.k))), (hs.pick [] rfl)⟩
    ·have hk := hk.lit 9 c19 rfl
     refine cnd_false hk rfl rfl ?_
     refine wp_exit ?_
     obtain rfl := Option.some.inj H
     show R12 _ _
     rw [hR12]
     exact ⟨u6, h16.symm, (hk.c 1 rfl hk.k), (hs.pick [] rfl)⟩
  ·intro a w hR0
   rw [hR12] at hR0
   obtain ⟨u8, rfl, hk, hs⟩ := hR0
   have H := HL11
   try dsimp only at H
   refine hK2 _ _ ?_
   apply wp_seq_k; intro K35 hK35
   apply wp_region_lit
   refine sm _ rfl hk rfl rfl rfl fun a hk => ?_
   refine sa _ rfl hk rfl rfl rfl fun a hk => ?_
   show wpList _ _ _ [] _ _
   refine wpList_nil ?_
   refine hK35 _ _ ?_
   have hs := hs.pick [] rfl
   refine wp_ret ?_
   obtain rfl := Option.some.inj H
   exact fin hk _ [(.int .i64 u8)] rfl ⟨rfl, trivial⟩ ⟨rfl, (hs.pick [] rfl).dnil⟩

noncomputable def laws_heldOram.f (x0 : S_Oram) (x1 : Int) : Option (Int) :=
  ((laws_heldIntS.f x0.Pos x1).bind fun y4 => (bif (decide (y4 < 0)) then (some (-1)) else ((laws_heldBlockS.f x0.Stash y4).bind fun y11 => (bif (decide (y11 < 0)) then (some (-1)) else ((laws_heldBlockSS.f x0.Buckets y11).bind fun y18 => (bif (decide (y18 < 0)) then (some (-1)) else (some y18)))))))
set_option maxRecDepth 100000 in
set_option maxHeartbeats 0 in
theorem laws_heldOram_t (w0 : World) (x0 : S_Oram) (A0_0 : Option Addr) (p0_0 : Nat) (k0_0 : Chunk) (v0_0 : View (Lay.int .i64) A0_0 p0_0 x0.Pos k0_0) (w0_0 : Has w0 k0_0) (A0_1 : Option Addr) (p0_1 : Nat) (k0_1 : Chunk) (v0_1 : View L_Block A0_1 p0_1 x0.Stash k0_1) (w0_1 : Has w0 k0_1) (A0_2 : Option Addr) (p0_2 : Nat) (k0_2 : Chunk) (v0_2 : View (Lay.sl L_Block 102) A0_2 p0_2 x0.Buckets k0_2) (w0_2 : Has w0 k0_2) (x1 : Int) (r : Int) (H : laws_heldOram.f x0 x1 = some r) :
    Calls Try.prog 15 #[.agg #[.slice A0_0 x0.Pos.length p0_0, .slice A0_1 x0.Stash.length p0_1, .slice A0_2 x0.Buckets.length p0_2], .int .i64 x1] w0 (Ret (fun v w => v = .int .i64 r ∧ Sat [] w0 w [] [])) := by
  have hs : Sat [] w0 w0 [(1, k0_0), (2, k0_1), (3, k0_2)] [] := Sat.init w0 [(1, k0_0), (2, k0_1), (3, k0_2)] [] (by simp only [List.mem_cons, List.not_mem_nil, or_false]; rintro x (rfl | rfl | rfl) <;> assumption) (by simp) List.nodup_nil (by simp [blks])
  unfold laws_heldOram.f at H
  refine enter Try.func15 rfl Try.ntmps15 rfl fun a hk => ?_
  apply wp_seq_k; intro K1 hK1
  apply wp_region_lit
  refine sbx 4 hs rfl hk rfl rfl rfl rfl fun b2 w a hk hs => ?_
  refine sa _ rfl hk rfl rfl rfl fun a hk => ?_
  show wpList _ _ _ [] _ _
  refine wpList_nil ?_
  refine hK1 _ _ ?_
  apply wp_seq_k; intro K3 hK3
  apply wp_region_lit
  refine sf ⟨b2, 0, none⟩ rfl hk rfl rfl rfl fd31_0 rfl fun a hk => ?_
  refine sl rfl hk rfl rfl rfl ag22 (box_cell hs (k := 4) rfl rfl) fun a hk => ?_
  refine sm _ rfl hk rfl rfl rfl fun a hk => ?_
  obtain ⟨y4, h5, H⟩ := bind_some H
  refine sc rfl en73 hk rfl rfl rfl (laws_heldIntS_t _ A0_0 p0_0 x0.Pos _ v0_0 (hs.hasD (k := 1) rfl) x1 _ h5) ?_
  rintro _ w ⟨rfl, hG⟩ a hk
  have hs := hs.call0 hG
  refine sa _ rfl hk rfl rfl rfl fun a hk => ?_
  show wpList _ _ _ [] _ _
  refine wpList_nil ?_
  refine hK3 _ _ ?_
  apply wp_seq_k; intro K6 hK6
  apply wp_seq_k; intro K7 hK7
  apply wp_region_lit
  refine sm _ rfl hk rfl rfl rfl fun a hk => ?_
  refine sv (.bool (decide (y4 < 0))) hk rfl rfl rfl fun a hk => ?_
  show wpList _ _ _ [] _ _
  refine wpList_nil ?_
  refine hK7 _ _ ?_
  rcases cond_some H with ⟨c8, H⟩ | ⟨c8, H⟩
  ·have hk := hk.lit 10 c8 rfl
   refine cnd_true hk rfl rfl ?_
   apply wp_seq_k; intro K9 hK9
   apply wp_region_lit
   refine sa _ rfl hk rfl rfl rfl fun a hk => ?_
   show wpList _ _ _ [] _ _
   refine wpList_nil ?_
   refine hK9 _ _ ?_
   have hs := hs.pick [] rfl
   refine wp_ret ?_
   obtain rfl := Option.some.inj H
   exact fin hk _ [(.int .i64 (-1))] rfl ⟨rfl, trivial⟩ ⟨rfl, (hs.pick [] rfl).dnil⟩
  ·have hk := hk.lit 10 c8 rfl
   refine cnd_false hk rfl rfl ?_
   refine wp_skip ?_
   refine hK6 _ _ ?_
   have hs := hs.pick [(4, 4)] rfl
   apply wp_seq_k; intro K10 hK10
   apply wp_region_lit
   refine sf ⟨b2, 1, none⟩ rfl hk rfl rfl rfl fd31_1 rfl fun a hk => ?_
   refine sl rfl hk rfl rfl rfl ag28 (box_cell hs (k := 4) rfl rfl) fun a hk => ?_
   refine sm _ rfl hk rfl rfl rfl fun a hk => ?_
   obtain ⟨y11, h12, H⟩ := bind_some H
   refine sc rfl en74 hk rfl rfl rfl (laws_heldBlockS_t _ A0_1 p0_1 x0.Stash _ v0_1 (hs.hasD (k := 2) rfl) y4 _ h12) ?_
   rintro _ w ⟨rfl, hG⟩ a hk
   have hs := hs.call0 hG
   refine sa _ rfl hk rfl rfl rfl fun a hk => ?_
   show wpList _ _ _ [] _ _
   refine wpList_nil ?_
   refine hK10 _ _ ?_
   apply wp_seq_k; intro K13 hK13
   apply wp_seq_k; intro K14 hK14
   apply wp_region_lit
   refine sm _ rfl hk rfl rfl rfl fun a hk => ?_
   refine sv (.bool (decide (y11 < 0))) hk rfl rfl rfl fun a hk => ?_
   show wpList _ _ _ [] _ _
   refine wpList_nil ?_
   refine hK14 _ _ ?_
   rcases cond_some H with ⟨c15, H⟩ | ⟨c15, H⟩
   ·have hk := hk.lit 16 c15 rfl
    refine cnd_true hk rfl rfl ?_
    apply wp_seq_k; intro K16 hK16
    apply wp_region_lit
    refine sa _ rfl hk rfl rfl rfl fun a hk => ?_
    show wpList _ _ _ [] _ _
    refine wpList_nil ?_
    refine hK16 _ _ ?_
    refine wp_ret ?_
    obtain rfl := Option.some.inj H
    exact fin hk _ [(.int .i64 (-1))] rfl ⟨rfl, trivial⟩ ⟨rfl, (hs.pick [] rfl).dnil⟩
   ·have hk := hk.lit 16 c15 rfl
    refine cnd_false hk rfl rfl ?_
    refine wp_skip ?_
    refine hK13 _ _ ?_
    apply wp_seq_k; intro K17 hK17
    apply wp_region_lit
    refine sf ⟨b2, 2, none⟩ rfl hk rfl rfl rfl fd31_2 rfl fun a hk => ?_
    refine sl rfl hk rfl rfl rfl ag29 (box_cell hs (k := 4) rfl rfl) fun a hk => ?_
    refine sm _ rfl hk rfl rfl rfl fun a hk => ?_
    obtain ⟨y18, h19, H⟩ := bind_some H
    refine sc rfl en75 hk rfl rfl rfl (laws_heldBlockSS_t _ A0_2 p0_2 x0.Buckets _ v0_2 (hs.hasD (k := 3) rfl) y11 _ h19) ?_
    rintro _ w ⟨rfl, hG⟩ a hk
    have hs := hs.call0 hG
    refine sa _ rfl hk rfl rfl rfl fun a hk => ?_
    show wpList _ _ _ [] _ _
    refine wpList_nil ?_
    refine hK17 _ _ ?_
    have hs := hs.pick [] rfl
    apply wp_seq_k; intro K20 hK20
    apply wp_seq_k; intro K21 hK21
    apply wp_region_lit
    refine sm _ rfl hk rfl rfl rfl fun a hk => ?_
    refine sv (.bool (decide (y18 < 0))) hk rfl rfl rfl fun a hk => ?_
    show wpList _ _ _ [] _ _
    refine wpList_nil ?_
    refine hK21 _ _ ?_
    rcases cond_some H with ⟨c22, H⟩ | ⟨c22, H⟩
    ·have hk := hk.lit 22 c22 rfl
     refine cnd_true hk rfl rfl ?_
     apply wp_seq_k; intro K23 hK23
     apply wp_region_lit
     refine sa _ rfl hk rfl rfl rfl fun a hk => ?_
     show wpList _ _ _ [] _ _
     refine wpList_nil ?_
     refine hK23 _ _ ?_
     refine wp_ret ?_
     obtain rfl := Option.some.inj H
     exact fin hk _ [(.int .i64 (-1))] rfl ⟨rfl, trivial⟩ ⟨rfl, (hs.pick [] rfl).dnil⟩
    ·have hk := hk.lit 22 c22 rfl
     refine cnd_false hk rfl rfl ?_
     refine wp_skip ?_
     refine hK20 _ _ ?_
     apply wp_seq_k; intro K24 hK24
     apply wp_region_lit
     refine sm _ rfl hk rfl rfl rfl fun a hk => ?_
     refine sa _ rfl hk rfl rfl rfl fun a hk => ?_
     show wpList _ _ _ [] _ _
     refine wpList_nil ?_
     refine hK24 _ _ ?_
     refine wp_ret ?_
     obtain rfl := Option.some.inj H
     exact fin hk _ [(.int .i64 y18)] rfl ⟨rfl, trivial⟩ ⟨rfl, (hs.pick [] rfl).dnil⟩

noncomputable def laws_FnExactAccess.f (x0 : S_Oram) (x1 : Int) (x2 : Bool) (x3 : Int) (x4 : Int) : Option (Bool) :=
  ((laws_szOram.f x0 1048576).bind fun y5 => (bif (decide (y5 < 0)) then (some true) else ((laws_toOram.f x0).bind fun y12 => ((spec_Access.f y12 x1 x2 x3 x4).bind fun y26 => ((laws_toOram.f x0).bind fun y42 => ((impl_Access.f y42 x1 x2 x3 x4).bind fun y58 => ((((laws_eqOram.f y58.1 y26.1).bind fun y81 => (bif (!y81) then (some true) else (bif (y58.2.1 != y26.2.1) then (some true) else (bif (y58.2.2.1 != y26.2.2.1) then (some true) else (some (y58.2.2.2 != y26.2.2.2)))))) : Option (Bool)).bind fun u76 => (bif u76 then (some false) else ((laws_toOram.f x0).bind fun y91 => ((laws_eqOram.f y42 y91).bind fun y105 => (bif (!y105) then (some false) else ((laws_markOram.f y42 1).bind fun y111 => (((bif (decide (y111.1 < 0)) then (some true) else ((laws_eqOram.f y58.1 y26.1).bind fun y134 => (bif (!y134) then (some true) else (bif (y58.2.1 != y26.2.1) then (some true) else (bif (y58.2.2.1 != y26.2.2.1) then (some true) else (some (y58.2.2.2 != y26.2.2.2))))))) : Option (Bool)).bind fun u128 => (bif u128 then (some false) else ((laws_markOram.f y58.1 1).bind fun y143 => ((laws_heldOram.f (⟨y143.2.1, y143.2.2.1, y143.2.2.2⟩ : S_Oram) 1).bind fun y159 => (bif (decide (y159 < 0)) then (some false) else (bif (y159 != y143.1) then (some false) else ((laws_toOram.f x0).bind fun y170 => ((impl_Access.f y170 x1 x2 x3 x4).bind fun y184 => ((((laws_eqOram.f y184.1 y26.1).bind fun y207 => (bif (!y207) then (some true) else (bif (y184.2.1 != y26.2.1) then (some true) else (bif (y184.2.2.1 != y26.2.2.1) then (some true) else (some (y184.2.2.2 != y26.2.2.2)))))) : Option (Bool)).bind fun u202 => (bif u202 then (some false) else ((laws_heldOram.f (⟨y143.2.1, y143.2.2.1, y143.2.2.2⟩ : S_Oram) 1).bind fun y216 => (bif (decide (y216 < 0)) then (some false) else (bif (y216 != y143.1) then (some false) else (some true))))))))))))))))))))))))))
set_option maxRecDepth 100000 in
set_option maxHeartbeats 0 in
theorem laws_FnExactAccess_t (w0 : World) (x0 : S_Oram) (A0_0 : Option Addr) (p0_0 : Nat) (k0_0 : Chunk) (v0_0 : View (Lay.int .i64) A0_0 p0_0 x0.Pos k0_0) (w0_0 : Has w0 k0_0) (A0_1 : Option Addr) (p0_1 : Nat) (k0_1 : Chunk) (v0_1 : View L_Block A0_1 p0_1 x0.Stash k0_1) (w0_1 : Has w0 k0_1) (A0_2 : Option Addr) (p0_2 : Nat) (k0_2 : Chunk) (v0_2 : View (Lay.sl L_Block 135) A0_2 p0_2 x0.Buckets k0_2) (w0_2 : Has w0 k0_2) (x1 : Int) (x2 : Bool) (x3 : Int) (x4 : Int) (r : Bool) (H : laws_FnExactAccess.f x0 x1 x2 x3 x4 = some r) :
    Calls Try.prog 3 #[.agg #[.slice A0_0 x0.Pos.length p0_0, .slice A0_1 x0.Stash.length p0_1, .slice A0_2 x0.Buckets.length p0_2], .int .i64 x1, .bool x2, .int .i64 x3, .int .i64 x4] w0 (Ret (fun v w => v = .bool r ∧ Sat [] w0 w [] [])) := by
  have hs : Sat [] w0 w0 [(1, k0_0), (2, k0_1), (3, k0_2)] [] := Sat.init w0 [(1, k0_0), (2, k0_1), (3, k0_2)] [] (by simp only [List.mem_cons, List.not_mem_nil, or_false]; rintro x (rfl | rfl | rfl) <;> assumption) (by simp) List.nodup_nil (by simp [blks])
  unfold laws_FnExactAccess.f at H
  refine enter Try.func3 rfl Try.ntmps3 rfl fun a hk => ?_
  apply wp_seq_k; intro K1 hK1
  apply wp_region_lit
  refine sbx 4 hs rfl hk rfl rfl rfl rfl fun b2 w a hk hs => ?_
  refine sa _ rfl hk rfl rfl rfl fun a hk => ?_
  show wpList _ _ _ [] _ _
  refine wpList_nil ?_
  refine hK1 _ _ ?_
  apply wp_seq_k; intro K3 hK3
  apply wp_region_lit
  refine sa _ rfl hk rfl rfl rfl fun a hk => ?_
  show wpList _ _ _ [] _ _
  refine wpList_nil ?_
  refine hK3 _ _ ?_
  apply wp_seq_k; intro K4 hK4
  apply wp_region_lit
  refine sln [.slice A0_0 x0.Pos.length p0_0, .slice A0_1 x0.Stash.length p0_1, .slice A0_2 x0.Buckets.length p0_2] rfl hk rfl rfl rfl ag26 sz26 (box_cells hs (k := 4) rfl) fun a hk => ?_
  refine sm _ rfl hk rfl rfl rfl fun a hk => ?_
  obtain ⟨y5, h6, H⟩ := bind_some H
  refine sc rfl en9 hk rfl rfl rfl (laws_szOram_t _ x0 A0_0 p0_0 _ v0_0 (hs.hasD (k := 1) rfl) A0_1 p0_1 _ v0_1 (hs.hasD (k := 2) rfl) A0_2 p0_2 _ v0_2 (hs.hasD (k := 3) rfl) 1048576 _ h6) ?_
  rintro _ w ⟨rfl, hG⟩ a hk
  have hs := hs.call0 hG
  refine sa _ rfl hk rfl rfl rfl fun a hk => ?_
  show wpList _ _ _ [] _ _
  refine wpList_nil ?_
  refine hK4 _ _ ?_
  apply wp_seq_k; intro K7 hK7
  apply wp_seq_k; intro K8 hK8
  apply wp_region_lit
  refine sm _ rfl hk rfl rfl rfl fun a hk => ?_
  refine sv (.bool (decide (y5 < 0))) hk rfl rfl rfl fun a hk => ?_
  show wpList _ _ _ [] _ _
  refine wpList_nil ?_
  refine hK8 _ _ ?_
  have hs := hs.pick [(4, 4)] rfl
  rcases cond_some H with ⟨c9, H⟩ | ⟨c9, H⟩
  ·have hk := hk.lit 32 c9 rfl
   refine cnd_true hk rfl rfl ?_
   apply wp_seq_k; intro K10 hK10
   apply wp_region_lit
   refine sa _ rfl hk rfl rfl rfl fun a hk => ?_
   show wpList _ _ _ [] _ _
   refine wpList_nil ?_
   refine hK10 _ _ ?_
   refine wp_ret ?_
   obtain rfl := Option.some.inj H
   exact fin hk _ [(.bool true)] rfl ⟨rfl, trivial⟩ ⟨rfl, (hs.pick [] rfl).dnil⟩
  ·have hk := hk.lit 32 c9 rfl
   refine cnd_false hk rfl rfl ?_
   refine wp_skip ?_
   refine hK7 _ _ ?_
   apply wp_seq_k; intro K11 hK11
   apply wp_region_lit
   refine sln [.slice A0_0 x0.Pos.length p0_0, .slice A0_1 x0.Stash.length p0_1, .slice A0_2 x0.Buckets.length p0_2] rfl hk rfl rfl rfl ag26 sz26 (box_cells hs (k := 4) rfl) fun a hk => ?_
   obtain ⟨y12, h13, H⟩ := bind_some H
   refine sc rfl en11 hk rfl rfl rfl (laws_toOram_t _ x0 A0_0 p0_0 _ v0_0 (hs.hasD (k := 1) rfl) A0_1 p0_1 _ v0_1 (hs.hasD (k := 2) rfl) A0_2 p0_2 _ v0_2 (hs.hasD (k := 3) rfl) _ h13) ?_
   rintro _ w ⟨A14, p15, k16, A18, p19, k20, A22, p23, k24, rfl, o17, o21, o25, hG⟩ a hk
   have hs := hs.call0k hG [5, 6, 7] rfl
   refine sm _ rfl hk rfl rfl rfl fun a hk => ?_
   refine sm _ rfl hk rfl rfl rfl fun a hk => ?_
   refine sm _ rfl hk rfl rfl rfl fun a hk => ?_
   refine sm _ rfl hk rfl rfl rfl fun a hk => ?_
   obtain ⟨y26, h27, H⟩ := bind_some H
   refine sc rfl en10 hk rfl rfl rfl (spec_Access_t _ y12 A14 p15 _ o17.view (hs.hasG (k := 5) rfl) A18 p19 _ o21.view (hs.hasG (k := 6) rfl) A22 p23 _ o25.view (hs.hasG (k := 7) rfl) x1 x2 x3 x4 _ h27) ?_
   rintro _ w ⟨A28, p29, k30, A32, p33, k34, A36, p37, k38, rfl, o31, o35, o39, hG⟩ a hk
   have hs := hs.call0k hG [8, 9, 10] rfl
   refine sm _ rfl hk rfl rfl rfl fun a hk => ?_
   refine sv (.agg #[.slice A28 y26.1.Pos.length p29, .slice A32 y26.1.Stash.length p33, .slice A36 y26.1.Buckets.length p37]) hk rfl rfl rfl fun a hk => ?_
   refine sv (.int .i64 y26.2.1) hk rfl rfl rfl fun a hk => ?_
   refine sv (.int .i64 y26.2.2.1) hk rfl rfl rfl fun a hk => ?_
   refine sv (.int .i64 y26.2.2.2) hk rfl rfl rfl fun a hk => ?_
   refine salx 11 hs rfl hk rfl rfl ze31 rfl fun b40 w a hk hs => ?_
   refine ssw 11 hs rfl rfl hk rfl rfl rfl rfl sz31 (by simp [Value.oneCell']) rfl fun w a hk hs => ?_
   refine sa _ rfl hk rfl rfl rfl fun a hk => ?_
   refine sa _ rfl hk rfl rfl rfl fun a hk => ?_
   refine sa _ rfl hk rfl rfl rfl fun a hk => ?_
   show wpList _ _ _ [] _ _
   refine wpList_nil ?_
   refine hK11 _ _ ?_
   apply wp_seq_k; intro K41 hK41
   apply wp_region_lit
   refine sln [.slice A0_0 x0.Pos.length p0_0, .slice A0_1 x0.Stash.length p0_1, .slice A0_2 x0.Buckets.length p0_2] rfl hk rfl rfl rfl ag26 sz26 (box_cells hs (k := 4) rfl) fun a hk => ?_
   obtain ⟨y42, h43, H⟩ := bind_some H
   refine sc rfl en11 hk rfl rfl rfl (laws_toOram_t _ x0 A0_0 p0_0 _ v0_0 (hs.hasD (k := 1) rfl) A0_1 p0_1 _ v0_1 (hs.hasD (k := 2) rfl) A0_2 p0_2 _ v0_2 (hs.hasD (k := 3) rfl) _ h43) ?_
   rintro _ w ⟨A44, p45, k46, A48, p49, k50, A52, p53, k54, rfl, o47, o51, o55, hG⟩ a hk
   have hs := hs.call0k hG [12, 13, 14] rfl
   refine salx 15 hs rfl hk rfl rfl ze31 rfl fun b56 w a hk hs => ?_
   refine ssw 15 hs rfl rfl hk rfl rfl rfl rfl sz31 (by simp [Value.oneCell']) rfl fun w a hk hs => ?_
   show wpList _ _ _ [] _ _
   refine wpList_nil ?_
   refine hK41 _ _ ?_
   apply wp_seq_k; intro K57 hK57
   apply wp_region_lit
   refine sln [.slice A44 y42.Pos.length p45, .slice A48 y42.Stash.length p49, .slice A52 y42.Buckets.length p53] rfl hk rfl rfl rfl ag31 sz31 (box_cells hs (k := 15) rfl) fun a hk => ?_
   refine sm _ rfl hk rfl rfl rfl fun a hk => ?_
   refine sm _ rfl hk rfl rfl rfl fun a hk => ?_
   refine sm _ rfl hk rfl rfl rfl fun a hk => ?_
   refine sm _ rfl hk rfl rfl rfl fun a hk => ?_
   obtain ⟨y58, h59, H⟩ := bind_some H
   refine sc rfl en12 hk rfl rfl rfl (impl_Access_t _ y42 A44 p45 _ o47.view (hs.hasG (k := 12) rfl) A48 p49 _ o51.view (hs.hasG (k := 13) rfl) A52 p53 _ o55.view (hs.hasG (k := 14) rfl) x1 x2 x3 x4 _ h59) ?_
   rintro _ w ⟨A60, p61, k62, A64, p65, k66, A68, p69, k70, rfl, o63, o67, o71, hG⟩ a hk
   have hs := hs.call0k hG [16, 17, 18] rfl
   refine sm _ rfl hk rfl rfl rfl fun a hk => ?_
   refine sv (.agg #[.slice A60 y58.1.Pos.length p61, .slice A64 y58.1.Stash.length p65, .slice A68 y58.1.Buckets.length p69]) hk rfl rfl rfl fun a hk => ?_
   refine sv (.int .i64 y58.2.1) hk rfl rfl rfl fun a hk => ?_
   refine sv (.int .i64 y58.2.2.1) hk rfl rfl rfl fun a hk => ?_
   refine sv (.int .i64 y58.2.2.2) hk rfl rfl rfl fun a hk => ?_
   refine salx 19 hs rfl hk rfl rfl ze31 rfl fun b72 w a hk hs => ?_
   refine ssw 19 hs rfl rfl hk rfl rfl rfl rfl sz31 (by simp [Value.oneCell']) rfl fun w a hk hs => ?_
   refine sa _ rfl hk rfl rfl rfl fun a hk => ?_
   refine sa _ rfl hk rfl rfl rfl fun a hk => ?_
   refine sa _ rfl hk rfl rfl rfl fun a hk => ?_
   show wpList _ _ _ [] _ _
   refine wpList_nil ?_
   refine hK57 _ _ ?_
   have hs := hs.pick [(4, 4), (11, 11), (8, 8), (9, 9), (10, 10), (15, 15), (12, 12), (13, 13), (14, 14), (19, 19), (16, 16), (17, 17), (18, 18)] rfl
   apply wp_seq_k; intro K73 hK73
   apply wp_seq_k; intro K74 hK74
   obtain ⟨o77, h78, HL79⟩ := bind_some H
   clear H
   obtain ⟨R80, hR80⟩ : ∃ R : Act → World → Prop, R = fun a w => ∃ (u76 : Bool), u76 = o77 ∧ Kn [(1, (.int .i64 x1)), (2, (.bool x2)), (3, (.int .i64 x3)), (4, (.int .i64 x4)), (5, (.pointer (some ⟨b2, 0, none⟩))), (12, (.pointer (some ⟨b40, 0, none⟩))), (13, (.int .i64 y26.2.1)), (14, (.int .i64 y26.2.2.1)), (15, (.int .i64 y26.2.2.2)), (16, (.pointer (some ⟨b56, 0, none⟩))), (17, (.pointer (some ⟨b72, 0, none⟩))), (18, (.int .i64 y58.2.1)), (19, (.int .i64 y58.2.2.1)), (20, (.int .i64 y58.2.2.2)), (76, (.bool u76))] 158 a ∧ Sat [] w0 w [(1, k0_0), (2, k0_1), (3, k0_2)] [(4, [(b2, .cells #[.slice A0_0 x0.Pos.length p0_0, .slice A0_1 x0.Stash.length p0_1, .slice A0_2 x0.Buckets.length p0_2] 26 (0, 0))]), (11, [(b40, .cells #[.slice A28 y26.1.Pos.length p29, .slice A32 y26.1.Stash.length p33, .slice A36 y26.1.Buckets.length p37] 31 (0, 0))]), (8, k30), (9, k34), (10, k38), (15, [(b56, .cells #[.slice A44 y42.Pos.length p45, .slice A48 y42.Stash.length p49, .slice A52 y42.Buckets.length p53] 31 (0, 0))]), (12, k46), (13, k50), (14, k54), (19, [(b72, .cells #[.slice A60 y58.1.Pos.length p61, .slice A64 y58.1.Stash.length p65, .slice A68 y58.1.Buckets.length p69] 31 (0, 0))]), (16, k62), (17, k66), (18, k70)] := ⟨_, rfl⟩
   refine wp_cutq R80 ?_ ?_
   ·have H := h78
    apply wp_region_lit
    refine sln [.slice A60 y58.1.Pos.length p61, .slice A64 y58.1.Stash.length p65, .slice A68 y58.1.Buckets.length p69] rfl hk rfl rfl rfl ag31 sz31 (box_cells hs (k := 19) rfl) fun a hk => ?_
    refine sln [.slice A28 y26.1.Pos.length p29, .slice A32 y26.1.Stash.length p33, .slice A36 y26.1.Buckets.length p37] rfl hk rfl rfl rfl ag31 sz31 (box_cells hs (k := 11) rfl) fun a hk => ?_
    obtain ⟨y81, h82, H⟩ := bind_some H
    refine sc rfl en13 hk rfl rfl rfl (laws_eqOram_t _ y58.1 A60 p61 _ o63.view (hs.hasG (k := 16) rfl) A64 p65 _ o67.view (hs.hasG (k := 17) rfl) A68 p69 _ o71.view (hs.hasG (k := 18) rfl) y26.1 A28 p29 _ o31.view (hs.hasG (k := 8) rfl) A32 p33 _ o35.view (hs.hasG (k := 9) rfl) A36 p37 _ o39.view (hs.hasG (k := 10) rfl) _ h82) ?_
    rintro _ w ⟨rfl, hG⟩ a hk
    have hs := hs.call0 hG
    refine sv (.bool (!y81)) hk rfl rfl rfl fun a hk => ?_
    refine sm _ rfl hk rfl rfl rfl fun a hk => ?_
    rcases cond_some H with ⟨c83, H⟩ | ⟨c83, H⟩
    ·have hk := hk.lit 62 c83 rfl
     refine sk hk rfl rfl rfl fun a hk => ?_
     refine sk hk rfl rfl rfl fun a hk => ?_
     refine sk hk rfl rfl rfl fun a hk => ?_
     refine sv (.bool true) hk rfl rfl rfl fun a hk => ?_
     refine sm _ rfl hk rfl rfl rfl fun a hk => ?_
     refine sk hk rfl rfl rfl fun a hk => ?_
     refine sk hk rfl rfl rfl fun a hk => ?_
     refine sk hk rfl rfl rfl fun a hk => ?_
     refine sv (.bool true) hk rfl rfl rfl fun a hk => ?_
     refine sm _ rfl hk rfl rfl rfl fun a hk => ?_
     refine sk hk rfl rfl rfl fun a hk => ?_
     refine sk hk rfl rfl rfl fun a hk => ?_
     refine sk hk rfl rfl rfl fun a hk => ?_
     refine sv (.bool true) hk rfl rfl rfl fun a hk => ?_
     show wpList _ _ _ [] _ _
     refine wpList_nil ?_
     obtain rfl := Option.some.inj H
     show R80 _ _
     rw [hR80]
     exact ⟨true, rfl, (hk.c 1 rfl (hk.c 2 rfl (hk.c 3 rfl (hk.c 4 rfl (hk.c 5 rfl (hk.c 12 rfl (hk.c 13 rfl (hk.c 14 rfl (hk.c 15 rfl (hk.c 16 rfl (hk.c 17 rfl (hk.c 18 rfl (hk.c 19 rfl (hk.c 20 rfl (hk.c 76 rfl hk.k))))))))))))))), (hs.pick [(4, 4), (11, 11), (8, 8), (9, 9), (10, 10), (15, 15), (12, 12), (13, 13), (14, 14), (19, 19), (16, 16), (17, 17), (18, 18)] rfl)⟩
    ·have hk := hk.lit 62 c83 rfl
     refine sm _ rfl hk rfl rfl rfl fun a hk => ?_
     refine sm _ rfl hk rfl rfl rfl fun a hk => ?_
     refine sv (.bool (y58.2.1 != y26.2.1)) hk rfl rfl rfl fun a hk => ?_
     refine sv (.bool (y58.2.1 != y26.2.1)) hk rfl rfl rfl fun a hk => ?_
     refine sm _ rfl hk rfl rfl rfl fun a hk => ?_
     rcases cond_some H with ⟨c84, H⟩ | ⟨c84, H⟩
     ·have hk := hk.lit 67 c84 rfl
      refine sk hk rfl rfl rfl fun a hk => ?_
      refine sk hk rfl rfl rfl fun a hk => ?_
      refine sk hk rfl rfl rfl fun a hk => ?_
      refine sv (.bool true) hk rfl rfl rfl fun a hk => ?_
      refine sm _ rfl hk rfl rfl rfl fun a hk => ?_
      refine sk hk rfl rfl rfl fun a hk => ?_
      refine sk hk rfl rfl rfl fun a hk => ?_
      refine sk hk rfl rfl rfl fun a hk => ?_
      refine sv (.bool true) hk rfl rfl rfl fun a hk => ?_
      show wpList _ _ _ [] _ _
      refine wpList_nil ?_
      obtain rfl := Option.some.inj H
      show R80 _ _
      rw [hR80]
      exact ⟨true, rfl, (hk.c 1 rfl (hk.c 2 rfl (hk.c 3 rfl (hk.c 4 rfl (hk.c 5 rfl (hk.c 12 rfl (hk.c 13 rfl (hk.c 14 rfl (hk.c 15 rfl (hk.c 16 rfl (hk.c 17 rfl (hk.c 18 rfl (hk.c 19 rfl (hk.c 20 rfl (hk.c 76 rfl hk.k))))))))))))))), (hs.pick [(4, 4), (11, 11), (8, 8), (9, 9), (10, 10), (15, 15), (12, 12), (13, 13), (14, 14), (19, 19), (16, 16), (17, 17), (18, 18)] rfl)⟩
     ·have hk := hk.lit 67 c84 rfl
      refine sm _ rfl hk rfl rfl rfl fun a hk => ?_
      refine sm _ rfl hk rfl rfl rfl fun a hk => ?_
      refine sv (.bool (y58.2.2.1 != y26.2.2.1)) hk rfl rfl rfl fun a hk => ?_
      refine sv (.bool (y58.2.2.1 != y26.2.2.1)) hk rfl rfl rfl fun a hk => ?_
      refine sm _ rfl hk rfl rfl rfl fun a hk => ?_
      rcases cond_some H with ⟨c85, H⟩ | ⟨c85, H⟩
      ·have hk := hk.lit 72 c85 rfl
       refine sk hk rfl rfl rfl fun a hk => ?_
       refine sk hk rfl rfl rfl fun a hk => ?_
       refine sk hk rfl rfl rfl fun a hk => ?_
       refine sv (.bool true) hk rfl rfl rfl fun a hk => ?_
       show wpList _ _ _ [] _ _
       refine wpList_nil ?_
       obtain rfl := Option.some.inj H
       show R80 _ _
       rw [hR80]
       exact ⟨true, rfl, (hk.c 1 rfl (hk.c 2 rfl (hk.c 3 rfl (hk.c 4 rfl (hk.c 5 rfl (hk.c 12 rfl (hk.c 13 rfl (hk.c 14 rfl (hk.c 15 rfl (hk.c 16 rfl (hk.c 17 rfl (hk.c 18 rfl (hk.c 19 rfl (hk.c 20 rfl (hk.c 76 rfl hk.k))))))))))))))), (hs.pick [(4, 4), (11, 11), (8, 8), (9, 9), (10, 10), (15, 15), (12, 12), (13, 13), (14, 14), (19, 19), (16, 16), (17, 17), (18, 18)] rfl)⟩
      ·have hk := hk.lit 72 c85 rfl
       refine sm _ rfl hk rfl rfl rfl fun a hk => ?_
       refine sm _ rfl hk rfl rfl rfl fun a hk => ?_
       refine sv (.bool (y58.2.2.2 != y26.2.2.2)) hk rfl rfl rfl fun a hk => ?_
       refine sv (.bool (y58.2.2.2 != y26.2.2.2)) hk rfl rfl rfl fun a hk => ?_
       show wpList _ _ _ [] _ _
       refine wpList_nil ?_
       obtain rfl := Option.some.inj H
       show R80 _ _
       rw [hR80]
       exact ⟨(y58.2.2.2 != y26.2.2.2), rfl, (hk.c 1 rfl (hk.c 2 rfl (hk.c 3 rfl (hk.c 4 rfl (hk.c 5 rfl (hk.c 12 rfl (hk.c 13 rfl (hk.c 14 rfl (hk.c 15 rfl (hk.c 16 rfl (hk.c 17 rfl (hk.c 18 rfl (hk.c 19 rfl (hk.c 20 rfl (hk.c 76 rfl hk.k))))))))))))))), (hs.pick [(4, 4), (11, 11), (8, 8), (9, 9), (10, 10), (15, 15), (12, 12), (13, 13), (14, 14), (19, 19), (16, 16), (17, 17), (18, 18)] rfl)⟩
   ·intro a w hR0
    rw [hR80] at hR0
    obtain ⟨u76, rfl, hk, hs⟩ := hR0
    have H := HL79
    try dsimp only at H
    refine hK74 _ _ ?_
    rcases cond_some H with ⟨c86, H⟩ | ⟨c86, H⟩
    ·have hk := hk.lit 76 c86 rfl
     refine cnd_true hk rfl rfl ?_
     apply wp_seq_k; intro K87 hK87
     apply wp_region_lit
     refine sa _ rfl hk rfl rfl rfl fun a hk => ?_
     show wpList _ _ _ [] _ _
     refine wpList_nil ?_
     refine hK87 _ _ ?_
     refine wp_ret ?_
     obtain rfl := Option.some.inj H
     exact fin hk _ [(.bool false)] rfl ⟨rfl, trivial⟩ ⟨rfl, (hs.pick [] rfl).dnil⟩
    ·have hk := hk.lit 76 c86 rfl
     refine cnd_false hk rfl rfl ?_
     refine wp_skip ?_
     refine hK73 _ _ ?_
     apply wp_seq_k; intro K88 hK88
     apply wp_seq_k; intro K89 hK89
     refine wp_region_tree (.q 0 (.alt 1 (.alt 2 (.alt 3 (.alt 4 .done .stop) .stop) .stop) .stop)) mo (by kernel_rfl) (hs.pick [(4, 4), (11, 11), (8, 8), (9, 9), (10, 10), (15, 15), (12, 12), (13, 13), (14, 14), (19, 19), (16, 16), (17, 17), (18, 18)] rfl) fun _ => ?_
     have hs := hs.drew
     refine tqst (.agg #[.slice A44 y42.Pos.length p45, .slice A48 y42.Stash.length p49, .slice A52 y42.Buckets.length p53]) hk rfl rfl rfl rfl (fun w hs => sln [.slice A44 y42.Pos.length p45, .slice A48 y42.Stash.length p49, .slice A52 y42.Buckets.length p53] rfl hk rfl rfl rfl ag31 sz31 (box_cells hs (k := 15) rfl) fun a hk => qe hk) fun a hk => ?_
     refine tsst hk rfl rfl (fun K_r90_1 hK_r90_1 w hF => ?_) wt_stop
     have hs := hs.f hF
     refine sln [.slice A0_0 x0.Pos.length p0_0, .slice A0_1 x0.Stash.length p0_1, .slice A0_2 x0.Buckets.length p0_2] rfl hk rfl rfl rfl ag26 sz26 (box_cells hs (k := 4) rfl) fun a hk => ?_
     refine se (hs.pick [(4, 4), (11, 11), (8, 8), (9, 9), (10, 10), (15, 15), (12, 12), (13, 13), (14, 14), (19, 19), (16, 16), (17, 17), (18, 18)] rfl) hk (hK_r90_1 _ _ ?_)
     refine tsst hk rfl rfl (fun K_r90_2 hK_r90_2 w hF => ?_) wt_stop
     have hs := hs.f hF
     obtain ⟨y91, h92, H⟩ := bind_some H
     refine sc rfl en11 hk rfl rfl rfl (laws_toOram_t _ x0 A0_0 p0_0 _ v0_0 (hs.hasD (k := 1) rfl) A0_1 p0_1 _ v0_1 (hs.hasD (k := 2) rfl) A0_2 p0_2 _ v0_2 (hs.hasD (k := 3) rfl) _ h92) ?_
     rintro _ w ⟨A93, p94, k95, A97, p98, k99, A101, p102, k103, rfl, o96, o100, o104, hG⟩ a hk
     have hs := hs.call0k hG [22, 23, 24] rfl
     refine se (hs.pick [(4, 4), (11, 11), (8, 8), (9, 9), (10, 10), (15, 15), (12, 12), (13, 13), (14, 14), (19, 19), (16, 16), (17, 17), (18, 18)] rfl) hk (hK_r90_2 _ _ ?_)
     refine tsst hk rfl rfl (fun K_r90_3 hK_r90_3 w hF => ?_) wt_stop
     have hs := hs.f hF
     obtain ⟨y105, h106, H⟩ := bind_some H
     refine sc rfl en13 hk rfl rfl rfl (laws_eqOram_t _ y42 A44 p45 _ o47.view (hs.hasG (k := 12) rfl) A48 p49 _ o51.view (hs.hasG (k := 13) rfl) A52 p53 _ o55.view (hs.hasG (k := 14) rfl) y91 A93 p94 _ o96.view (hs.hasG (k := 22) rfl) A97 p98 _ o100.view (hs.hasG (k := 23) rfl) A101 p102 _ o104.view (hs.hasG (k := 24) rfl) _ h106) ?_
     rintro _ w ⟨rfl, hG⟩ a hk
     have hs := hs.call0 hG
     refine se (hs.pick [(4, 4), (11, 11), (8, 8), (9, 9), (10, 10), (15, 15), (12, 12), (13, 13), (14, 14), (19, 19), (16, 16), (17, 17), (18, 18)] rfl) hk (hK_r90_3 _ _ ?_)
     refine tsst hk rfl rfl (fun K_r90_4 hK_r90_4 w hF => ?_) wt_stop
     have hs := hs.f hF
     refine sv (.bool (!y105)) hk rfl rfl rfl fun a hk => ?_
     refine se (hs.pick [(4, 4), (11, 11), (8, 8), (9, 9), (10, 10), (15, 15), (12, 12), (13, 13), (14, 14), (19, 19), (16, 16), (17, 17), (18, 18)] rfl) hk (hK_r90_4 _ _ ?_)
     refine wtl_nil fun w hF _ => ?_
     have hs := hs.f hF
     refine hK89 _ _ ?_
     rcases cond_some H with ⟨c107, H⟩ | ⟨c107, H⟩
     ·have hk := hk.lit 81 c107 rfl
      refine cnd_true hk rfl rfl ?_
      apply wp_seq_k; intro K108 hK108
      apply wp_region_lit
      refine sa _ rfl hk rfl rfl rfl fun a hk => ?_
      show wpList _ _ _ [] _ _
      refine wpList_nil ?_
      refine hK108 _ _ ?_
      have hs := hs.pick [] rfl
      refine wp_ret ?_
      obtain rfl := Option.some.inj H
      exact fin hk _ [(.bool false)] rfl ⟨rfl, trivial⟩ ⟨rfl, (hs.pick [] rfl).dnil⟩
     ·have hk := hk.lit 81 c107 rfl
      refine cnd_false hk rfl rfl ?_
      refine wp_skip ?_
      refine hK88 _ _ ?_
      have hs := hs.pick [(4, 4), (11, 11), (8, 8), (9, 9), (10, 10), (15, 15), (12, 12), (13, 13), (14, 14), (19, 19), (16, 16), (17, 17), (18, 18)] rfl
      apply wp_seq_k; intro K109 hK109
      apply wp_region_lit
      refine sa _ rfl hk rfl rfl rfl fun a hk => ?_
      show wpList _ _ _ [] _ _
      refine wpList_nil ?_
      refine hK109 _ _ ?_
      apply wp_seq_k; intro K110 hK110
      apply wp_region_lit
      refine sln [.slice A44 y42.Pos.length p45, .slice A48 y42.Stash.length p49, .slice A52 y42.Buckets.length p53] rfl hk rfl rfl rfl ag31 sz31 (box_cells hs (k := 15) rfl) fun a hk => ?_
      refine sm _ rfl hk rfl rfl rfl fun a hk => ?_
      obtain ⟨y111, h112, H⟩ := bind_some H
      refine sc rfl en14 hk rfl rfl rfl (laws_markOram_t _ y42 A44 p45 _ o47 A48 p49 _ o51 A52 p53 _ o55 1 ((hs.hand [(1, 12), (2, 13), (3, 14)] rfl).dpick [] rfl) _ h112) ?_
      rintro _ w ⟨k113, k116, k119, rfl, ⟨o114, lh115⟩, ⟨o117, lh118⟩, ⟨o120, lh121⟩, hG⟩ a hk
      have hs := hs.back [(1, 12), (2, 13), (3, 14)] rfl hG [12, 13, 14] rfl
      have lh122 : y111.2.1.length = y42.Pos.length := lh115
      have lh123 : y111.2.2.1.length = y42.Stash.length := lh118
      have lh124 : y111.2.2.2.length = y42.Buckets.length := lh121
      refine sa _ rfl hk rfl rfl rfl fun a hk => ?_
      show wpList _ _ _ [] _ _
      refine wpList_nil ?_
      refine hK110 _ _ ?_
      apply wp_seq_k; intro K125 hK125
      apply wp_seq_k; intro K126 hK126
      obtain ⟨o129, h130, HL131⟩ := bind_some H
      clear H
      obtain ⟨R132, hR132⟩ : ∃ R : Act → World → Prop, R = fun a w => ∃ (u128 : Bool), u128 = o129 ∧ Kn [(1, (.int .i64 x1)), (2, (.bool x2)), (3, (.int .i64 x3)), (4, (.int .i64 x4)), (5, (.pointer (some ⟨b2, 0, none⟩))), (12, (.pointer (some ⟨b40, 0, none⟩))), (13, (.int .i64 y26.2.1)), (14, (.int .i64 y26.2.2.1)), (15, (.int .i64 y26.2.2.2)), (17, (.pointer (some ⟨b72, 0, none⟩))), (107, (.bool u128))] 158 a ∧ Sat [] w0 w [(1, k0_0), (2, k0_1), (3, k0_2)] [(4, [(b2, .cells #[.slice A0_0 x0.Pos.length p0_0, .slice A0_1 x0.Stash.length p0_1, .slice A0_2 x0.Buckets.length p0_2] 26 (0, 0))]), (11, [(b40, .cells #[.slice A28 y26.1.Pos.length p29, .slice A32 y26.1.Stash.length p33, .slice A36 y26.1.Buckets.length p37] 31 (0, 0))]), (8, k30), (9, k34), (10, k38), (19, [(b72, .cells #[.slice A60 y58.1.Pos.length p61, .slice A64 y58.1.Stash.length p65, .slice A68 y58.1.Buckets.length p69] 31 (0, 0))]), (16, k62), (17, k66), (18, k70)] := ⟨_, rfl⟩
      refine wp_cutq R132 ?_ ?_
      ·have H := h130
       apply wp_region_lit
       refine sm _ rfl hk rfl rfl rfl fun a hk => ?_
       refine sv (.bool (decide (y111.1 < 0))) hk rfl rfl rfl fun a hk => ?_
       refine sm _ rfl hk rfl rfl rfl fun a hk => ?_
       rcases cond_some H with ⟨c133, H⟩ | ⟨c133, H⟩
       ·have hk := hk.lit 87 c133 rfl
        refine sk hk rfl rfl rfl fun a hk => ?_
        refine sk hk rfl rfl rfl fun a hk => ?_
        refine sk hk rfl rfl rfl fun a hk => ?_
        refine sk hk rfl rfl rfl fun a hk => ?_
        refine sv (.bool true) hk rfl rfl rfl fun a hk => ?_
        refine sm _ rfl hk rfl rfl rfl fun a hk => ?_
        refine sk hk rfl rfl rfl fun a hk => ?_
        refine sk hk rfl rfl rfl fun a hk => ?_
        refine sk hk rfl rfl rfl fun a hk => ?_
        refine sv (.bool true) hk rfl rfl rfl fun a hk => ?_
        refine sm _ rfl hk rfl rfl rfl fun a hk => ?_
        refine sk hk rfl rfl rfl fun a hk => ?_
        refine sk hk rfl rfl rfl fun a hk => ?_
        refine sk hk rfl rfl rfl fun a hk => ?_
        refine sv (.bool true) hk rfl rfl rfl fun a hk => ?_
        refine sm _ rfl hk rfl rfl rfl fun a hk => ?_
        refine sk hk rfl rfl rfl fun a hk => ?_
        refine sk hk rfl rfl rfl fun a hk => ?_
        refine sk hk rfl rfl rfl fun a hk => ?_
        refine sv (.bool true) hk rfl rfl rfl fun a hk => ?_
        show wpList _ _ _ [] _ _
        refine wpList_nil ?_
        obtain rfl := Option.some.inj H
        show R132 _ _
        rw [hR132]
        exact ⟨true, rfl, (hk.c 1 rfl (hk.c 2 rfl (hk.c 3 rfl (hk.c 4 rfl (hk.c 5 rfl (hk.c 12 rfl (hk.c 13 rfl (hk.c 14 rfl (hk.c 15 rfl (hk.c 17 rfl (hk.c 107 rfl hk.k))))))))))), (hs.pick [(4, 4), (11, 11), (8, 8), (9, 9), (10, 10), (19, 19), (16, 16), (17, 17), (18, 18)] rfl)⟩
       ·have hk := hk.lit 87 c133 rfl
        refine sln [.slice A60 y58.1.Pos.length p61, .slice A64 y58.1.Stash.length p65, .slice A68 y58.1.Buckets.length p69] rfl hk rfl rfl rfl ag31 sz31 (box_cells hs (k := 19) rfl) fun a hk => ?_
        refine sln [.slice A28 y26.1.Pos.length p29, .slice A32 y26.1.Stash.length p33, .slice A36 y26.1.Buckets.length p37] rfl hk rfl rfl rfl ag31 sz31 (box_cells hs (k := 11) rfl) fun a hk => ?_
        obtain ⟨y134, h135, H⟩ := bind_some H
        refine sc rfl en13 hk rfl rfl rfl (laws_eqOram_t _ y58.1 A60 p61 _ o63.view (hs.hasG (k := 16) rfl) A64 p65 _ o67.view (hs.hasG (k := 17) rfl) A68 p69 _ o71.view (hs.hasG (k := 18) rfl) y26.1 A28 p29 _ o31.view (hs.hasG (k := 8) rfl) A32 p33 _ o35.view (hs.hasG (k := 9) rfl) A36 p37 _ o39.view (hs.hasG (k := 10) rfl) _ h135) ?_
        rintro _ w ⟨rfl, hG⟩ a hk
        have hs := hs.call0 hG
        refine sv (.bool (!y134)) hk rfl rfl rfl fun a hk => ?_
        refine sv (.bool (!y134)) hk rfl rfl rfl fun a hk => ?_
        refine sm _ rfl hk rfl rfl rfl fun a hk => ?_
        rcases cond_some H with ⟨c136, H⟩ | ⟨c136, H⟩
        ·have hk := hk.lit 93 c136 rfl
         refine sk hk rfl rfl rfl fun a hk => ?_
         refine sk hk rfl rfl rfl fun a hk => ?_
         refine sk hk rfl rfl rfl fun a hk => ?_
         refine sv (.bool true) hk rfl rfl rfl fun a hk => ?_
         refine sm _ rfl hk rfl rfl rfl fun a hk => ?_
         refine sk hk rfl rfl rfl fun a hk => ?_
         refine sk hk rfl rfl rfl fun a hk => ?_
         refine sk hk rfl rfl rfl fun a hk => ?_
         refine sv (.bool true) hk rfl rfl rfl fun a hk => ?_
         refine sm _ rfl hk rfl rfl rfl fun a hk => ?_
         refine sk hk rfl rfl rfl fun a hk => ?_
         refine sk hk rfl rfl rfl fun a hk => ?_
         refine sk hk rfl rfl rfl fun a hk => ?_
         refine sv (.bool true) hk rfl rfl rfl fun a hk => ?_
         show wpList _ _ _ [] _ _
         refine wpList_nil ?_
         obtain rfl := Option.some.inj H
         show R132 _ _
         rw [hR132]
         exact ⟨true, rfl, (hk.c 1 rfl (hk.c 2 rfl (hk.c 3 rfl (hk.c 4 rfl (hk.c 5 rfl (hk.c 12 rfl (hk.c 13 rfl (hk.c 14 rfl (hk.c 15 rfl (hk.c 17 rfl (hk.c 107 rfl hk.k))))))))))), (hs.pick [(4, 4), (11, 11), (8, 8), (9, 9), (10, 10), (19, 19), (16, 16), (17, 17), (18, 18)] rfl)⟩
        ·have hk := hk.lit 93 c136 rfl
         refine sm _ rfl hk rfl rfl rfl fun a hk => ?_
         refine sm _ rfl hk rfl rfl rfl fun a hk => ?_
         refine sv (.bool (y58.2.1 != y26.2.1)) hk rfl rfl rfl fun a hk => ?_
         refine sv (.bool (y58.2.1 != y26.2.1)) hk rfl rfl rfl fun a hk => ?_
         refine sm _ rfl hk rfl rfl rfl fun a hk => ?_
         rcases cond_some H with ⟨c137, H⟩ | ⟨c137, H⟩
         ·have hk := hk.lit 98 c137 rfl
          refine sk hk rfl rfl rfl fun a hk => ?_
          refine sk hk rfl rfl rfl fun a hk => ?_
          refine sk hk rfl rfl rfl fun a hk => ?_
          refine sv (.bool true) hk rfl rfl rfl fun a hk => ?_
          refine sm _ rfl hk rfl rfl rfl fun a hk => ?_
          refine sk hk rfl rfl rfl fun a hk => ?_
          refine sk hk rfl rfl rfl fun a hk => ?_
          refine sk hk rfl rfl rfl fun a hk => ?_
          refine sv (.bool true) hk rfl rfl rfl fun a hk => ?_
          show wpList _ _ _ [] _ _
          refine wpList_nil ?_
          obtain rfl := Option.some.inj H
          show R132 _ _
          rw [hR132]
          exact ⟨true, rfl, (hk.c 1 rfl (hk.c 2 rfl (hk.c 3 rfl (hk.c 4 rfl (hk.c 5 rfl (hk.c 12 rfl (hk.c 13 rfl (hk.c 14 rfl (hk.c 15 rfl (hk.c 17 rfl (hk.c 107 rfl hk.k))))))))))), (hs.pick [(4, 4), (11, 11), (8, 8), (9, 9), (10, 10), (19, 19), (16, 16), (17, 17), (18, 18)] rfl)⟩
         ·have hk := hk.lit 98 c137 rfl
          refine sm _ rfl hk rfl rfl rfl fun a hk => ?_
          refine sm _ rfl hk rfl rfl rfl fun a hk => ?_
          refine sv (.bool (y58.2.2.1 != y26.2.2.1)) hk rfl rfl rfl fun a hk => ?_
          refine sv (.bool (y58.2.2.1 != y26.2.2.1)) hk rfl rfl rfl fun a hk => ?_
          refine sm _ rfl hk rfl rfl rfl fun a hk => ?_
          rcases cond_some H with ⟨c138, H⟩ | ⟨c138, H⟩
          ·have hk := hk.lit 103 c138 rfl
           refine sk hk rfl rfl rfl fun a hk => ?_
           refine sk hk rfl rfl rfl fun a hk => ?_
           refine sk hk rfl rfl rfl fun a hk => ?_
           refine sv (.bool true) hk rfl rfl rfl fun a hk => ?_
           show wpList _ _ _ [] _ _
           refine wpList_nil ?_
           obtain rfl := Option.some.inj H
           show R132 _ _
           rw [hR132]
           exact ⟨true, rfl, (hk.c 1 rfl (hk.c 2 rfl (hk.c 3 rfl (hk.c 4 rfl (hk.c 5 rfl (hk.c 12 rfl (hk.c 13 rfl (hk.c 14 rfl (hk.c 15 rfl (hk.c 17 rfl (hk.c 107 rfl hk.k))))))))))), (hs.pick [(4, 4), (11, 11), (8, 8), (9, 9), (10, 10), (19, 19), (16, 16), (17, 17), (18, 18)] rfl)⟩
          ·have hk := hk.lit 103 c138 rfl
           refine sm _ rfl hk rfl rfl rfl fun a hk => ?_
           refine sm _ rfl hk rfl rfl rfl fun a hk => ?_
           refine sv (.bool (y58.2.2.2 != y26.2.2.2)) hk rfl rfl rfl fun a hk => ?_
           refine sv (.bool (y58.2.2.2 != y26.2.2.2)) hk rfl rfl rfl fun a hk => ?_
           show wpList _ _ _ [] _ _
           refine wpList_nil ?_
           obtain rfl := Option.some.inj H
           show R132 _ _
           rw [hR132]
           exact ⟨(y58.2.2.2 != y26.2.2.2), rfl, (hk.c 1 rfl (hk.c 2 rfl (hk.c 3 rfl (hk.c 4 rfl (hk.c 5 rfl (hk.c 12 rfl (hk.c 13 rfl (hk.c 14 rfl (hk.c 15 rfl (hk.c 17 rfl (hk.c 107 rfl hk.k))))))))))), (hs.pick [(4, 4), (11, 11), (8, 8), (9, 9), (10, 10), (19, 19), (16, 16), (17, 17), (18, 18)] rfl)⟩
      ·intro a w hR0
       rw [hR132] at hR0
       obtain ⟨u128, rfl, hk, hs⟩ := hR0
       have H := HL131
       try dsimp only at H
       refine hK126 _ _ ?_
       rcases cond_some H with ⟨c139, H⟩ | ⟨c139, H⟩
       ·have hk := hk.lit 107 c139 rfl
        refine cnd_true hk rfl rfl ?_
        apply wp_seq_k; intro K140 hK140
        apply wp_region_lit
        refine sa _ rfl hk rfl rfl rfl fun a hk => ?_
        show wpList _ _ _ [] _ _
        refine wpList_nil ?_
        refine hK140 _ _ ?_
        have hs := hs.pick [] rfl
        refine wp_ret ?_
        obtain rfl := Option.some.inj H
        exact fin hk _ [(.bool false)] rfl ⟨rfl, trivial⟩ ⟨rfl, (hs.pick [] rfl).dnil⟩
       ·have hk := hk.lit 107 c139 rfl
        refine cnd_false hk rfl rfl ?_
        refine wp_skip ?_
        refine hK125 _ _ ?_
        have hs := hs.pick [(4, 4), (11, 11), (8, 8), (9, 9), (10, 10), (19, 19), (16, 16), (17, 17), (18, 18)] rfl
        apply wp_seq_k; intro K141 hK141
        apply wp_region_lit
        refine sa _ rfl hk rfl rfl rfl fun a hk => ?_
        show wpList _ _ _ [] _ _
        refine wpList_nil ?_
        refine hK141 _ _ ?_
        apply wp_seq_k; intro K142 hK142
        apply wp_region_lit
        refine sln [.slice A60 y58.1.Pos.length p61, .slice A64 y58.1.Stash.length p65, .slice A68 y58.1.Buckets.length p69] rfl hk rfl rfl rfl ag31 sz31 (box_cells hs (k := 19) rfl) fun a hk => ?_
        refine sm _ rfl hk rfl rfl rfl fun a hk => ?_
        obtain ⟨y143, h144, H⟩ := bind_some H
        refine sc rfl en14 hk rfl rfl rfl (laws_markOram_t _ y58.1 A60 p61 _ o63 A64 p65 _ o67 A68 p69 _ o71 1 ((hs.hand [(1, 16), (2, 17), (3, 18)] rfl).dpick [] rfl) _ h144) ?_
        rintro _ w ⟨k145, k148, k151, rfl, ⟨o146, lh147⟩, ⟨o149, lh150⟩, ⟨o152, lh153⟩, hG⟩ a hk
        have hs := hs.back [(1, 16), (2, 17), (3, 18)] rfl hG [16, 17, 18] rfl
        have lh154 : y143.2.1.length = y58.1.Pos.length := lh147
        have lh155 : y143.2.2.1.length = y58.1.Stash.length := lh150
        have lh156 : y143.2.2.2.length = y58.1.Buckets.length := lh153
        refine sa _ rfl hk rfl rfl rfl fun a hk => ?_
        show wpList _ _ _ [] _ _
        refine wpList_nil ?_
        refine hK142 _ _ ?_
        apply wp_seq_k; intro K157 hK157
        apply wp_region_lit
        refine sa _ rfl hk rfl rfl rfl fun a hk => ?_
        show wpList _ _ _ [] _ _
        refine wpList_nil ?_
        refine hK157 _ _ ?_
        apply wp_seq_k; intro K158 hK158
        apply wp_region_lit
        refine sln [.slice A60 y58.1.Pos.length p61, .slice A64 y58.1.Stash.length p65, .slice A68 y58.1.Buckets.length p69] rfl hk rfl rfl rfl ag31 sz31 (box_cells hs (k := 19) rfl) fun a hk => ?_
        refine sm _ rfl hk rfl rfl rfl fun a hk => ?_
        have hk := hk.re 111 (v' := (.agg #[.slice A60 y143.2.1.length p61, .slice A64 y143.2.2.1.length p65, .slice A68 y143.2.2.2.length p69])) rfl (by rw [lh154, lh155, lh156])
        obtain ⟨y159, h160, H⟩ := bind_some H
        refine sc rfl en15 hk rfl rfl rfl (laws_heldOram_t _ (⟨y143.2.1, y143.2.2.1, y143.2.2.2⟩ : S_Oram) A60 p61 _ o146.view (hs.hasG (k := 16) rfl) A64 p65 _ o149.view (hs.hasG (k := 17) rfl) A68 p69 _ o152.view (hs.hasG (k := 18) rfl) 1 _ h160) ?_
        rintro _ w ⟨rfl, hG⟩ a hk
        have hs := hs.call0 hG
        refine sa _ rfl hk rfl rfl rfl fun a hk => ?_
        show wpList _ _ _ [] _ _
        refine wpList_nil ?_
        refine hK158 _ _ ?_
        have hs := hs.pick [(4, 4), (11, 11), (8, 8), (9, 9), (10, 10), (19, 19), (16, 16), (17, 17), (18, 18)] rfl
        apply wp_seq_k; intro K161 hK161
        apply wp_seq_k; intro K162 hK162
        apply wp_region_lit
        refine sm _ rfl hk rfl rfl rfl fun a hk => ?_
        refine sv (.bool (decide (y159 < 0))) hk rfl rfl rfl fun a hk => ?_
        show wpList _ _ _ [] _ _
        refine wpList_nil ?_
        refine hK162 _ _ ?_
        rcases cond_some H with ⟨c163, H⟩ | ⟨c163, H⟩
        ·have hk := hk.lit 115 c163 rfl
         refine cnd_true hk rfl rfl ?_
         apply wp_seq_k; intro K164 hK164
         apply wp_region_lit
         refine sa _ rfl hk rfl rfl rfl fun a hk => ?_
         show wpList _ _ _ [] _ _
         refine wpList_nil ?_
         refine hK164 _ _ ?_
         refine wp_ret ?_
         obtain rfl := Option.some.inj H
         exact fin hk _ [(.bool false)] rfl ⟨rfl, trivial⟩ ⟨rfl, (hs.pick [] rfl).dnil⟩
        ·have hk := hk.lit 115 c163 rfl
         refine cnd_false hk rfl rfl ?_
         refine wp_skip ?_
         refine hK161 _ _ ?_
         apply wp_seq_k; intro K165 hK165
         apply wp_seq_k; intro K166 hK166
         apply wp_region_lit
         refine sm _ rfl hk rfl rfl rfl fun a hk => ?_
         refine sm _ rfl hk rfl rfl rfl fun a hk => ?_
         refine sv (.bool (y159 != y143.1)) hk rfl rfl rfl fun a hk => ?_
         show wpList _ _ _ [] _ _
         refine wpList_nil ?_
         refine hK166 _ _ ?_
         rcases cond_some H with ⟨c167, H⟩ | ⟨c167, H⟩
         ·have hk := hk.lit 118 c167 rfl
          refine cnd_true hk rfl rfl ?_
          apply wp_seq_k; intro K168 hK168
          apply wp_region_lit
          refine sa _ rfl hk rfl rfl rfl fun a hk => ?_
          show wpList _ _ _ [] _ _
          refine wpList_nil ?_
          refine hK168 _ _ ?_
          have hs := hs.pick [] rfl
          refine wp_ret ?_
          obtain rfl := Option.some.inj H
          exact fin hk _ [(.bool false)] rfl ⟨rfl, trivial⟩ ⟨rfl, (hs.pick [] rfl).dnil⟩
         ·have hk := hk.lit 118 c167 rfl
          refine cnd_false hk rfl rfl ?_
          refine wp_skip ?_
          refine hK165 _ _ ?_
          have hs := hs.pick [(4, 4), (11, 11), (8, 8), (9, 9), (10, 10), (19, 19), (16, 16), (17, 17), (18, 18)] rfl
          apply wp_seq_k; intro K169 hK169
          apply wp_region_lit
          refine sln [.slice A0_0 x0.Pos.length p0_0, .slice A0_1 x0.Stash.length p0_1, .slice A0_2 x0.Buckets.length p0_2] rfl hk rfl rfl rfl ag26 sz26 (box_cells hs (k := 4) rfl) fun a hk => ?_
          obtain ⟨y170, h171, H⟩ := bind_some H
          refine sc rfl en11 hk rfl rfl rfl (laws_toOram_t _ x0 A0_0 p0_0 _ v0_0 (hs.hasD (k := 1) rfl) A0_1 p0_1 _ v0_1 (hs.hasD (k := 2) rfl) A0_2 p0_2 _ v0_2 (hs.hasD (k := 3) rfl) _ h171) ?_
          rintro _ w ⟨A172, p173, k174, A176, p177, k178, A180, p181, k182, rfl, o175, o179, o183, hG⟩ a hk
          have hs := hs.call0k hG [26, 27, 28] rfl
          refine sm _ rfl hk rfl rfl rfl fun a hk => ?_
          refine sm _ rfl hk rfl rfl rfl fun a hk => ?_
          refine sm _ rfl hk rfl rfl rfl fun a hk => ?_
          refine sm _ rfl hk rfl rfl rfl fun a hk => ?_
          obtain ⟨y184, h185, H⟩ := bind_some H
          refine sc rfl en12 hk rfl rfl rfl (impl_Access_t _ y170 A172 p173 _ o175.view (hs.hasG (k := 26) rfl) A176 p177 _ o179.view (hs.hasG (k := 27) rfl) A180 p181 _ o183.view (hs.hasG (k := 28) rfl) x1 x2 x3 x4 _ h185) ?_
          rintro _ w ⟨A186, p187, k188, A190, p191, k192, A194, p195, k196, rfl, o189, o193, o197, hG⟩ a hk
          have hs := hs.call0k hG [29, 30, 31] rfl
          refine sm _ rfl hk rfl rfl rfl fun a hk => ?_
          refine sv (.agg #[.slice A186 y184.1.Pos.length p187, .slice A190 y184.1.Stash.length p191, .slice A194 y184.1.Buckets.length p195]) hk rfl rfl rfl fun a hk => ?_
          refine sv (.int .i64 y184.2.1) hk rfl rfl rfl fun a hk => ?_
          refine sv (.int .i64 y184.2.2.1) hk rfl rfl rfl fun a hk => ?_
          refine sv (.int .i64 y184.2.2.2) hk rfl rfl rfl fun a hk => ?_
          refine salx 32 hs rfl hk rfl rfl ze31 rfl fun b198 w a hk hs => ?_
          refine ssw 32 hs rfl rfl hk rfl rfl rfl rfl sz31 (by simp [Value.oneCell']) rfl fun w a hk hs => ?_
          refine sa _ rfl hk rfl rfl rfl fun a hk => ?_
          refine sa _ rfl hk rfl rfl rfl fun a hk => ?_
          refine sa _ rfl hk rfl rfl rfl fun a hk => ?_
          show wpList _ _ _ [] _ _
          refine wpList_nil ?_
          refine hK169 _ _ ?_
          apply wp_seq_k; intro K199 hK199
          apply wp_seq_k; intro K200 hK200
          obtain ⟨o203, h204, HL205⟩ := bind_some H
          clear H
          obtain ⟨R206, hR206⟩ : ∃ R : Act → World → Prop, R = fun a w => ∃ (u202 : Bool), u202 = o203 ∧ Kn [(17, (.pointer (some ⟨b72, 0, none⟩))), (22, (.int .i64 y143.1)), (149, (.bool u202))] 158 a ∧ Sat [] w0 w [(1, k0_0), (2, k0_1), (3, k0_2)] [(19, [(b72, .cells #[.slice A60 y58.1.Pos.length p61, .slice A64 y58.1.Stash.length p65, .slice A68 y58.1.Buckets.length p69] 31 (0, 0))]), (16, k145), (17, k148), (18, k151)] := ⟨_, rfl⟩
          refine wp_cutq R206 ?_ ?_
          ·have H := h204
           apply wp_region_lit
           refine sln [.slice A186 y184.1.Pos.length p187, .slice A190 y184.1.Stash.length p191, .slice A194 y184.1.Buckets.length p195] rfl hk rfl rfl rfl ag31 sz31 (box_cells hs (k := 32) rfl) fun a hk => ?_
           refine sln [.slice A28 y26.1.Pos.length p29, .slice A32 y26.1.Stash.length p33, .slice A36 y26.1.Buckets.length p37] rfl hk rfl rfl rfl ag31 sz31 (box_cells hs (k := 11) rfl) fun a hk => ?_
           obtain ⟨y207, h208, H⟩ := bind_some H
           refine sc rfl en13 hk rfl rfl rfl (laws_eqOram_t _ y184.1 A186 p187 _ o189.view (hs.hasG (k := 29) rfl) A190 p191 _ o193.view (hs.hasG (k := 30) rfl) A194 p195 _ o197.view (hs.hasG (k := 31) rfl) y26.1 A28 p29 _ o31.view (hs.hasG (k := 8) rfl) A32 p33 _ o35.view (hs.hasG (k := 9) rfl) A36 p37 _ o39.view (hs.hasG (k := 10) rfl) _ h208) ?_
           rintro _ w ⟨rfl, hG⟩ a hk
           have hs := hs.call0 hG
           refine sv (.bool (!y207)) hk rfl rfl rfl fun a hk => ?_
           refine sm _ rfl hk rfl rfl rfl fun a hk => ?_
           rcases cond_some H with ⟨c209, H⟩ | ⟨c209, H⟩
           ·have hk := hk.lit 135 c209 rfl
            refine sk hk rfl rfl rfl fun a hk => ?_
            refine sk hk rfl rfl rfl fun a hk => ?_
            refine sk hk rfl rfl rfl fun a hk => ?_
            refine sv (.bool true) hk rfl rfl rfl fun a hk => ?_
            refine sm _ rfl hk rfl rfl rfl fun a hk => ?_
            refine sk hk rfl rfl rfl fun a hk => ?_
            refine sk hk rfl rfl rfl fun a hk => ?_
            refine sk hk rfl rfl rfl fun a hk => ?_
            refine sv (.bool true) hk rfl rfl rfl fun a hk => ?_
            refine sm _ rfl hk rfl rfl rfl fun a hk => ?_
            refine sk hk rfl rfl rfl fun a hk => ?_
            refine sk hk rfl rfl rfl fun a hk => ?_
            refine sk hk rfl rfl rfl fun a hk => ?_
            refine sv (.bool true) hk rfl rfl rfl fun a hk => ?_
            show wpList _ _ _ [] _ _
            refine wpList_nil ?_
            obtain rfl := Option.some.inj H
            show R206 _ _
            rw [hR206]
            exact ⟨true, rfl, (hk.c 17 rfl (hk.c 22 rfl (hk.c 149 rfl hk.k))), (hs.pick [(19, 19), (16, 16), (17, 17), (18, 18)] rfl)⟩
           ·have hk := hk.lit 135 c209 rfl
            refine sm _ rfl hk rfl rfl rfl fun a hk => ?_
            refine sm _ rfl hk rfl rfl rfl fun a hk => ?_
            refine sv (.bool (y184.2.1 != y26.2.1)) hk rfl rfl rfl fun a hk => ?_
            refine sv (.bool (y184.2.1 != y26.2.1)) hk rfl rfl rfl fun a hk => ?_
            refine sm _ rfl hk rfl rfl rfl fun a hk => ?_
            rcases cond_some H with ⟨c210, H⟩ | ⟨c210, H⟩
            ·have hk := hk.lit 140 c210 rfl
             refine sk hk rfl rfl rfl fun a hk => ?_
             refine sk hk rfl rfl rfl fun a hk => ?_
             refine sk hk rfl rfl rfl fun a hk => ?_
             refine sv (.bool true) hk rfl rfl rfl fun a hk => ?_
             refine sm _ rfl hk rfl rfl rfl fun a hk => ?_
             refine sk hk rfl rfl rfl fun a hk => ?_
             refine sk hk rfl rfl rfl fun a hk => ?_
             refine sk hk rfl rfl rfl fun a hk => ?_
             refine sv (.bool true) hk rfl rfl rfl fun a hk => ?_
             show wpList _ _ _ [] _ _
             refine wpList_nil ?_
             obtain rfl := Option.some.inj H
             show R206 _ _
             rw [hR206]
             exact ⟨true, rfl, (hk.c 17 rfl (hk.c 22 rfl (hk.c 149 rfl hk.k))), (hs.pick [(19, 19), (16, 16), (17, 17), (18, 18)] rfl)⟩
            ·have hk := hk.lit 140 c210 rfl
             refine sm _ rfl hk rfl rfl rfl fun a hk => ?_
             refine sm _ rfl hk rfl rfl rfl fun a hk => ?_
             refine sv (.bool (y184.2.2.1 != y26.2.2.1)) hk rfl rfl rfl fun a hk => ?_
             refine sv (.bool (y184.2.2.1 != y26.2.2.1)) hk rfl rfl rfl fun a hk => ?_
             refine sm _ rfl hk rfl rfl rfl fun a hk => ?_
             rcases cond_some H with ⟨c211, H⟩ | ⟨c211, H⟩
             ·have hk := hk.lit 145 c211 rfl
              refine sk hk rfl rfl rfl fun a hk => ?_
              refine sk hk rfl rfl rfl fun a hk => ?_
              refine sk hk rfl rfl rfl fun a hk => ?_
              refine sv (.bool true) hk rfl rfl rfl fun a hk => ?_
              show wpList _ _ _ [] _ _
              refine wpList_nil ?_
              obtain rfl := Option.some.inj H
              show R206 _ _
              rw [hR206]
              exact ⟨true, rfl, (hk.c 17 rfl (hk.c 22 rfl (hk.c 149 rfl hk.k))), (hs.pick [(19, 19), (16, 16), (17, 17), (18, 18)] rfl)⟩
             ·have hk := hk.lit 145 c211 rfl
              refine sm _ rfl hk rfl rfl rfl fun a hk => ?_
              refine sm _ rfl hk rfl rfl rfl fun a hk => ?_
              refine sv (.bool (y184.2.2.2 != y26.2.2.2)) hk rfl rfl rfl fun a hk => ?_
              refine sv (.bool (y184.2.2.2 != y26.2.2.2)) hk rfl rfl rfl fun a hk => ?_
              show wpList _ _ _ [] _ _
              refine wpList_nil ?_
              obtain rfl := Option.some.inj H
              show R206 _ _
              rw [hR206]
              exact ⟨(y184.2.2.2 != y26.2.2.2), rfl, (hk.c 17 rfl (hk.c 22 rfl (hk.c 149 rfl hk.k))), (hs.pick [(19, 19), (16, 16), (17, 17), (18, 18)] rfl)⟩
          ·intro a w hR0
           rw [hR206] at hR0
           obtain ⟨u202, rfl, hk, hs⟩ := hR0
           have H := HL205
           try dsimp only at H
           refine hK200 _ _ ?_
           rcases cond_some H with ⟨c212, H⟩ | ⟨c212, H⟩
           ·have hk := hk.lit 149 c212 rfl
            refine cnd_true hk rfl rfl ?_
            apply wp_seq_k; intro K213 hK213
            apply wp_region_lit
            refine sa _ rfl hk rfl rfl rfl fun a hk => ?_
            show wpList _ _ _ [] _ _
            refine wpList_nil ?_
            refine hK213 _ _ ?_
            refine wp_ret ?_
            obtain rfl := Option.some.inj H
            exact fin hk _ [(.bool false)] rfl ⟨rfl, trivial⟩ ⟨rfl, (hs.pick [] rfl).dnil⟩
           ·have hk := hk.lit 149 c212 rfl
            refine cnd_false hk rfl rfl ?_
            refine wp_skip ?_
            refine hK199 _ _ ?_
            apply wp_seq_k; intro K214 hK214
            apply wp_region_lit
            refine sa _ rfl hk rfl rfl rfl fun a hk => ?_
            show wpList _ _ _ [] _ _
            refine wpList_nil ?_
            refine hK214 _ _ ?_
            have hs := hs.pick [(19, 19), (16, 16), (17, 17), (18, 18)] rfl
            apply wp_seq_k; intro K215 hK215
            apply wp_region_lit
            refine sln [.slice A60 y58.1.Pos.length p61, .slice A64 y58.1.Stash.length p65, .slice A68 y58.1.Buckets.length p69] rfl hk rfl rfl rfl ag31 sz31 (box_cells hs (k := 19) rfl) fun a hk => ?_
            refine sm _ rfl hk rfl rfl rfl fun a hk => ?_
            have hk := hk.re 150 (v' := (.agg #[.slice A60 y143.2.1.length p61, .slice A64 y143.2.2.1.length p65, .slice A68 y143.2.2.2.length p69])) rfl (by rw [lh154, lh155, lh156])
            obtain ⟨y216, h217, H⟩ := bind_some H
            refine sc rfl en15 hk rfl rfl rfl (laws_heldOram_t _ (⟨y143.2.1, y143.2.2.1, y143.2.2.2⟩ : S_Oram) A60 p61 _ o146.view (hs.hasG (k := 16) rfl) A64 p65 _ o149.view (hs.hasG (k := 17) rfl) A68 p69 _ o152.view (hs.hasG (k := 18) rfl) 1 _ h217) ?_
            rintro _ w ⟨rfl, hG⟩ a hk
            have hs := hs.call0 hG
            refine sa _ rfl hk rfl rfl rfl fun a hk => ?_
            show wpList _ _ _ [] _ _
            refine wpList_nil ?_
            refine hK215 _ _ ?_
            apply wp_seq_k; intro K218 hK218
            apply wp_seq_k; intro K219 hK219
            apply wp_region_lit
            refine sm _ rfl hk rfl rfl rfl fun a hk => ?_
            refine sv (.bool (decide (y216 < 0))) hk rfl rfl rfl fun a hk => ?_
            show wpList _ _ _ [] _ _
            refine wpList_nil ?_
            refine hK219 _ _ ?_
            rcases cond_some H with ⟨c220, H⟩ | ⟨c220, H⟩
            ·have hk := hk.lit 154 c220 rfl
             refine cnd_true hk rfl rfl ?_
             apply wp_seq_k; intro K221 hK221
             apply wp_region_lit
             refine sa _ rfl hk rfl rfl rfl fun a hk => ?_
             show wpList _ _ _ [] _ _
             refine wpList_nil ?_
             refine hK221 _ _ ?_
             refine wp_ret ?_
             obtain rfl := Option.some.inj H
             exact fin hk _ [(.bool false)] rfl ⟨rfl, trivial⟩ ⟨rfl, (hs.pick [] rfl).dnil⟩
            ·have hk := hk.lit 154 c220 rfl
             refine cnd_false hk rfl rfl ?_
             refine wp_skip ?_
             refine hK218 _ _ ?_
             apply wp_seq_k; intro K222 hK222
             apply wp_seq_k; intro K223 hK223
             apply wp_region_lit
             refine sm _ rfl hk rfl rfl rfl fun a hk => ?_
             refine sm _ rfl hk rfl rfl rfl fun a hk => ?_
             refine sv (.bool (y216 != y143.1)) hk rfl rfl rfl fun a hk => ?_
             show wpList _ _ _ [] _ _
             refine wpList_nil ?_
             refine hK223 _ _ ?_
             have hs := hs.pick [] rfl
             rcases cond_some H with ⟨c224, H⟩ | ⟨c224, H⟩
             ·have hk := hk.lit 157 c224 rfl
              refine cnd_true hk rfl rfl ?_
              apply wp_seq_k; intro K225 hK225
              apply wp_region_lit
              refine sa _ rfl hk rfl rfl rfl fun a hk => ?_
              show wpList _ _ _ [] _ _
              refine wpList_nil ?_
              refine hK225 _ _ ?_
              refine wp_ret ?_
              obtain rfl := Option.some.inj H
              exact fin hk _ [(.bool false)] rfl ⟨rfl, trivial⟩ ⟨rfl, (hs.pick [] rfl).dnil⟩
             ·have hk := hk.lit 157 c224 rfl
              refine cnd_false hk rfl rfl ?_
              refine wp_skip ?_
              refine hK222 _ _ ?_
              apply wp_seq_k; intro K226 hK226
              apply wp_region_lit
              refine sa _ rfl hk rfl rfl rfl fun a hk => ?_
              show wpList _ _ _ [] _ _
              refine wpList_nil ?_
              refine hK226 _ _ ?_
              refine wp_ret ?_
              obtain rfl := Option.some.inj H
              exact fin hk _ [(.bool true)] rfl ⟨rfl, trivial⟩ ⟨rfl, (hs.pick [] rfl).dnil⟩

end Go.Proofs.Ytjlhmcieholdiaa
