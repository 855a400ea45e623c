/- The functions that FnAccess reaches: for each a model and the walk that shows that the Go code comes to it. -/
import Derived.Test.YtjlhmcieholdiaaT
namespace Go.Proofs.Ytjlhmcieholdiaa
open Go Go.Z Go.Proofs Go.MuLone Go.ChangeShapes Go.WideShapes Go.ChangeAt Go.RowKit
set_option linter.unusedVariables false
set_option linter.unusedSimpArgs false
noncomputable def spec_l01In.f (x0 : Int) (x1 : Int) (x2 : Int) : Option (Bool) :=
  (((bif (decide (x1 ≤ x0)) then (some (decide (x0 ≤ x2))) else (some false)) : Option (Bool)).bind fun u4 => (some u4))
set_option maxRecDepth 100000 in
set_option maxHeartbeats 0 in
theorem spec_l01In_t (w0 : World) (x0 : Int) (x1 : Int) (x2 : Int) (r : Bool) (H : spec_l01In.f x0 x1 x2 = some r) :
    Calls Try.prog 58 #[.int .i64 x0, .int .i64 x1, .int .i64 x2] w0 (Ret (fun v w => v = .bool r ∧ Sat [] w0 w [] [])) := by
  have hs : Sat [] w0 w0 [] [] := Sat.init w0 [] [] (by simp) (by simp) List.nodup_nil (by simp [blks])
  unfold spec_l01In.f at H
  refine enter Try.func58 rfl Try.ntmps58 rfl fun a hk => ?_
  apply wp_seq_k; intro K1 hK1
  apply wp_region_lit
  refine sa _ rfl hk rfl rfl rfl fun a hk => ?_
  show wpList _ _ _ [] _ _
  refine wpList_nil ?_
  refine hK1 _ _ ?_
  apply wp_seq_k; intro K2 hK2
  obtain ⟨o5, h6, HL7⟩ := bind_some H
  clear H
  obtain ⟨R8, hR8⟩ : ∃ R : Act → World → Prop, R = fun a w => ∃ (u4 : Bool), u4 = o5 ∧ Kn [(6, (.bool u4))] 15 a ∧ Sat [] w0 w [] [] := ⟨_, rfl⟩
  refine wp_cutq R8 ?_ ?_
  ·have H := h6
   apply wp_region_lit
   refine sm _ rfl hk rfl rfl rfl fun a hk => ?_
   refine sm _ rfl hk rfl rfl rfl fun a hk => ?_
   refine sv (.bool (decide (x1 ≤ x0))) hk rfl rfl rfl fun a hk => ?_
   refine sm _ rfl hk rfl rfl rfl fun a hk => ?_
   rcases cond_some H with ⟨c9, H⟩ | ⟨c9, H⟩
   ·have hk := hk.lit 10 c9 rfl
    refine sm _ rfl hk rfl rfl rfl fun a hk => ?_
    refine sm _ rfl hk rfl rfl rfl fun a hk => ?_
    refine sv (.bool (decide (x0 ≤ x2))) hk rfl rfl rfl fun a hk => ?_
    refine sv (.bool (decide (x0 ≤ x2))) hk rfl rfl rfl fun a hk => ?_
    refine sa _ rfl hk rfl rfl rfl fun a hk => ?_
    show wpList _ _ _ [] _ _
    refine wpList_nil ?_
    obtain rfl := Option.some.inj H
    show R8 _ _
    rw [hR8]
    exact ⟨(decide (x0 ≤ x2)), rfl, (hk.c 6 rfl hk.k), (hs.pick [] rfl)⟩
   ·have hk := hk.lit 10 c9 rfl
    refine sk hk rfl rfl rfl fun a hk => ?_
    refine sk hk rfl rfl rfl fun a hk => ?_
    refine sk hk rfl rfl rfl fun a hk => ?_
    refine sv (.bool false) hk rfl rfl rfl fun a hk => ?_
    refine sa _ rfl hk rfl rfl rfl fun a hk => ?_
    show wpList _ _ _ [] _ _
    refine wpList_nil ?_
    obtain rfl := Option.some.inj H
    show R8 _ _
    rw [hR8]
    exact ⟨false, rfl, (hk.c 6 rfl hk.k), (hs.pick [] rfl)⟩
  ·intro a w hR0
   rw [hR8] at hR0
   obtain ⟨u4, rfl, hk, hs⟩ := hR0
   have H := HL7
   try dsimp only at H
   refine hK2 _ _ ?_
   refine wp_ret ?_
   obtain rfl := Option.some.inj H
   exact fin hk _ [(.bool u4)] rfl ⟨rfl, trivial⟩ ⟨rfl, (hs.pick [] rfl).dnil⟩

noncomputable def spec_l08Leaves.s0 (l0 : List Int) (u6 : Int) : Option ((Int) ⊕ Ex (Unit) (Bool)) :=
  (bif (decide (u6 < (l0.length : Int))) then (if 0 ≤ u6 ∧ u6 < (l0.length : Int) then ((spec_l01In.f (l0.getD u6.toNat 0) 0 7).bind fun y24 => (bif (!y24) then (some (.inr (.ret false))) else (some (.inl (w64 (u6 + 1)))))) else none) else (some (.inr (.out ()))))
noncomputable def spec_l08Leaves.f (l0 : List Int) : Option (Bool) :=
  ((loopO (fun s => spec_l08Leaves.s0 l0 s) 0).bind fun o => match o with | .out _ => (some true) | .ret r => (some r))
set_option maxRecDepth 100000 in
set_option maxHeartbeats 0 in
theorem spec_l08Leaves_t (w0 : World) (A0_ : Option Addr) (p0_ : Nat) (l0 : List Int) (k0_ : Chunk) (v0_ : View (Lay.int .i64) A0_ p0_ l0 k0_) (w0_ : Has w0 k0_) (r : Bool) (H : spec_l08Leaves.f l0 = some r) :
    Calls Try.prog 123 #[.slice A0_ l0.length p0_] w0 (Ret (fun v w => v = .bool r ∧ Sat [] w0 w [] [])) := by
  have hs : Sat [] w0 w0 [(1, k0_)] [] := Sat.init w0 [(1, k0_)] [] (by simp only [List.mem_cons, List.not_mem_nil, or_false]; rintro x (rfl) <;> assumption) (by simp) List.nodup_nil (by simp [blks])
  unfold spec_l08Leaves.f at H
  refine enter Try.func123 rfl Try.ntmps123 rfl fun a hk => ?_
  apply wp_seq_k; intro K1 hK1
  apply wp_region_lit
  refine sa _ rfl hk rfl rfl rfl fun a hk => ?_
  show wpList _ _ _ [] _ _
  refine wpList_nil ?_
  refine hK1 _ _ ?_
  apply wp_seq_k; intro K2 hK2
  apply wp_seq_k; intro K3 hK3
  apply wp_region_lit
  refine sa _ rfl hk rfl rfl rfl fun a hk => ?_
  show wpList _ _ _ [] _ _
  refine wpList_nil ?_
  refine hK3 _ _ ?_
  obtain ⟨o7, h8, HL9⟩ := bind_some H
  clear H
  obtain ⟨R10, hR10⟩ : ∃ R : Act → World → Prop, R = fun a w => o7 = .out () ∧ Kn [] 16 a ∧ Sat [] w0 w [(1, k0_)] [] := ⟨_, rfl⟩
  refine wp_cutq R10 ?_ ?_
  ·refine wp_block ?_
   obtain ⟨fu12, h8⟩ := loopO_some h8
   obtain ⟨I11, hI11⟩ : ∃ I : Nat → Act → World → Prop, I = fun fu a w => ∃ (u6 : Int), loopN (fun s => spec_l08Leaves.s0 l0 s) fu u6 = some o7 ∧ Kn [(0, (.slice A0_ l0.length p0_)), (3, (.int .i64 u6))] 16 a ∧ Sat [] w0 w [(1, k0_)] [] := ⟨_, rfl⟩
   refine wp_loop_ghost I11 fu12 ?_ ?_
   ·rw [hI11]
    exact ⟨0, h8, (hk.c 0 rfl (hk.c 3 rfl hk.k)), (hs.pick [] rfl)⟩
   ·clear h8 hk hs
    intro fu12 a w hI0
    rw [hI11] at hI0
    obtain ⟨u6, hi, hk, hs⟩ := hI0
    obtain ⟨x13, H, h14⟩ := loop_round hi
    try dsimp only at H
    unfold spec_l08Leaves.s0 at H
    apply wp_seq_k; intro K15 hK15
    apply wp_seq_k; intro K16 hK16
    apply wp_region_lit
    refine sm _ rfl hk rfl rfl rfl fun a hk => ?_
    refine sm _ rfl hk rfl rfl rfl fun a hk => ?_
    refine sle rfl hk rfl rfl rfl un22 fun a hk => ?_
    refine sv (.bool (decide (u6 < (l0.length : Int)))) hk rfl rfl rfl fun a hk => ?_
    show wpList _ _ _ [] _ _
    refine wpList_nil ?_
    refine hK16 _ _ ?_
    rcases cond_some H with ⟨c17, H⟩ | ⟨c17, H⟩
    ·have hk := hk.lit 7 c17 rfl
     refine cnd_true hk rfl rfl ?_
     refine wp_skip ?_
     refine hK15 _ _ ?_
     have hs := hs.pick [] rfl
     apply wp_seq_k; intro K18 hK18
     refine wp_block ?_
     apply wp_seq_k; intro K19 hK19
     apply wp_region_lit
     refine sm _ rfl hk rfl rfl rfl fun a hk => ?_
     refine sm _ rfl hk rfl rfl rfl fun a hk => ?_
     rcases ite_some H with ⟨c20, H⟩ | ⟨_, H⟩
     rotate_left
     ·cases H
     obtain ⟨b21, q22, hAc20⟩ := (v0_).some_ u6 c20.1 c20.2
     refine si rfl hk rfl rfl rfl rfl un22 sz3 c20.1 c20.2 hAc20 fun a hk => ?_
     obtain ⟨_, rfl, e23⟩ := (v0_).at_ 0 u6 c20.1 c20.2
     refine sl (v := (.int .i64 (l0.getD u6.toNat 0))) rfl hk rfl rfl rfl ag3 ((e23 0 _ rfl).cell (hs.hasD (k := 1) rfl)) fun a hk => ?_
     obtain ⟨y24, h25, H⟩ := bind_some H
     refine sc rfl en58 hk rfl rfl rfl (spec_l01In_t _ (l0.getD u6.toNat 0) 0 7 _ h25) ?_
     rintro _ w ⟨rfl, hG⟩ a hk
     have hs := hs.call0 hG
     refine sv (.bool (!y24)) hk rfl rfl rfl fun a hk => ?_
     show wpList _ _ _ [] _ _
     refine wpList_nil ?_
     refine hK19 _ _ ?_
     rcases cond_some H with ⟨c26, H⟩ | ⟨c26, H⟩
     ·have hk := hk.lit 15 c26 rfl
      refine cnd_true hk rfl rfl ?_
      apply wp_seq_k; intro K27 hK27
      apply wp_region_lit
      refine sa _ rfl hk rfl rfl rfl fun a hk => ?_
      show wpList _ _ _ [] _ _
      refine wpList_nil ?_
      refine hK27 _ _ ?_
      refine wp_ret ?_
      obtain rfl := Option.some.inj H
      have ho7 := h14
      try dsimp only at ho7
      subst ho7
      have H := HL9
      try dsimp only at H
      obtain rfl := Option.some.inj H
      exact fin hk _ [(.bool false)] rfl ⟨rfl, trivial⟩ ⟨rfl, (hs.pick [] rfl).dnil⟩
     ·have hk := hk.lit 15 c26 rfl
      refine cnd_false hk rfl rfl ?_
      refine wp_skip ?_
      refine hK18 _ _ ?_
      apply wp_region_lit
      refine sm _ rfl hk rfl rfl rfl fun a hk => ?_
      refine sv (.int .i64 (w64 (u6 + 1))) hk rfl rfl rfl fun a hk => ?_
      refine sa _ rfl hk rfl rfl rfl fun a hk => ?_
      show wpList _ _ _ [] _ _
      refine wpList_nil ?_
      obtain rfl := Option.some.inj H
      obtain ⟨m28, hmm28, h14⟩ := h14
      show ∃ n', n' < _ ∧ I11 n' _ _
      refine ⟨m28, hmm28, ?_⟩
      rw [hI11]
      exact ⟨(w64 (u6 + 1)), h14, (hk.c 0 rfl (hk.c 3 rfl hk.k)), (hs.pick [] rfl)⟩
    ·have hk := hk.lit 7 c17 rfl
     refine cnd_false hk rfl rfl ?_
     refine wp_exit ?_
     obtain rfl := Option.some.inj H
     show R10 _ _
     rw [hR10]
     exact ⟨h14.symm, hk.k, (hs.pick [] rfl)⟩
  ·intro a w hR0
   rw [hR10] at hR0
   obtain ⟨rfl, hk, hs⟩ := hR0
   have H := HL9
   try dsimp only at H
   refine hK2 _ _ ?_
   apply wp_seq_k; intro K29 hK29
   apply wp_region_lit
   refine sa _ rfl hk rfl rfl rfl fun a hk => ?_
   show wpList _ _ _ [] _ _
   refine wpList_nil ?_
   refine hK29 _ _ ?_
   have hs := hs.pick [] rfl
   refine wp_ret ?_
   obtain rfl := Option.some.inj H
   exact fin hk _ [(.bool true)] rfl ⟨rfl, trivial⟩ ⟨rfl, (hs.pick [] rfl).dnil⟩

noncomputable def spec_l08In.s0 (l0 : List Int) (x1 : Int) (u6 : Int) : Option ((Int) ⊕ Ex (Unit) (Bool)) :=
  (bif (decide (u6 < (l0.length : Int))) then (if 0 ≤ u6 ∧ u6 < (l0.length : Int) then (bif ((l0.getD u6.toNat 0) == x1) then (some (.inr (.ret true))) else (some (.inl (w64 (u6 + 1))))) else none) else (some (.inr (.out ()))))
noncomputable def spec_l08In.f (l0 : List Int) (x1 : Int) : Option (Bool) :=
  ((loopO (fun s => spec_l08In.s0 l0 x1 s) 0).bind fun o => match o with | .out _ => (some false) | .ret r => (some r))
set_option maxRecDepth 100000 in
set_option maxHeartbeats 0 in
theorem spec_l08In_t (w0 : World) (A0_ : Option Addr) (p0_ : Nat) (l0 : List Int) (k0_ : Chunk) (v0_ : View (Lay.int .i64) A0_ p0_ l0 k0_) (w0_ : Has w0 k0_) (x1 : Int) (r : Bool) (H : spec_l08In.f l0 x1 = some r) :
    Calls Try.prog 147 #[.slice A0_ l0.length p0_, .int .i64 x1] w0 (Ret (fun v w => v = .bool r ∧ Sat [] w0 w [] [])) := by
  have hs : Sat [] w0 w0 [(1, k0_)] [] := Sat.init w0 [(1, k0_)] [] (by simp only [List.mem_cons, List.not_mem_nil, or_false]; rintro x (rfl) <;> assumption) (by simp) List.nodup_nil (by simp [blks])
  unfold spec_l08In.f at H
  refine enter Try.func147 rfl Try.ntmps147 rfl fun a hk => ?_
  apply wp_seq_k; intro K1 hK1
  apply wp_region_lit
  refine sa _ rfl hk rfl rfl rfl fun a hk => ?_
  show wpList _ _ _ [] _ _
  refine wpList_nil ?_
  refine hK1 _ _ ?_
  apply wp_seq_k; intro K2 hK2
  apply wp_seq_k; intro K3 hK3
  apply wp_region_lit
  refine sa _ rfl hk rfl rfl rfl fun a hk => ?_
  show wpList _ _ _ [] _ _
  refine wpList_nil ?_
  refine hK3 _ _ ?_
  obtain ⟨o7, h8, HL9⟩ := bind_some H
  clear H
  obtain ⟨R10, hR10⟩ : ∃ R : Act → World → Prop, R = fun a w => o7 = .out () ∧ Kn [] 18 a ∧ Sat [] w0 w [(1, k0_)] [] := ⟨_, rfl⟩
  refine wp_cutq R10 ?_ ?_
  ·refine wp_block ?_
   obtain ⟨fu12, h8⟩ := loopO_some h8
   obtain ⟨I11, hI11⟩ : ∃ I : Nat → Act → World → Prop, I = fun fu a w => ∃ (u6 : Int), loopN (fun s => spec_l08In.s0 l0 x1 s) fu u6 = some o7 ∧ Kn [(0, (.slice A0_ l0.length p0_)), (1, (.int .i64 x1)), (5, (.int .i64 u6))] 18 a ∧ Sat [] w0 w [(1, k0_)] [] := ⟨_, rfl⟩
   refine wp_loop_ghost I11 fu12 ?_ ?_
   ·rw [hI11]
    exact ⟨0, h8, (hk.c 0 rfl (hk.c 1 rfl (hk.c 5 rfl hk.k))), (hs.pick [] rfl)⟩
   ·clear h8 hk hs
    intro fu12 a w hI0
    rw [hI11] at hI0
    obtain ⟨u6, hi, hk, hs⟩ := hI0
    obtain ⟨x13, H, h14⟩ := loop_round hi
    try dsimp only at H
    unfold spec_l08In.s0 at H
    apply wp_seq_k; intro K15 hK15
    apply wp_seq_k; intro K16 hK16
    apply wp_region_lit
    refine sm _ rfl hk rfl rfl rfl fun a hk => ?_
    refine sm _ rfl hk rfl rfl rfl fun a hk => ?_
    refine sle rfl hk rfl rfl rfl un22 fun a hk => ?_
    refine sv (.bool (decide (u6 < (l0.length : Int)))) hk rfl rfl rfl fun a hk => ?_
    show wpList _ _ _ [] _ _
    refine wpList_nil ?_
    refine hK16 _ _ ?_
    rcases cond_some H with ⟨c17, H⟩ | ⟨c17, H⟩
    ·have hk := hk.lit 9 c17 rfl
     refine cnd_true hk rfl rfl ?_
     refine wp_skip ?_
     refine hK15 _ _ ?_
     have hs := hs.pick [] rfl
     apply wp_seq_k; intro K18 hK18
     refine wp_block ?_
     apply wp_seq_k; intro K19 hK19
     apply wp_region_lit
     refine sm _ rfl hk rfl rfl rfl fun a hk => ?_
     refine sm _ rfl hk rfl rfl rfl fun a hk => ?_
     rcases ite_some H with ⟨c20, H⟩ | ⟨_, H⟩
     rotate_left
     ·cases H
     obtain ⟨b21, q22, hAc20⟩ := (v0_).some_ u6 c20.1 c20.2
     refine si rfl hk rfl rfl rfl rfl un22 sz3 c20.1 c20.2 hAc20 fun a hk => ?_
     obtain ⟨_, rfl, e23⟩ := (v0_).at_ 0 u6 c20.1 c20.2
     refine sl (v := (.int .i64 (l0.getD u6.toNat 0))) rfl hk rfl rfl rfl ag3 ((e23 0 _ rfl).cell (hs.hasD (k := 1) rfl)) fun a hk => ?_
     refine sm _ rfl hk rfl rfl rfl fun a hk => ?_
     refine sv (.bool ((l0.getD u6.toNat 0) == x1)) hk rfl rfl rfl fun a hk => ?_
     show wpList _ _ _ [] _ _
     refine wpList_nil ?_
     refine hK19 _ _ ?_
     rcases cond_some H with ⟨c24, H⟩ | ⟨c24, H⟩
     ·have hk := hk.lit 17 c24 rfl
      refine cnd_true hk rfl rfl ?_
      apply wp_seq_k; intro K25 hK25
      apply wp_region_lit
      refine sa _ rfl hk rfl rfl rfl fun a hk => ?_
      show wpList _ _ _ [] _ _
      refine wpList_nil ?_
      refine hK25 _ _ ?_
      refine wp_ret ?_
      obtain rfl := Option.some.inj H
      have ho7 := h14
      try dsimp only at ho7
      subst ho7
      have H := HL9
      try dsimp only at H
      obtain rfl := Option.some.inj H
      exact fin hk _ [(.bool true)] rfl ⟨rfl, trivial⟩ ⟨rfl, (hs.pick [] rfl).dnil⟩
     ·have hk := hk.lit 17 c24 rfl
      refine cnd_false hk rfl rfl ?_
      refine wp_skip ?_
      refine hK18 _ _ ?_
      apply wp_region_lit
      refine sm _ rfl hk rfl rfl rfl fun a hk => ?_
      refine sv (.int .i64 (w64 (u6 + 1))) hk rfl rfl rfl fun a hk => ?_
      refine sa _ rfl hk rfl rfl rfl fun a hk => ?_
      show wpList _ _ _ [] _ _
      refine wpList_nil ?_
      obtain rfl := Option.some.inj H
      obtain ⟨m26, hmm26, h14⟩ := h14
      show ∃ n', n' < _ ∧ I11 n' _ _
      refine ⟨m26, hmm26, ?_⟩
      rw [hI11]
      exact ⟨(w64 (u6 + 1)), h14, (hk.c 0 rfl (hk.c 1 rfl (hk.c 5 rfl hk.k))), (hs.pick [] rfl)⟩
    ·have hk := hk.lit 9 c17 rfl
     refine cnd_false hk rfl rfl ?_
     refine wp_exit ?_
     obtain rfl := Option.some.inj H
     show R10 _ _
     rw [hR10]
     exact ⟨h14.symm, hk.k, (hs.pick [] rfl)⟩
  ·intro a w hR0
   rw [hR10] at hR0
   obtain ⟨rfl, hk, hs⟩ := hR0
   have H := HL9
   try dsimp only at H
   refine hK2 _ _ ?_
   apply wp_seq_k; intro K27 hK27
   apply wp_region_lit
   refine sa _ rfl hk rfl rfl rfl fun a hk => ?_
   show wpList _ _ _ [] _ _
   refine wpList_nil ?_
   refine hK27 _ _ ?_
   have hs := hs.pick [] rfl
   refine wp_ret ?_
   obtain rfl := Option.some.inj H
   exact fin hk _ [(.bool false)] rfl ⟨rfl, trivial⟩ ⟨rfl, (hs.pick [] rfl).dnil⟩

noncomputable def spec_l08Block.f (x0 : S_Oram) (x1 : S_Block) (l2 : List Int) : Option (Bool) :=
  ((((spec_l01In.f x1.Id 0 11).bind fun y11 => (bif y11 then (if 0 ≤ x1.Id ∧ x1.Id < (x0.Pos.length : Int) then (bif ((x0.Pos.getD (x1.Id).toNat 0) == x1.Leaf) then ((spec_l01In.f x1.Value 0 999999).bind fun y19 => (bif y19 then ((spec_l08In.f l2 x1.Id).bind fun y22 => (some (!y22))) else (some false))) else (some false)) else none) else (some false))) : Option (Bool)).bind fun u6 => (some u6))
set_option maxRecDepth 100000 in
set_option maxHeartbeats 0 in
theorem spec_l08Block_t (w0 : World) (x0 : S_Oram) (A0_0 : Option Addr) (p0_0 : Nat) (k0_0 : Chunk) (v0_0 : View (Lay.int .i64) A0_0 p0_0 x0.Pos k0_0) (w0_0 : Has w0 k0_0) (A0_1 : Option Addr) (p0_1 : Nat) (k0_1 : Chunk) (v0_1 : View L_Block A0_1 p0_1 x0.Stash k0_1) (w0_1 : Has w0 k0_1) (A0_2 : Option Addr) (p0_2 : Nat) (k0_2 : Chunk) (v0_2 : View (Lay.sl L_Block 102) A0_2 p0_2 x0.Buckets k0_2) (w0_2 : Has w0 k0_2) (x1 : S_Block) (A2_ : Option Addr) (p2_ : Nat) (l2 : List Int) (k2_ : Chunk) (v2_ : View (Lay.int .i64) A2_ p2_ l2 k2_) (w2_ : Has w0 k2_) (r : Bool) (H : spec_l08Block.f x0 x1 l2 = some r) :
    Calls Try.prog 124 #[.agg #[.slice A0_0 x0.Pos.length p0_0, .slice A0_1 x0.Stash.length p0_1, .slice A0_2 x0.Buckets.length p0_2], .agg #[.int .i64 x1.Id, .int .i64 x1.Leaf, .int .i64 x1.Value], .slice A2_ l2.length p2_] w0 (Ret (fun v w => v = .bool r ∧ Sat [] w0 w [] [])) := by
  have hs : Sat [] w0 w0 [(1, k0_0), (2, k0_1), (3, k0_2), (4, k2_)] [] := Sat.init w0 [(1, k0_0), (2, k0_1), (3, k0_2), (4, k2_)] [] (by simp only [List.mem_cons, List.not_mem_nil, or_false]; rintro x (rfl | rfl | rfl | rfl) <;> assumption) (by simp) List.nodup_nil (by simp [blks])
  unfold spec_l08Block.f at H
  refine enter Try.func124 rfl Try.ntmps124 rfl fun a hk => ?_
  apply wp_seq_k; intro K1 hK1
  apply wp_region_lit
  refine sbx 5 hs rfl hk rfl rfl rfl rfl fun b2 w a hk hs => ?_
  refine sbx 6 hs rfl hk rfl rfl rfl rfl fun b3 w a hk hs => ?_
  refine sa _ rfl hk rfl rfl rfl fun a hk => ?_
  show wpList _ _ _ [] _ _
  refine wpList_nil ?_
  refine hK1 _ _ ?_
  apply wp_seq_k; intro K4 hK4
  obtain ⟨o7, h8, HL9⟩ := bind_some H
  clear H
  obtain ⟨R10, hR10⟩ : ∃ R : Act → World → Prop, R = fun a w => ∃ (u6 : Bool), u6 = o7 ∧ Kn [(6, (.bool u6))] 33 a ∧ Sat [] w0 w [(1, k0_0), (2, k0_1), (3, k0_2), (4, k2_)] [] := ⟨_, rfl⟩
  refine wp_cutq R10 ?_ ?_
  ·have H := h8
   refine wp_region_mix [(0, true), (1, true), (2, true), (3, true), (4, true), (5, true), (6, true), (7, true), (8, true), (9, true), (10, true), (11, true), (12, true), (13, true), (14, true), (15, true), (16, true), (17, true), (18, true), (19, true), (20, true), (21, true), (22, true), (23, true), (24, true), (25, true), (26, true)] mo (by kernel_rfl) hs fun _ => ?_
   have hs := hs.drew
   refine qst (.pointer (some ⟨b3, 0, none⟩)) hk rfl rfl rfl rfl (fun w hs => sf ⟨b3, 0, none⟩ rfl hk rfl rfl rfl fd102_0 rfl fun a hk => qe hk) fun a hk => ?_
   refine qst (.int .i64 x1.Id) hk rfl rfl rfl rfl (fun w hs => sl rfl hk rfl rfl rfl ag3 (box_cell hs (k := 6) rfl rfl) fun a hk => qe hk) fun a hk => ?_
   obtain ⟨y11, h12, H⟩ := bind_some H
   refine qst (.bool y11) hk rfl rfl rfl rfl (fun w hs => sc rfl en58 hk rfl rfl rfl (spec_l01In_t _ x1.Id 0 11 _ h12) fun _ w hR a hk => qc hR hk) fun a hk => ?_
   refine qst (.bool y11) hk rfl rfl rfl rfl (fun w hs => sm _ rfl hk rfl rfl rfl fun a hk => qe hk) fun a hk => ?_
   rcases cond_some H with ⟨c13, H⟩ | ⟨c13, H⟩
   ·have hk := hk.lit 10 c13 rfl
    refine qst (.pointer (some ⟨b2, 0, none⟩)) hk rfl rfl rfl rfl (fun w hs => sf ⟨b2, 0, none⟩ rfl hk rfl rfl rfl fd31_0 rfl fun a hk => qe hk) fun a hk => ?_
    refine qst (.slice A0_0 x0.Pos.length p0_0) hk rfl rfl rfl rfl (fun w hs => sl rfl hk rfl rfl rfl ag22 (box_cell hs (k := 5) rfl rfl) fun a hk => qe hk) fun a hk => ?_
    refine qst (.pointer (some ⟨b3, 0, none⟩)) hk rfl rfl rfl rfl (fun w hs => sf ⟨b3, 0, none⟩ rfl hk rfl rfl rfl fd102_0 rfl fun a hk => qe hk) fun a hk => ?_
    refine qst (.int .i64 x1.Id) hk rfl rfl rfl rfl (fun w hs => sl rfl hk rfl rfl rfl ag3 (box_cell hs (k := 6) rfl rfl) fun a hk => qe hk) fun a hk => ?_
    rcases ite_some H with ⟨c14, H⟩ | ⟨_, H⟩
    rotate_left
    ·cases H
    obtain ⟨b15, q16, hAc14⟩ := (v0_0).some_ x1.Id c14.1 c14.2
    refine qst (.pointer (some (padd A0_0 ((x1.Id).toNat * 1)))) hk rfl rfl rfl rfl (fun w hs => si rfl hk rfl rfl rfl rfl un22 sz3 c14.1 c14.2 hAc14 fun a hk => qe hk) fun a hk => ?_
    obtain ⟨_, rfl, e17⟩ := (v0_0).at_ 0 x1.Id c14.1 c14.2
    refine qst (.int .i64 (x0.Pos.getD (x1.Id).toNat 0)) hk rfl rfl rfl rfl (fun w hs => sl (v := (.int .i64 (x0.Pos.getD (x1.Id).toNat 0))) rfl hk rfl rfl rfl ag3 ((e17 0 _ rfl).cell (hs.hasD (k := 1) rfl)) fun a hk => qe hk) fun a hk => ?_
    refine qst (.pointer (some ⟨b3, 1, none⟩)) hk rfl rfl rfl rfl (fun w hs => sf ⟨b3, 1, none⟩ rfl hk rfl rfl rfl fd102_1 rfl fun a hk => qe hk) fun a hk => ?_
    refine qst (.int .i64 x1.Leaf) hk rfl rfl rfl rfl (fun w hs => sl rfl hk rfl rfl rfl ag3 (box_cell hs (k := 6) rfl rfl) fun a hk => qe hk) fun a hk => ?_
    refine qst (.bool ((x0.Pos.getD (x1.Id).toNat 0) == x1.Leaf)) hk rfl rfl rfl rfl (fun w hs => sv (.bool ((x0.Pos.getD (x1.Id).toNat 0) == x1.Leaf)) hk rfl rfl rfl fun a hk => qe hk) fun a hk => ?_
    refine qst (.bool ((x0.Pos.getD (x1.Id).toNat 0) == x1.Leaf)) hk rfl rfl rfl rfl (fun w hs => sv (.bool ((x0.Pos.getD (x1.Id).toNat 0) == x1.Leaf)) hk rfl rfl rfl fun a hk => qe hk) fun a hk => ?_
    refine qst (.bool ((x0.Pos.getD (x1.Id).toNat 0) == x1.Leaf)) hk rfl rfl rfl rfl (fun w hs => sm _ rfl hk rfl rfl rfl fun a hk => qe hk) fun a hk => ?_
    rcases cond_some H with ⟨c18, H⟩ | ⟨c18, H⟩
    ·have hk := hk.lit 21 c18 rfl
     refine qst (.pointer (some ⟨b3, 2, none⟩)) hk rfl rfl rfl rfl (fun w hs => sf ⟨b3, 2, none⟩ rfl hk rfl rfl rfl fd102_2 rfl fun a hk => qe hk) fun a hk => ?_
     refine qst (.int .i64 x1.Value) hk rfl rfl rfl rfl (fun w hs => sl rfl hk rfl rfl rfl ag3 (box_cell hs (k := 6) rfl rfl) fun a hk => qe hk) fun a hk => ?_
     obtain ⟨y19, h20, H⟩ := bind_some H
     refine qst (.bool y19) hk rfl rfl rfl rfl (fun w hs => sc rfl en58 hk rfl rfl rfl (spec_l01In_t _ x1.Value 0 999999 _ h20) fun _ w hR a hk => qc hR hk) fun a hk => ?_
     refine qst (.bool y19) hk rfl rfl rfl rfl (fun w hs => sv (.bool y19) hk rfl rfl rfl fun a hk => qe hk) fun a hk => ?_
     refine qst (.bool y19) hk rfl rfl rfl rfl (fun w hs => sm _ rfl hk rfl rfl rfl fun a hk => qe hk) fun a hk => ?_
     rcases cond_some H with ⟨c21, H⟩ | ⟨c21, H⟩
     ·have hk := hk.lit 26 c21 rfl
      refine qst (.slice A2_ l2.length p2_) hk rfl rfl rfl rfl (fun w hs => sm _ rfl hk rfl rfl rfl fun a hk => qe hk) fun a hk => ?_
      refine qst (.pointer (some ⟨b3, 0, none⟩)) hk rfl rfl rfl rfl (fun w hs => sf ⟨b3, 0, none⟩ rfl hk rfl rfl rfl fd102_0 rfl fun a hk => qe hk) fun a hk => ?_
      refine qst (.int .i64 x1.Id) hk rfl rfl rfl rfl (fun w hs => sl rfl hk rfl rfl rfl ag3 (box_cell hs (k := 6) rfl rfl) fun a hk => qe hk) fun a hk => ?_
      obtain ⟨y22, h23, H⟩ := bind_some H
      refine qst (.bool y22) hk rfl rfl rfl rfl (fun w hs => sc rfl en147 hk rfl rfl rfl (spec_l08In_t _ A2_ p2_ l2 _ v2_ (hs.hasD (k := 4) rfl) x1.Id _ h23) fun _ w hR a hk => qc hR hk) fun a hk => ?_
      refine qst (.bool (!y22)) hk rfl rfl rfl rfl (fun w hs => sv (.bool (!y22)) hk rfl rfl rfl fun a hk => qe hk) fun a hk => ?_
      refine qst (.bool (!y22)) hk rfl rfl rfl rfl (fun w hs => sv (.bool (!y22)) hk rfl rfl rfl fun a hk => qe hk) fun a hk => ?_
      refine qst (.bool (!y22)) hk rfl rfl rfl rfl (fun w hs => sa _ rfl hk rfl rfl rfl fun a hk => qe hk) fun a hk => ?_
      refine wml_nil fun w hF _ => ?_
      have hs := hs.f hF
      obtain rfl := Option.some.inj H
      show R10 _ _
      rw [hR10]
      exact ⟨(!y22), rfl, (hk.c 6 rfl hk.k), (hs.pick [] rfl)⟩
     ·have hk := hk.lit 26 c21 rfl
      refine qsk hk rfl rfl rfl rfl fun a hk => ?_
      refine qsk hk rfl rfl rfl rfl fun a hk => ?_
      refine qsk hk rfl rfl rfl rfl fun a hk => ?_
      refine qsk hk rfl rfl rfl rfl fun a hk => ?_
      refine qsk hk rfl rfl rfl rfl fun a hk => ?_
      refine qst (.bool false) hk rfl rfl rfl rfl (fun w hs => sv (.bool false) hk rfl rfl rfl fun a hk => qe hk) fun a hk => ?_
      refine qst (.bool false) hk rfl rfl rfl rfl (fun w hs => sa _ rfl hk rfl rfl rfl fun a hk => qe hk) fun a hk => ?_
      refine wml_nil fun w hF _ => ?_
      have hs := hs.f hF
      obtain rfl := Option.some.inj H
      show R10 _ _
      rw [hR10]
      exact ⟨false, rfl, (hk.c 6 rfl hk.k), (hs.pick [] rfl)⟩
    ·have hk := hk.lit 21 c18 rfl
     refine qsk hk rfl rfl rfl rfl fun a hk => ?_
     refine qsk hk rfl rfl rfl rfl fun a hk => ?_
     refine qsk hk rfl rfl rfl rfl fun a hk => ?_
     refine qst (.bool false) hk rfl rfl rfl rfl (fun w hs => sv (.bool false) hk rfl rfl rfl fun a hk => qe hk) fun a hk => ?_
     refine qst (.bool false) hk rfl rfl rfl rfl (fun w hs => sm _ rfl hk rfl rfl rfl fun a hk => qe hk) fun a hk => ?_
     refine qsk hk rfl rfl rfl rfl fun a hk => ?_
     refine qsk hk rfl rfl rfl rfl fun a hk => ?_
     refine qsk hk rfl rfl rfl rfl fun a hk => ?_
     refine qsk hk rfl rfl rfl rfl fun a hk => ?_
     refine qsk hk rfl rfl rfl rfl fun a hk => ?_
     refine qst (.bool false) hk rfl rfl rfl rfl (fun w hs => sv (.bool false) hk rfl rfl rfl fun a hk => qe hk) fun a hk => ?_
     refine qst (.bool false) hk rfl rfl rfl rfl (fun w hs => sa _ rfl hk rfl rfl rfl fun a hk => qe hk) fun a hk => ?_
     refine wml_nil fun w hF _ => ?_
     have hs := hs.f hF
     obtain rfl := Option.some.inj H
     show R10 _ _
     rw [hR10]
     exact ⟨false, rfl, (hk.c 6 rfl hk.k), (hs.pick [] rfl)⟩
   ·have hk := hk.lit 10 c13 rfl
    refine qsk hk rfl rfl rfl rfl fun a hk => ?_
    refine qsk hk rfl rfl rfl rfl fun a hk => ?_
    refine qsk hk rfl rfl rfl rfl fun a hk => ?_
    refine qsk hk rfl rfl rfl rfl fun a hk => ?_
    refine qsk hk rfl rfl rfl rfl fun a hk => ?_
    refine qsk hk rfl rfl rfl rfl fun a hk => ?_
    refine qsk hk rfl rfl rfl rfl fun a hk => ?_
    refine qsk hk rfl rfl rfl rfl fun a hk => ?_
    refine qsk hk rfl rfl rfl rfl fun a hk => ?_
    refine qst (.bool false) hk rfl rfl rfl rfl (fun w hs => sv (.bool false) hk rfl rfl rfl fun a hk => qe hk) fun a hk => ?_
    refine qst (.bool false) hk rfl rfl rfl rfl (fun w hs => sm _ rfl hk rfl rfl rfl fun a hk => qe hk) fun a hk => ?_
    refine qsk hk rfl rfl rfl rfl fun a hk => ?_
    refine qsk hk rfl rfl rfl rfl fun a hk => ?_
    refine qsk hk rfl rfl rfl rfl fun a hk => ?_
    refine qst (.bool false) hk rfl rfl rfl rfl (fun w hs => sv (.bool false) hk rfl rfl rfl fun a hk => qe hk) fun a hk => ?_
    refine qst (.bool false) hk rfl rfl rfl rfl (fun w hs => sm _ rfl hk rfl rfl rfl fun a hk => qe hk) fun a hk => ?_
    refine qsk hk rfl rfl rfl rfl fun a hk => ?_
    refine qsk hk rfl rfl rfl rfl fun a hk => ?_
    refine qsk hk rfl rfl rfl rfl fun a hk => ?_
    refine qsk hk rfl rfl rfl rfl fun a hk => ?_
    refine qsk hk rfl rfl rfl rfl fun a hk => ?_
    refine qst (.bool false) hk rfl rfl rfl rfl (fun w hs => sv (.bool false) hk rfl rfl rfl fun a hk => qe hk) fun a hk => ?_
    refine qst (.bool false) hk rfl rfl rfl rfl (fun w hs => sa _ rfl hk rfl rfl rfl fun a hk => qe hk) fun a hk => ?_
    refine wml_nil fun w hF _ => ?_
    have hs := hs.f hF
    obtain rfl := Option.some.inj H
    show R10 _ _
    rw [hR10]
    exact ⟨false, rfl, (hk.c 6 rfl hk.k), (hs.pick [] rfl)⟩
  ·intro a w hR0
   rw [hR10] at hR0
   obtain ⟨u6, rfl, hk, hs⟩ := hR0
   have H := HL9
   try dsimp only at H
   refine hK4 _ _ ?_
   refine wp_ret ?_
   obtain rfl := Option.some.inj H
   exact fin hk _ [(.bool u6)] rfl ⟨rfl, trivial⟩ ⟨rfl, (hs.pick [] rfl).dnil⟩

noncomputable def spec_l08Path.s0  (u14 : List Int) (u13 : Int) : Option (((List Int) × Int) ⊕ Ex (Unit) ((List Int))) :=
  (if ([u13]).length + u14.length ≤ 1073741824 then (bif (u13 == 0) then (some (.inr (.ret (([u13]) ++ u14)))) else (some (.inl ((([u13]) ++ u14), (IntKind.wrap .i64 (Int.tdiv (w64 (u13 - 1)) 2)))))) else none)
noncomputable def spec_l08Path.f (x0 : Int) : Option ((List Int)) :=
  ((loopO (fun s => spec_l08Path.s0  s.1 s.2) (([] : List Int), (w64 (7 + x0)))).bind fun o => match o with | .out _ => none | .ret r => (some r))
set_option maxRecDepth 100000 in
set_option maxHeartbeats 0 in
theorem spec_l08Path_t (w0 : World) (x0 : Int) (r : (List Int)) (H : spec_l08Path.f x0 = some r) :
    Calls Try.prog 127 #[.int .i64 x0] w0 (Ret (fun v w => ∃ (A0 : Option Addr) (p0 : Nat) (k0 : Chunk), v = .slice A0 r.length p0 ∧ Own (Lay.int .i64) 3 A0 p0 r k0 ∧ Sat [] w0 w [] [(0, k0)])) := by
  have hs : Sat [] w0 w0 [] [] := Sat.init w0 [] [] (by simp) (by simp) List.nodup_nil (by simp [blks])
  unfold spec_l08Path.f at H
  refine enter Try.func127 rfl Try.ntmps127 rfl fun a hk => ?_
  apply wp_seq_k; intro K1 hK1
  apply wp_region_lit
  refine sa _ rfl hk rfl rfl rfl fun a hk => ?_
  show wpList _ _ _ [] _ _
  refine wpList_nil ?_
  refine hK1 _ _ ?_
  apply wp_seq_k; intro K2 hK2
  apply wp_region_lit
  refine sbs0 1 (Lay.int .i64) hs rfl hk rfl rfl un22 sz3 fun b3 k4 w a hk o5 hs => ?_
  refine sa _ rfl hk rfl rfl rfl fun a hk => ?_
  show wpList _ _ _ [] _ _
  refine wpList_nil ?_
  refine hK2 _ _ ?_
  apply wp_seq_k; intro K6 hK6
  apply wp_region_lit
  refine sm _ rfl hk rfl rfl rfl fun a hk => ?_
  refine sv (.int .i64 (w64 (7 + x0))) hk rfl rfl rfl fun a hk => ?_
  refine sa _ rfl hk rfl rfl rfl fun a hk => ?_
  show wpList _ _ _ [] _ _
  refine wpList_nil ?_
  refine hK6 _ _ ?_
  obtain ⟨o19, h20, HL21⟩ := bind_some H
  clear H
  obtain ⟨R22, hR22⟩ : ∃ R : Act → World → Prop, R = fun a w => o19 = .out () ∧ Kn [] 18 a ∧ Sat [] w0 w [] [] := ⟨_, rfl⟩
  refine wp_cutq R22 ?_ ?_
  ·refine wp_block ?_
   obtain ⟨fu24, h20⟩ := loopO_some h20
   obtain ⟨I23, hI23⟩ : ∃ I : Nat → Act → World → Prop, I = fun fu a w => ∃ (u14 : List Int) (u13 : Int) (A17 : Option Addr) (p18 : Nat) (k15 : Chunk), loopN (fun s => spec_l08Path.s0  s.1 s.2) fu (u14, u13) = some o19 ∧ Kn [(3, (.slice A17 u14.length p18)), (4, (.int .i64 u13))] 18 a ∧ Sat [] w0 w [] [(1, k15)] ∧ Own (Lay.int .i64) 3 A17 p18 u14 k15 := ⟨_, rfl⟩
   refine wp_loop_ghost I23 fu24 ?_ ?_
   ·rw [hI23]
    exact ⟨([] : List Int), (w64 (7 + x0)), (some ⟨b3, 0, none⟩), 0, _, h20, (hk.c 3 rfl (hk.c 4 rfl hk.k)), (hs.pick [(1, 1)] rfl), o5⟩
   ·clear h20 hk hs
    intro fu24 a w hI0
    rw [hI23] at hI0
    obtain ⟨u14, u13, A17, p18, k15, hi, hk, hs, o16⟩ := hI0
    obtain ⟨x25, H, h26⟩ := loop_round hi
    try dsimp only at H
    unfold spec_l08Path.s0 at H
    apply wp_seq_k; intro K27 hK27
    refine wp_block ?_
    apply wp_seq_k; intro K28 hK28
    apply wp_region_lit
    refine sm _ rfl hk rfl rfl rfl fun a hk => ?_
    refine sbs (L := (Lay.int .i64)) (pv := [(0, (.int .i64 u13))]) (xs := [u13]) (ess := [[.int .i64 u13]]) 3 hs rfl hk rfl rfl rfl un22 (bs3_0 u13) (AllOwn.cons0 ⟨rfl, rfl⟩ AllOwn.nil) rfl rfl rfl fun b29 k30 w a hk o31 hs => ?_
    refine sm _ rfl hk rfl rfl rfl fun a hk => ?_
    rcases ite_some H with ⟨c32, H⟩ | ⟨_, H⟩
    rotate_left
    ·cases H
    refine sap 3 (xs := [u13]) (ys := u14) (flat_flat : ((Lay.int .i64)).Flat) hs rfl o31 o16.view (hs.hasG (k := 1) rfl) rfl hk rfl rfl rfl rfl rfl rfl un22 mk3 rfl rfl rfl c32 fun A33 p34 k35 w a hk o36 hs => ?_
    refine sa _ rfl hk rfl rfl rfl fun a hk => ?_
    show wpList _ _ _ [] _ _
    refine wpList_nil ?_
    refine hK28 _ _ ?_
    have hs := hs.pick [(3, 3)] rfl
    apply wp_seq_k; intro K37 hK37
    apply wp_region_lit
    refine sm _ rfl hk rfl rfl rfl fun a hk => ?_
    refine sv (.bool (u13 == 0)) hk rfl rfl rfl fun a hk => ?_
    show wpList _ _ _ [] _ _
    refine wpList_nil ?_
    refine hK37 _ _ ?_
    rcases cond_some H with ⟨c38, H⟩ | ⟨c38, H⟩
    ·have hk := hk.lit 16 c38 rfl
     refine cnd_true hk rfl rfl ?_
     apply wp_seq_k; intro K39 hK39
     apply wp_region_lit
     refine sm _ rfl hk rfl rfl rfl fun a hk => ?_
     refine sa _ rfl hk rfl rfl rfl fun a hk => ?_
     show wpList _ _ _ [] _ _
     refine wpList_nil ?_
     refine hK39 _ _ ?_
     refine wp_ret ?_
     obtain rfl := Option.some.inj H
     have ho19 := h26
     try dsimp only at ho19
     subst ho19
     have H := HL21
     try dsimp only at H
     obtain rfl := Option.some.inj H
     exact fin hk _ [(.slice A33 (([u13]) ++ u14).length p34)] rfl ⟨rfl, trivial⟩ ⟨A33, p34, _, rfl, o36, (hs.pick [(0, 3)] rfl).dnil⟩
    ·have hk := hk.lit 16 c38 rfl
     refine cnd_false hk rfl rfl ?_
     refine wp_skip ?_
     refine hK27 _ _ ?_
     apply wp_region_lit
     refine sm _ rfl hk rfl rfl rfl fun a hk => ?_
     refine sv (.int .i64 (w64 (u13 - 1))) hk rfl rfl rfl fun a hk => ?_
     refine sv (.int .i64 (IntKind.wrap .i64 (Int.tdiv (w64 (u13 - 1)) 2))) hk rfl rfl rfl fun a hk => ?_
     refine sa _ rfl hk rfl rfl rfl fun a hk => ?_
     show wpList _ _ _ [] _ _
     refine wpList_nil ?_
     obtain rfl := Option.some.inj H
     obtain ⟨m40, hmm40, h26⟩ := h26
     show ∃ n', n' < _ ∧ I23 n' _ _
     refine ⟨m40, hmm40, ?_⟩
     rw [hI23]
     exact ⟨(([u13]) ++ u14), (IntKind.wrap .i64 (Int.tdiv (w64 (u13 - 1)) 2)), A33, p34, _, h26, (hk.c 3 rfl (hk.c 4 rfl hk.k)), (hs.pick [(1, 3)] rfl), o36⟩
  ·intro a w hR0
   rw [hR22] at hR0
   obtain ⟨rfl, hk, hs⟩ := hR0
   have H := HL21
   try dsimp only at H
   cases H

noncomputable def spec_l08On.s0 (x0 : Int) (y3 : (List Int)) (u13 : Int) : Option ((Int) ⊕ Ex (Unit) (Bool)) :=
  (bif (decide (u13 < (y3.length : Int))) then (if 0 ≤ u13 ∧ u13 < (y3.length : Int) then (bif ((y3.getD u13.toNat 0) == x0) then (some (.inr (.ret true))) else (some (.inl (w64 (u13 + 1))))) else none) else (some (.inr (.out ()))))
noncomputable def spec_l08On.f (x0 : Int) (x1 : Int) : Option (Bool) :=
  ((spec_l08Path.f x1).bind fun y3 => ((loopO (fun s => spec_l08On.s0 x0 y3 s) 0).bind fun o => match o with | .out _ => (some false) | .ret r => (some r)))
set_option maxRecDepth 100000 in
set_option maxHeartbeats 0 in
theorem spec_l08On_t (w0 : World) (x0 : Int) (x1 : Int) (r : Bool) (H : spec_l08On.f x0 x1 = some r) :
    Calls Try.prog 125 #[.int .i64 x0, .int .i64 x1] w0 (Ret (fun v w => v = .bool r ∧ Sat [] w0 w [] [])) := by
  have hs : Sat [] w0 w0 [] [] := Sat.init w0 [] [] (by simp) (by simp) List.nodup_nil (by simp [blks])
  unfold spec_l08On.f at H
  refine enter Try.func125 rfl Try.ntmps125 rfl fun a hk => ?_
  apply wp_seq_k; intro K1 hK1
  apply wp_region_lit
  refine sa _ rfl hk rfl rfl rfl fun a hk => ?_
  show wpList _ _ _ [] _ _
  refine wpList_nil ?_
  refine hK1 _ _ ?_
  apply wp_seq_k; intro K2 hK2
  apply wp_region_lit
  refine sm _ rfl hk rfl rfl rfl fun a hk => ?_
  obtain ⟨y3, h4, H⟩ := bind_some H
  refine sc rfl en127 hk rfl rfl rfl (spec_l08Path_t _ x1 _ h4) ?_
  rintro _ w ⟨A5, p6, k7, rfl, o8, hG⟩ a hk
  have hs := hs.call0k hG [1] rfl
  refine sa _ rfl hk rfl rfl rfl fun a hk => ?_
  show wpList _ _ _ [] _ _
  refine wpList_nil ?_
  refine hK2 _ _ ?_
  apply wp_seq_k; intro K9 hK9
  apply wp_seq_k; intro K10 hK10
  apply wp_region_lit
  refine sa _ rfl hk rfl rfl rfl fun a hk => ?_
  show wpList _ _ _ [] _ _
  refine wpList_nil ?_
  refine hK10 _ _ ?_
  obtain ⟨o14, h15, HL16⟩ := bind_some H
  clear H
  obtain ⟨R17, hR17⟩ : ∃ R : Act → World → Prop, R = fun a w => o14 = .out () ∧ Kn [] 21 a ∧ Sat [] w0 w [] [] := ⟨_, rfl⟩
  refine wp_cutq R17 ?_ ?_
  ·refine wp_block ?_
   obtain ⟨fu19, h15⟩ := loopO_some h15
   obtain ⟨I18, hI18⟩ : ∃ I : Nat → Act → World → Prop, I = fun fu a w => ∃ (u13 : Int), loopN (fun s => spec_l08On.s0 x0 y3 s) fu u13 = some o14 ∧ Kn [(0, (.int .i64 x0)), (5, (.slice A5 y3.length p6)), (6, (.int .i64 u13))] 21 a ∧ Sat [] w0 w [] [(1, k7)] := ⟨_, rfl⟩
   refine wp_loop_ghost I18 fu19 ?_ ?_
   ·rw [hI18]
    exact ⟨0, h15, (hk.c 0 rfl (hk.c 5 rfl (hk.c 6 rfl hk.k))), (hs.pick [(1, 1)] rfl)⟩
   ·clear h15 hk hs
    intro fu19 a w hI0
    rw [hI18] at hI0
    obtain ⟨u13, hi, hk, hs⟩ := hI0
    obtain ⟨x20, H, h21⟩ := loop_round hi
    try dsimp only at H
    unfold spec_l08On.s0 at H
    apply wp_seq_k; intro K22 hK22
    apply wp_seq_k; intro K23 hK23
    apply wp_region_lit
    refine sm _ rfl hk rfl rfl rfl fun a hk => ?_
    refine sm _ rfl hk rfl rfl rfl fun a hk => ?_
    refine sle rfl hk rfl rfl rfl un22 fun a hk => ?_
    refine sv (.bool (decide (u13 < (y3.length : Int)))) hk rfl rfl rfl fun a hk => ?_
    show wpList _ _ _ [] _ _
    refine wpList_nil ?_
    refine hK23 _ _ ?_
    have hs := hs.pick [(1, 1)] rfl
    rcases cond_some H with ⟨c24, H⟩ | ⟨c24, H⟩
    ·have hk := hk.lit 12 c24 rfl
     refine cnd_true hk rfl rfl ?_
     refine wp_skip ?_
     refine hK22 _ _ ?_
     apply wp_seq_k; intro K25 hK25
     refine wp_block ?_
     apply wp_seq_k; intro K26 hK26
     apply wp_region_lit
     refine sm _ rfl hk rfl rfl rfl fun a hk => ?_
     refine sm _ rfl hk rfl rfl rfl fun a hk => ?_
     rcases ite_some H with ⟨c27, H⟩ | ⟨_, H⟩
     rotate_left
     ·cases H
     obtain ⟨b28, q29, hAc27⟩ := (o8.view).some_ u13 c27.1 c27.2
     refine si rfl hk rfl rfl rfl rfl un22 sz3 c27.1 c27.2 hAc27 fun a hk => ?_
     obtain ⟨_, rfl, e30⟩ := (o8.view).at_ 0 u13 c27.1 c27.2
     refine sl (v := (.int .i64 (y3.getD u13.toNat 0))) rfl hk rfl rfl rfl ag3 ((e30 0 _ rfl).cell (hs.hasG (k := 1) rfl)) fun a hk => ?_
     refine sm _ rfl hk rfl rfl rfl fun a hk => ?_
     refine sv (.bool ((y3.getD u13.toNat 0) == x0)) hk rfl rfl rfl fun a hk => ?_
     show wpList _ _ _ [] _ _
     refine wpList_nil ?_
     refine hK26 _ _ ?_
     rcases cond_some H with ⟨c31, H⟩ | ⟨c31, H⟩
     ·have hk := hk.lit 20 c31 rfl
      refine cnd_true hk rfl rfl ?_
      apply wp_seq_k; intro K32 hK32
      apply wp_region_lit
      refine sa _ rfl hk rfl rfl rfl fun a hk => ?_
      show wpList _ _ _ [] _ _
      refine wpList_nil ?_
      refine hK32 _ _ ?_
      refine wp_ret ?_
      obtain rfl := Option.some.inj H
      have ho14 := h21
      try dsimp only at ho14
      subst ho14
      have H := HL16
      try dsimp only at H
      obtain rfl := Option.some.inj H
      exact fin hk _ [(.bool true)] rfl ⟨rfl, trivial⟩ ⟨rfl, (hs.pick [] rfl).dnil⟩
     ·have hk := hk.lit 20 c31 rfl
      refine cnd_false hk rfl rfl ?_
      refine wp_skip ?_
      refine hK25 _ _ ?_
      apply wp_region_lit
      refine sm _ rfl hk rfl rfl rfl fun a hk => ?_
      refine sv (.int .i64 (w64 (u13 + 1))) hk rfl rfl rfl fun a hk => ?_
      refine sa _ rfl hk rfl rfl rfl fun a hk => ?_
      show wpList _ _ _ [] _ _
      refine wpList_nil ?_
      obtain rfl := Option.some.inj H
      obtain ⟨m33, hmm33, h21⟩ := h21
      show ∃ n', n' < _ ∧ I18 n' _ _
      refine ⟨m33, hmm33, ?_⟩
      rw [hI18]
      exact ⟨(w64 (u13 + 1)), h21, (hk.c 0 rfl (hk.c 5 rfl (hk.c 6 rfl hk.k))), (hs.pick [(1, 1)] rfl)⟩
    ·have hk := hk.lit 12 c24 rfl
     refine cnd_false hk rfl rfl ?_
     refine wp_exit ?_
     obtain rfl := Option.some.inj H
     show R17 _ _
     rw [hR17]
     exact ⟨h21.symm, hk.k, (hs.pick [] rfl)⟩
  ·intro a w hR0
   rw [hR17] at hR0
   obtain ⟨rfl, hk, hs⟩ := hR0
   have H := HL16
   try dsimp only at H
   refine hK9 _ _ ?_
   have hs := hs.pick [] rfl
   apply wp_seq_k; intro K34 hK34
   apply wp_region_lit
   refine sa _ rfl hk rfl rfl rfl fun a hk => ?_
   show wpList _ _ _ [] _ _
   refine wpList_nil ?_
   refine hK34 _ _ ?_
   refine wp_ret ?_
   obtain rfl := Option.some.inj H
   exact fin hk _ [(.bool false)] rfl ⟨rfl, trivial⟩ ⟨rfl, (hs.pick [] rfl).dnil⟩

noncomputable def spec_OramOK.s0 (x0 : S_Oram) (u31 : List Int) (u30 : Int) : Option (((List Int) × Int) ⊕ Ex ((List Int)) (Bool)) :=
  (bif (decide (u30 < (x0.Stash.length : Int))) then (if 0 ≤ u30 ∧ u30 < (x0.Stash.length : Int) then ((spec_l08Block.f x0 (x0.Stash.getD u30.toNat z_Block) u31).bind fun y60 => (bif (!y60) then (some (.inr (.ret false))) else (if 0 ≤ u30 ∧ u30 < (x0.Stash.length : Int) then (if u31.length + ([(x0.Stash.getD u30.toNat z_Block).Id]).length ≤ 1073741824 then (some (.inl ((u31 ++ ([(x0.Stash.getD u30.toNat z_Block).Id])), (w64 (u30 + 1))))) else none) else none))) else none) else (some (.inr (.out u31))))
noncomputable def spec_OramOK.s2 (x0 : S_Oram) (u85 : Int) (u122 : List Int) (u121 : Int) : Option (((List Int) × Int) ⊕ Ex ((List Int)) (Bool)) :=
  (if 0 ≤ u85 ∧ u85 < (x0.Buckets.length : Int) then (bif (decide (u121 < ((x0.Buckets.getD u85.toNat []).length : Int))) then (if 0 ≤ u85 ∧ u85 < (x0.Buckets.length : Int) then (if 0 ≤ u121 ∧ u121 < ((x0.Buckets.getD u85.toNat []).length : Int) then ((((spec_l08Block.f x0 ((x0.Buckets.getD u85.toNat []).getD u121.toNat z_Block) u122).bind fun y172 => (bif (!y172) then (some true) else ((spec_l08On.f u85 (((x0.Buckets.getD u85.toNat []).getD u121.toNat z_Block).Leaf)).bind fun y175 => (some (!y175))))) : Option (Bool)).bind fun u167 => (bif u167 then (some (.inr (.ret false))) else (if u122.length + ([((x0.Buckets.getD u85.toNat []).getD u121.toNat z_Block).Id]).length ≤ 1073741824 then (some (.inl ((u122 ++ ([((x0.Buckets.getD u85.toNat []).getD u121.toNat z_Block).Id])), (w64 (u121 + 1))))) else none))) else none) else none) else (some (.inr (.out u122)))) else none)
noncomputable def spec_OramOK.s1 (x0 : S_Oram) (u86 : List Int) (u85 : Int) : Option (((List Int) × Int) ⊕ Ex (Unit) (Bool)) :=
  (bif (decide (u85 < 15)) then (if 0 ≤ u85 ∧ u85 < (x0.Buckets.length : Int) then (bif (decide (((x0.Buckets.getD u85.toNat []).length : Int) > 2)) then (some (.inr (.ret false))) else ((loopO (fun s => spec_OramOK.s2 x0 u85 s.1 s.2) (u86, 0)).bind fun o => match o with | .out u127 => (some (.inl (u127, (w64 (u85 + 1))))) | .ret r => (some (.inr (.ret r))))) else none) else (some (.inr (.out ()))))
noncomputable def spec_OramOK.f (x0 : S_Oram) : Option (Bool) :=
  (((bif ((x0.Pos.length : Int) != 12) then (some true) else ((spec_l08Leaves.f x0.Pos).bind fun y12 => (bif (!y12) then (some true) else (bif (decide ((x0.Stash.length : Int) > 12)) then (some true) else (some ((x0.Buckets.length : Int) != 15)))))) : Option (Bool)).bind fun u6 => (bif u6 then (some false) else ((loopO (fun s => spec_OramOK.s0 x0 s.1 s.2) (([] : List Int), 0)).bind fun o => match o with | .out u36 => ((loopO (fun s => spec_OramOK.s1 x0 s.1 s.2) (u36, 0)).bind fun o => match o with | .out _ => (some true) | .ret r => (some r)) | .ret r => (some r))))
set_option maxRecDepth 100000 in
set_option maxHeartbeats 0 in
theorem spec_OramOK_t (w0 : World) (x0 : S_Oram) (A0_0 : Option Addr) (p0_0 : Nat) (k0_0 : Chunk) (v0_0 : View (Lay.int .i64) A0_0 p0_0 x0.Pos k0_0) (w0_0 : Has w0 k0_0) (A0_1 : Option Addr) (p0_1 : Nat) (k0_1 : Chunk) (v0_1 : View L_Block A0_1 p0_1 x0.Stash k0_1) (w0_1 : Has w0 k0_1) (A0_2 : Option Addr) (p0_2 : Nat) (k0_2 : Chunk) (v0_2 : View (Lay.sl L_Block 102) A0_2 p0_2 x0.Buckets k0_2) (w0_2 : Has w0 k0_2) (r : Bool) (H : spec_OramOK.f x0 = some r) :
    Calls Try.prog 57 #[.agg #[.slice A0_0 x0.Pos.length p0_0, .slice A0_1 x0.Stash.length p0_1, .slice A0_2 x0.Buckets.length p0_2]] w0 (Ret (fun v w => v = .bool r ∧ Sat [] w0 w [] [])) := by
  have hs : Sat [] w0 w0 [(1, k0_0), (2, k0_1), (3, k0_2)] [] := Sat.init w0 [(1, k0_0), (2, k0_1), (3, k0_2)] [] (by simp only [List.mem_cons, List.not_mem_nil, or_false]; rintro x (rfl | rfl | rfl) <;> assumption) (by simp) List.nodup_nil (by simp [blks])
  unfold spec_OramOK.f at H
  refine enter Try.func57 rfl Try.ntmps57 rfl fun a hk => ?_
  apply wp_seq_k; intro K1 hK1
  apply wp_region_lit
  refine sbx 4 hs rfl hk rfl rfl rfl rfl fun b2 w a hk hs => ?_
  refine sa _ rfl hk rfl rfl rfl fun a hk => ?_
  show wpList _ _ _ [] _ _
  refine wpList_nil ?_
  refine hK1 _ _ ?_
  apply wp_seq_k; intro K3 hK3
  apply wp_seq_k; intro K4 hK4
  obtain ⟨o7, h8, HL9⟩ := bind_some H
  clear H
  obtain ⟨R10, hR10⟩ : ∃ R : Act → World → Prop, R = fun a w => ∃ (u6 : Bool), u6 = o7 ∧ Kn [(1, (.pointer (some ⟨b2, 0, none⟩))), (29, (.bool u6))] 102 a ∧ Sat [] w0 w [(1, k0_0), (2, k0_1), (3, k0_2)] [(4, [(b2, .cells #[.slice A0_0 x0.Pos.length p0_0, .slice A0_1 x0.Stash.length p0_1, .slice A0_2 x0.Buckets.length p0_2] 31 (0, 0))])] := ⟨_, rfl⟩
  refine wp_cutq R10 ?_ ?_
  ·have H := h8
   apply wp_region_lit
   refine sf ⟨b2, 0, none⟩ rfl hk rfl rfl rfl fd31_0 rfl fun a hk => ?_
   refine sl rfl hk rfl rfl rfl ag22 (box_cell hs (k := 4) rfl rfl) fun a hk => ?_
   refine sle rfl hk rfl rfl rfl un22 fun a hk => ?_
   refine sv (.bool ((x0.Pos.length : Int) != 12)) hk rfl rfl rfl fun a hk => ?_
   refine sm _ rfl hk rfl rfl rfl fun a hk => ?_
   rcases cond_some H with ⟨c11, H⟩ | ⟨c11, H⟩
   ·have hk := hk.lit 12 c11 rfl
    refine sk hk rfl rfl rfl fun a hk => ?_
    refine sk hk rfl rfl rfl fun a hk => ?_
    refine sk hk rfl rfl rfl fun a hk => ?_
    refine sk hk rfl rfl rfl fun a hk => ?_
    refine sv (.bool true) hk rfl rfl rfl fun a hk => ?_
    refine sm _ rfl hk rfl rfl rfl fun a hk => ?_
    refine sk hk rfl rfl rfl fun a hk => ?_
    refine sk hk rfl rfl rfl fun a hk => ?_
    refine sk hk rfl rfl rfl fun a hk => ?_
    refine sk hk rfl rfl rfl fun a hk => ?_
    refine sv (.bool true) hk rfl rfl rfl fun a hk => ?_
    refine sm _ rfl hk rfl rfl rfl fun a hk => ?_
    refine sk hk rfl rfl rfl fun a hk => ?_
    refine sk hk rfl rfl rfl fun a hk => ?_
    refine sk hk rfl rfl rfl fun a hk => ?_
    refine sk hk rfl rfl rfl fun a hk => ?_
    refine sv (.bool true) hk rfl rfl rfl fun a hk => ?_
    show wpList _ _ _ [] _ _
    refine wpList_nil ?_
    obtain rfl := Option.some.inj H
    show R10 _ _
    rw [hR10]
    exact ⟨true, rfl, (hk.c 1 rfl (hk.c 29 rfl hk.k)), (hs.pick [(4, 4)] rfl)⟩
   ·have hk := hk.lit 12 c11 rfl
    refine sf ⟨b2, 0, none⟩ rfl hk rfl rfl rfl fd31_0 rfl fun a hk => ?_
    refine sl rfl hk rfl rfl rfl ag22 (box_cell hs (k := 4) rfl rfl) fun a hk => ?_
    obtain ⟨y12, h13, H⟩ := bind_some H
    refine sc rfl en123 hk rfl rfl rfl (spec_l08Leaves_t _ A0_0 p0_0 x0.Pos _ v0_0 (hs.hasD (k := 1) rfl) _ h13) ?_
    rintro _ w ⟨rfl, hG⟩ a hk
    have hs := hs.call0 hG
    refine sv (.bool (!y12)) hk rfl rfl rfl fun a hk => ?_
    refine sv (.bool (!y12)) hk rfl rfl rfl fun a hk => ?_
    refine sm _ rfl hk rfl rfl rfl fun a hk => ?_
    rcases cond_some H with ⟨c14, H⟩ | ⟨c14, H⟩
    ·have hk := hk.lit 18 c14 rfl
     refine sk hk rfl rfl rfl fun a hk => ?_
     refine sk hk rfl rfl rfl fun a hk => ?_
     refine sk hk rfl rfl rfl fun a hk => ?_
     refine sk hk rfl rfl rfl fun a hk => ?_
     refine sv (.bool true) hk rfl rfl rfl fun a hk => ?_
     refine sm _ rfl hk rfl rfl rfl fun a hk => ?_
     refine sk hk rfl rfl rfl fun a hk => ?_
     refine sk hk rfl rfl rfl fun a hk => ?_
     refine sk hk rfl rfl rfl fun a hk => ?_
     refine sk hk rfl rfl rfl fun a hk => ?_
     refine sv (.bool true) hk rfl rfl rfl fun a hk => ?_
     show wpList _ _ _ [] _ _
     refine wpList_nil ?_
     obtain rfl := Option.some.inj H
     show R10 _ _
     rw [hR10]
     exact ⟨true, rfl, (hk.c 1 rfl (hk.c 29 rfl hk.k)), (hs.pick [(4, 4)] rfl)⟩
    ·have hk := hk.lit 18 c14 rfl
     refine sf ⟨b2, 1, none⟩ rfl hk rfl rfl rfl fd31_1 rfl fun a hk => ?_
     refine sl rfl hk rfl rfl rfl ag28 (box_cell hs (k := 4) rfl rfl) fun a hk => ?_
     refine sle rfl hk rfl rfl rfl un28 fun a hk => ?_
     refine sv (.bool (decide ((x0.Stash.length : Int) > 12))) hk rfl rfl rfl fun a hk => ?_
     refine sv (.bool (decide ((x0.Stash.length : Int) > 12))) hk rfl rfl rfl fun a hk => ?_
     refine sm _ rfl hk rfl rfl rfl fun a hk => ?_
     rcases cond_some H with ⟨c15, H⟩ | ⟨c15, H⟩
     ·have hk := hk.lit 24 c15 rfl
      refine sk hk rfl rfl rfl fun a hk => ?_
      refine sk hk rfl rfl rfl fun a hk => ?_
      refine sk hk rfl rfl rfl fun a hk => ?_
      refine sk hk rfl rfl rfl fun a hk => ?_
      refine sv (.bool true) hk rfl rfl rfl fun a hk => ?_
      show wpList _ _ _ [] _ _
      refine wpList_nil ?_
      obtain rfl := Option.some.inj H
      show R10 _ _
      rw [hR10]
      exact ⟨true, rfl, (hk.c 1 rfl (hk.c 29 rfl hk.k)), (hs.pick [(4, 4)] rfl)⟩
     ·have hk := hk.lit 24 c15 rfl
      refine sf ⟨b2, 2, none⟩ rfl hk rfl rfl rfl fd31_2 rfl fun a hk => ?_
      refine sl rfl hk rfl rfl rfl ag29 (box_cell hs (k := 4) rfl rfl) fun a hk => ?_
      refine sle rfl hk rfl rfl rfl un29 fun a hk => ?_
      refine sv (.bool ((x0.Buckets.length : Int) != 15)) hk rfl rfl rfl fun a hk => ?_
      refine sv (.bool ((x0.Buckets.length : Int) != 15)) hk rfl rfl rfl fun a hk => ?_
      show wpList _ _ _ [] _ _
      refine wpList_nil ?_
      obtain rfl := Option.some.inj H
      show R10 _ _
      rw [hR10]
      exact ⟨((x0.Buckets.length : Int) != 15), rfl, (hk.c 1 rfl (hk.c 29 rfl hk.k)), (hs.pick [(4, 4)] rfl)⟩
  ·intro a w hR0
   rw [hR10] at hR0
   obtain ⟨u6, rfl, hk, hs⟩ := hR0
   have H := HL9
   try dsimp only at H
   refine hK4 _ _ ?_
   rcases cond_some H with ⟨c16, H⟩ | ⟨c16, H⟩
   ·have hk := hk.lit 29 c16 rfl
    refine cnd_true hk rfl rfl ?_
    apply wp_seq_k; intro K17 hK17
    apply wp_region_lit
    refine sa _ rfl hk rfl rfl rfl fun a hk => ?_
    show wpList _ _ _ [] _ _
    refine wpList_nil ?_
    refine hK17 _ _ ?_
    refine wp_ret ?_
    obtain rfl := Option.some.inj H
    exact fin hk _ [(.bool false)] rfl ⟨rfl, trivial⟩ ⟨rfl, (hs.pick [] rfl).dnil⟩
   ·have hk := hk.lit 29 c16 rfl
    refine cnd_false hk rfl rfl ?_
    refine wp_skip ?_
    refine hK3 _ _ ?_
    apply wp_seq_k; intro K18 hK18
    apply wp_region_lit
    refine sbs0 6 (Lay.int .i64) hs rfl hk rfl rfl un22 sz3 fun b19 k20 w a hk o21 hs => ?_
    refine sa _ rfl hk rfl rfl rfl fun a hk => ?_
    show wpList _ _ _ [] _ _
    refine wpList_nil ?_
    refine hK18 _ _ ?_
    have hs := hs.pick [(6, 6), (4, 4)] rfl
    apply wp_seq_k; intro K22 hK22
    apply wp_seq_k; intro K23 hK23
    apply wp_region_lit
    refine sa _ rfl hk rfl rfl rfl fun a hk => ?_
    show wpList _ _ _ [] _ _
    refine wpList_nil ?_
    refine hK23 _ _ ?_
    obtain ⟨o41, h42, HL43⟩ := bind_some H
    clear H
    obtain ⟨R44, hR44⟩ : ∃ R : Act → World → Prop, R = fun a w => ∃ (u36 : List Int) (A39 : Option Addr) (p40 : Nat) (k37 : Chunk), o41 = .out u36 ∧ Kn [(1, (.pointer (some ⟨b2, 0, none⟩))), (3, (.slice A39 u36.length p40))] 102 a ∧ Sat [] w0 w [(1, k0_0), (2, k0_1), (3, k0_2)] [(6, k37), (4, [(b2, .cells #[.slice A0_0 x0.Pos.length p0_0, .slice A0_1 x0.Stash.length p0_1, .slice A0_2 x0.Buckets.length p0_2] 31 (0, 0))])] ∧ Own (Lay.int .i64) 3 A39 p40 u36 k37 := ⟨_, rfl⟩
    refine wp_cutq R44 ?_ ?_
    ·refine wp_block ?_
     obtain ⟨fu46, h42⟩ := loopO_some h42
     obtain ⟨I45, hI45⟩ : ∃ I : Nat → Act → World → Prop, I = fun fu a w => ∃ (u31 : List Int) (u30 : Int) (A34 : Option Addr) (p35 : Nat) (k32 : Chunk), loopN (fun s => spec_OramOK.s0 x0 s.1 s.2) fu (u31, u30) = some o41 ∧ Kn [(1, (.pointer (some ⟨b2, 0, none⟩))), (3, (.slice A34 u31.length p35)), (4, (.int .i64 u30))] 102 a ∧ Sat [] w0 w [(1, k0_0), (2, k0_1), (3, k0_2)] [(6, k32), (4, [(b2, .cells #[.slice A0_0 x0.Pos.length p0_0, .slice A0_1 x0.Stash.length p0_1, .slice A0_2 x0.Buckets.length p0_2] 31 (0, 0))])] ∧ Own (Lay.int .i64) 3 A34 p35 u31 k32 := ⟨_, rfl⟩
     refine wp_loop_ghost I45 fu46 ?_ ?_
     ·rw [hI45]
      exact ⟨([] : List Int), 0, (some ⟨b19, 0, none⟩), 0, _, h42, (hk.c 1 rfl (hk.c 3 rfl (hk.c 4 rfl hk.k))), (hs.pick [(6, 6), (4, 4)] rfl), o21⟩
     ·clear h42 hk hs
      intro fu46 a w hI0
      rw [hI45] at hI0
      obtain ⟨u31, u30, A34, p35, k32, hi, hk, hs, o33⟩ := hI0
      obtain ⟨x47, H, h48⟩ := loop_round hi
      try dsimp only at H
      unfold spec_OramOK.s0 at H
      apply wp_seq_k; intro K49 hK49
      apply wp_seq_k; intro K50 hK50
      apply wp_region_lit
      refine sm _ rfl hk rfl rfl rfl fun a hk => ?_
      refine sf ⟨b2, 1, none⟩ rfl hk rfl rfl rfl fd31_1 rfl fun a hk => ?_
      refine sl rfl hk rfl rfl rfl ag28 (box_cell hs (k := 4) rfl rfl) fun a hk => ?_
      refine sle rfl hk rfl rfl rfl un28 fun a hk => ?_
      refine sv (.bool (decide (u30 < (x0.Stash.length : Int)))) hk rfl rfl rfl fun a hk => ?_
      show wpList _ _ _ [] _ _
      refine wpList_nil ?_
      refine hK50 _ _ ?_
      rcases cond_some H with ⟨c51, H⟩ | ⟨c51, H⟩
      ·have hk := hk.lit 35 c51 rfl
       refine cnd_true hk rfl rfl ?_
       refine wp_skip ?_
       refine hK49 _ _ ?_
       apply wp_seq_k; intro K52 hK52
       refine wp_block ?_
       apply wp_seq_k; intro K53 hK53
       apply wp_seq_k; intro K54 hK54
       refine wp_region_tree (.q 0 (.q 1 (.q 2 (.q 3 (.q 4 (.q 5 (.alt 6 (.alt 7 (.alt 8 .done .stop) .stop) .stop))))))) mo (by kernel_rfl) (hs.pick [(6, 6), (4, 4)] rfl) fun _ => ?_
       have hs := hs.drew
       refine tqst (.agg #[.slice A0_0 x0.Pos.length p0_0, .slice A0_1 x0.Stash.length p0_1, .slice A0_2 x0.Buckets.length p0_2]) hk rfl rfl rfl rfl (fun w hs => sln [.slice A0_0 x0.Pos.length p0_0, .slice A0_1 x0.Stash.length p0_1, .slice A0_2 x0.Buckets.length p0_2] rfl hk rfl rfl rfl ag31 sz31 (box_cells hs (k := 4) rfl) fun a hk => qe hk) fun a hk => ?_
       refine tqst (.pointer (some ⟨b2, 1, none⟩)) hk rfl rfl rfl rfl (fun w hs => sf ⟨b2, 1, none⟩ rfl hk rfl rfl rfl fd31_1 rfl fun a hk => qe hk) fun a hk => ?_
       refine tqst (.slice A0_1 x0.Stash.length p0_1) hk rfl rfl rfl rfl (fun w hs => sl rfl hk rfl rfl rfl ag28 (box_cell hs (k := 4) rfl rfl) fun a hk => qe hk) fun a hk => ?_
       refine tqst (.int .i64 u30) hk rfl rfl rfl rfl (fun w hs => sm _ rfl hk rfl rfl rfl fun a hk => qe hk) fun a hk => ?_
       rcases ite_some H with ⟨c56, H⟩ | ⟨_, H⟩
       rotate_left
       ·cases H
       obtain ⟨b57, q58, hAc56⟩ := (v0_1).some_ u30 c56.1 c56.2
       refine tqst (.pointer (some (padd A0_1 (u30.toNat * 3)))) hk rfl rfl rfl rfl (fun w hs => si rfl hk rfl rfl rfl rfl un28 sz102 c56.1 c56.2 hAc56 fun a hk => qe hk) fun a hk => ?_
       obtain ⟨_, rfl, e59⟩ := (v0_1).at_ z_Block u30 c56.1 c56.2
       refine tqst (.agg #[.int .i64 ((x0.Stash.getD u30.toNat z_Block).Id), .int .i64 ((x0.Stash.getD u30.toNat z_Block).Leaf), .int .i64 ((x0.Stash.getD u30.toNat z_Block).Value)]) hk rfl rfl rfl rfl (fun w hs => sln [.int .i64 ((x0.Stash.getD u30.toNat z_Block).Id), .int .i64 ((x0.Stash.getD u30.toNat z_Block).Leaf), .int .i64 ((x0.Stash.getD u30.toNat z_Block).Value)] rfl hk rfl rfl rfl ag102 sz102 (cells_at e59 (hs.hasD (k := 2) rfl)) fun a hk => qe hk) fun a hk => ?_
       refine tsst hk rfl rfl (fun K_r55_6 hK_r55_6 w hF => ?_) wt_stop
       have hs := hs.f hF
       refine sm _ rfl hk rfl rfl rfl fun a hk => ?_
       refine se (hs.pick [(6, 6), (4, 4)] rfl) hk (hK_r55_6 _ _ ?_)
       refine tsst hk rfl rfl (fun K_r55_7 hK_r55_7 w hF => ?_) wt_stop
       have hs := hs.f hF
       obtain ⟨y60, h61, H⟩ := bind_some H
       refine sc rfl en124 hk rfl rfl rfl (spec_l08Block_t _ x0 A0_0 p0_0 _ v0_0 (hs.hasD (k := 1) rfl) A0_1 p0_1 _ v0_1 (hs.hasD (k := 2) rfl) A0_2 p0_2 _ v0_2 (hs.hasD (k := 3) rfl) (x0.Stash.getD u30.toNat z_Block) A34 p35 u31 _ o33.view (hs.hasG (k := 6) rfl) _ h61) ?_
       rintro _ w ⟨rfl, hG⟩ a hk
       have hs := hs.call0 hG
       refine se (hs.pick [(6, 6), (4, 4)] rfl) hk (hK_r55_7 _ _ ?_)
       refine tsst hk rfl rfl (fun K_r55_8 hK_r55_8 w hF => ?_) wt_stop
       have hs := hs.f hF
       refine sv (.bool (!y60)) hk rfl rfl rfl fun a hk => ?_
       refine se (hs.pick [(6, 6), (4, 4)] rfl) hk (hK_r55_8 _ _ ?_)
       refine wtl_nil fun w hF _ => ?_
       have hs := hs.f hF
       refine hK54 _ _ ?_
       have hs := hs.pick [(6, 6), (4, 4)] rfl
       rcases cond_some H with ⟨c62, H⟩ | ⟨c62, H⟩
       ·have hk := hk.lit 46 c62 rfl
        refine cnd_true hk rfl rfl ?_
        apply wp_seq_k; intro K63 hK63
        apply wp_region_lit
        refine sa _ rfl hk rfl rfl rfl fun a hk => ?_
        show wpList _ _ _ [] _ _
        refine wpList_nil ?_
        refine hK63 _ _ ?_
        refine wp_ret ?_
        obtain rfl := Option.some.inj H
        have ho41 := h48
        try dsimp only at ho41
        subst ho41
        have H := HL43
        try dsimp only at H
        obtain rfl := Option.some.inj H
        exact fin hk _ [(.bool false)] rfl ⟨rfl, trivial⟩ ⟨rfl, (hs.pick [] rfl).dnil⟩
       ·have hk := hk.lit 46 c62 rfl
        refine cnd_false hk rfl rfl ?_
        refine wp_skip ?_
        refine hK53 _ _ ?_
        apply wp_region_lit
        refine sm _ rfl hk rfl rfl rfl fun a hk => ?_
        refine sf ⟨b2, 1, none⟩ rfl hk rfl rfl rfl fd31_1 rfl fun a hk => ?_
        refine sl rfl hk rfl rfl rfl ag28 (box_cell hs (k := 4) rfl rfl) fun a hk => ?_
        refine sm _ rfl hk rfl rfl rfl fun a hk => ?_
        rcases ite_some H with ⟨c64, H⟩ | ⟨_, H⟩
        rotate_left
        ·cases H
        obtain ⟨b65, q66, hAc64⟩ := (v0_1).some_ u30 c64.1 c64.2
        refine si rfl hk rfl rfl rfl rfl un28 sz102 c64.1 c64.2 hAc64 fun a hk => ?_
        refine sf (padd A0_1 (u30.toNat * 3 + 0)) rfl hk rfl rfl rfl fd102_0 (padd_add _ _ _) fun a hk => ?_
        obtain ⟨_, rfl, e67⟩ := (v0_1).at_ z_Block u30 c64.1 c64.2
        refine sl (v := (.int .i64 ((x0.Stash.getD u30.toNat z_Block).Id))) rfl hk rfl rfl rfl ag3 ((e67 0 _ rfl).cell (hs.hasD (k := 2) rfl)) fun a hk => ?_
        refine sbs (L := (Lay.int .i64)) (pv := [(0, (.int .i64 ((x0.Stash.getD u30.toNat z_Block).Id)))]) (xs := [(x0.Stash.getD u30.toNat z_Block).Id]) (ess := [[.int .i64 ((x0.Stash.getD u30.toNat z_Block).Id)]]) 9 hs rfl hk rfl rfl rfl un22 (bs3_0 ((x0.Stash.getD u30.toNat z_Block).Id)) (AllOwn.cons0 ⟨rfl, rfl⟩ AllOwn.nil) rfl rfl rfl fun b68 k69 w a hk o70 hs => ?_
        rcases ite_some H with ⟨c71, H⟩ | ⟨_, H⟩
        rotate_left
        ·cases H
        refine sap 6 (xs := u31) (ys := [(x0.Stash.getD u30.toNat z_Block).Id]) (flat_flat : ((Lay.int .i64)).Flat) hs rfl o33 o70.view (hs.hasG (k := 9) rfl) rfl hk rfl rfl rfl rfl rfl rfl un22 mk3 rfl rfl rfl c71 fun A72 p73 k74 w a hk o75 hs => ?_
        refine sa _ rfl hk rfl rfl rfl fun a hk => ?_
        show wpList _ _ _ [] _ _
        refine wpList_nil ?_
        refine hK52 _ _ ?_
        apply wp_region_lit
        refine sm _ rfl hk rfl rfl rfl fun a hk => ?_
        refine sv (.int .i64 (w64 (u30 + 1))) hk rfl rfl rfl fun a hk => ?_
        refine sa _ rfl hk rfl rfl rfl fun a hk => ?_
        show wpList _ _ _ [] _ _
        refine wpList_nil ?_
        obtain rfl := Option.some.inj H
        obtain ⟨m76, hmm76, h48⟩ := h48
        show ∃ n', n' < _ ∧ I45 n' _ _
        refine ⟨m76, hmm76, ?_⟩
        rw [hI45]
        exact ⟨(u31 ++ ([(x0.Stash.getD u30.toNat z_Block).Id])), (w64 (u30 + 1)), A72, p73, _, h48, (hk.c 1 rfl (hk.c 3 rfl (hk.c 4 rfl hk.k))), (hs.pick [(6, 6), (4, 4)] rfl), o75⟩
      ·have hk := hk.lit 35 c51 rfl
       refine cnd_false hk rfl rfl ?_
       refine wp_exit ?_
       obtain rfl := Option.some.inj H
       show R44 _ _
       rw [hR44]
       exact ⟨u31, A34, p35, _, h48.symm, (hk.c 1 rfl (hk.c 3 rfl hk.k)), (hs.pick [(6, 6), (4, 4)] rfl), o33⟩
    ·intro a w hR0
     rw [hR44] at hR0
     obtain ⟨u36, A39, p40, k37, rfl, hk, hs, o38⟩ := hR0
     have H := HL43
     try dsimp only at H
     refine hK22 _ _ ?_
     apply wp_seq_k; intro K77 hK77
     apply wp_seq_k; intro K78 hK78
     apply wp_region_lit
     refine sa _ rfl hk rfl rfl rfl fun a hk => ?_
     show wpList _ _ _ [] _ _
     refine wpList_nil ?_
     refine hK78 _ _ ?_
     obtain ⟨o91, h92, HL93⟩ := bind_some H
     clear H
     obtain ⟨R94, hR94⟩ : ∃ R : Act → World → Prop, R = fun a w => o91 = .out () ∧ Kn [] 102 a ∧ Sat [] w0 w [(1, k0_0), (2, k0_1), (3, k0_2)] [] := ⟨_, rfl⟩
     refine wp_cutq R94 ?_ ?_
     ·refine wp_block ?_
      obtain ⟨fu96, h92⟩ := loopO_some h92
      obtain ⟨I95, hI95⟩ : ∃ I : Nat → Act → World → Prop, I = fun fu a w => ∃ (u86 : List Int) (u85 : Int) (A89 : Option Addr) (p90 : Nat) (k87 : Chunk), loopN (fun s => spec_OramOK.s1 x0 s.1 s.2) fu (u86, u85) = some o91 ∧ Kn [(1, (.pointer (some ⟨b2, 0, none⟩))), (3, (.slice A89 u86.length p90)), (5, (.int .i64 u85))] 102 a ∧ Sat [] w0 w [(1, k0_0), (2, k0_1), (3, k0_2)] [(6, k87), (4, [(b2, .cells #[.slice A0_0 x0.Pos.length p0_0, .slice A0_1 x0.Stash.length p0_1, .slice A0_2 x0.Buckets.length p0_2] 31 (0, 0))])] ∧ Own (Lay.int .i64) 3 A89 p90 u86 k87 := ⟨_, rfl⟩
      refine wp_loop_ghost I95 fu96 ?_ ?_
      ·rw [hI95]
       exact ⟨u36, 0, A39, p40, _, h92, (hk.c 1 rfl (hk.c 3 rfl (hk.c 5 rfl hk.k))), (hs.pick [(6, 6), (4, 4)] rfl), o38⟩
      ·clear h92 hk hs
       intro fu96 a w hI0
       rw [hI95] at hI0
       obtain ⟨u86, u85, A89, p90, k87, hi, hk, hs, o88⟩ := hI0
       obtain ⟨x97, H, h98⟩ := loop_round hi
       try dsimp only at H
       unfold spec_OramOK.s1 at H
       apply wp_seq_k; intro K99 hK99
       apply wp_seq_k; intro K100 hK100
       apply wp_region_lit
       refine sm _ rfl hk rfl rfl rfl fun a hk => ?_
       refine sv (.bool (decide (u85 < 15))) hk rfl rfl rfl fun a hk => ?_
       show wpList _ _ _ [] _ _
       refine wpList_nil ?_
       refine hK100 _ _ ?_
       have hs := hs.pick [(6, 6), (4, 4)] rfl
       rcases cond_some H with ⟨c101, H⟩ | ⟨c101, H⟩
       ·have hk := hk.lit 57 c101 rfl
        refine cnd_true hk rfl rfl ?_
        refine wp_skip ?_
        refine hK99 _ _ ?_
        apply wp_seq_k; intro K102 hK102
        refine wp_block ?_
        apply wp_seq_k; intro K103 hK103
        apply wp_seq_k; intro K104 hK104
        apply wp_region_lit
        refine sf ⟨b2, 2, none⟩ rfl hk rfl rfl rfl fd31_2 rfl fun a hk => ?_
        refine sl rfl hk rfl rfl rfl ag29 (box_cell hs (k := 4) rfl rfl) fun a hk => ?_
        refine sm _ rfl hk rfl rfl rfl fun a hk => ?_
        rcases ite_some H with ⟨c105, H⟩ | ⟨_, H⟩
        rotate_left
        ·cases H
        obtain ⟨b106, q107, hAc105⟩ := (v0_2).some_ u85 c105.1 c105.2
        refine si rfl hk rfl rfl rfl rfl un29 sz28 c105.1 c105.2 hAc105 fun a hk => ?_
        obtain ⟨_, ⟨_, rfl, A109, p110, rfl, v111⟩, e108⟩ := (v0_2).at_ [] u85 c105.1 c105.2
        refine sl (v := (.slice A109 (x0.Buckets.getD u85.toNat []).length p110)) rfl hk rfl rfl rfl ag28 ((e108 0 _ rfl).cell (hs.hasD (k := 3) rfl)) fun a hk => ?_
        refine sle rfl hk rfl rfl rfl un28 fun a hk => ?_
        refine sv (.bool (decide (((x0.Buckets.getD u85.toNat []).length : Int) > 2))) hk rfl rfl rfl fun a hk => ?_
        show wpList _ _ _ [] _ _
        refine wpList_nil ?_
        refine hK104 _ _ ?_
        rcases cond_some H with ⟨c112, H⟩ | ⟨c112, H⟩
        ·have hk := hk.lit 66 c112 rfl
         refine cnd_true hk rfl rfl ?_
         apply wp_seq_k; intro K113 hK113
         apply wp_region_lit
         refine sa _ rfl hk rfl rfl rfl fun a hk => ?_
         show wpList _ _ _ [] _ _
         refine wpList_nil ?_
         refine hK113 _ _ ?_
         refine wp_ret ?_
         obtain rfl := Option.some.inj H
         have ho91 := h98
         try dsimp only at ho91
         subst ho91
         have H := HL93
         try dsimp only at H
         obtain rfl := Option.some.inj H
         exact fin hk _ [(.bool false)] rfl ⟨rfl, trivial⟩ ⟨rfl, (hs.pick [] rfl).dnil⟩
        ·have hk := hk.lit 66 c112 rfl
         refine cnd_false hk rfl rfl ?_
         refine wp_skip ?_
         refine hK103 _ _ ?_
         apply wp_seq_k; intro K114 hK114
         apply wp_region_lit
         refine sa _ rfl hk rfl rfl rfl fun a hk => ?_
         show wpList _ _ _ [] _ _
         refine wpList_nil ?_
         refine hK114 _ _ ?_
         have hs := hs.pick [(6, 6), (4, 4)] rfl
         obtain ⟨o132, h133, HL134⟩ := bind_some H
         clear H
         obtain ⟨R135, hR135⟩ : ∃ R : Act → World → Prop, R = fun a w => ∃ (u127 : List Int) (A130 : Option Addr) (p131 : Nat) (k128 : Chunk), o132 = .out u127 ∧ Kn [(1, (.pointer (some ⟨b2, 0, none⟩))), (3, (.slice A130 u127.length p131)), (5, (.int .i64 u85))] 102 a ∧ Sat [] w0 w [(1, k0_0), (2, k0_1), (3, k0_2)] [(6, k128), (4, [(b2, .cells #[.slice A0_0 x0.Pos.length p0_0, .slice A0_1 x0.Stash.length p0_1, .slice A0_2 x0.Buckets.length p0_2] 31 (0, 0))])] ∧ Own (Lay.int .i64) 3 A130 p131 u127 k128 := ⟨_, rfl⟩
         refine wp_cutq R135 ?_ ?_
         ·refine wp_block ?_
          obtain ⟨fu137, h133⟩ := loopO_some h133
          obtain ⟨I136, hI136⟩ : ∃ I : Nat → Act → World → Prop, I = fun fu a w => ∃ (u122 : List Int) (u121 : Int) (A125 : Option Addr) (p126 : Nat) (k123 : Chunk), loopN (fun s => spec_OramOK.s2 x0 u85 s.1 s.2) fu (u122, u121) = some o132 ∧ Kn [(1, (.pointer (some ⟨b2, 0, none⟩))), (3, (.slice A125 u122.length p126)), (5, (.int .i64 u85)), (6, (.int .i64 u121))] 102 a ∧ Sat [] w0 w [(1, k0_0), (2, k0_1), (3, k0_2)] [(6, k123), (4, [(b2, .cells #[.slice A0_0 x0.Pos.length p0_0, .slice A0_1 x0.Stash.length p0_1, .slice A0_2 x0.Buckets.length p0_2] 31 (0, 0))])] ∧ Own (Lay.int .i64) 3 A125 p126 u122 k123 := ⟨_, rfl⟩
          refine wp_loop_ghost I136 fu137 ?_ ?_
          ·rw [hI136]
           exact ⟨u86, 0, A89, p90, _, h133, (hk.c 1 rfl (hk.c 3 rfl (hk.c 5 rfl (hk.c 6 rfl hk.k)))), (hs.pick [(6, 6), (4, 4)] rfl), o88⟩
          ·clear h133 hk hs
           intro fu137 a w hI0
           rw [hI136] at hI0
           obtain ⟨u122, u121, A125, p126, k123, hi, hk, hs, o124⟩ := hI0
           obtain ⟨x138, H, h139⟩ := loop_round hi
           try dsimp only at H
           unfold spec_OramOK.s2 at H
           apply wp_seq_k; intro K140 hK140
           apply wp_seq_k; intro K141 hK141
           apply wp_region_lit
           refine sm _ rfl hk rfl rfl rfl fun a hk => ?_
           refine sf ⟨b2, 2, none⟩ rfl hk rfl rfl rfl fd31_2 rfl fun a hk => ?_
           refine sl rfl hk rfl rfl rfl ag29 (box_cell hs (k := 4) rfl rfl) fun a hk => ?_
           refine sm _ rfl hk rfl rfl rfl fun a hk => ?_
           rcases ite_some H with ⟨c142, H⟩ | ⟨_, H⟩
           rotate_left
           ·cases H
           obtain ⟨b143, q144, hAc142⟩ := (v0_2).some_ u85 c142.1 c142.2
           refine si rfl hk rfl rfl rfl rfl un29 sz28 c142.1 c142.2 hAc142 fun a hk => ?_
           obtain ⟨_, ⟨_, rfl, A146, p147, rfl, v148⟩, e145⟩ := (v0_2).at_ [] u85 c142.1 c142.2
           refine sl (v := (.slice A146 (x0.Buckets.getD u85.toNat []).length p147)) rfl hk rfl rfl rfl ag28 ((e145 0 _ rfl).cell (hs.hasD (k := 3) rfl)) fun a hk => ?_
           refine sle rfl hk rfl rfl rfl un28 fun a hk => ?_
           refine sv (.bool (decide (u121 < ((x0.Buckets.getD u85.toNat []).length : Int)))) hk rfl rfl rfl fun a hk => ?_
           show wpList _ _ _ [] _ _
           refine wpList_nil ?_
           refine hK141 _ _ ?_
           rcases cond_some H with ⟨c149, H⟩ | ⟨c149, H⟩
           ·have hk := hk.lit 74 c149 rfl
            refine cnd_true hk rfl rfl ?_
            refine wp_skip ?_
            refine hK140 _ _ ?_
            apply wp_seq_k; intro K150 hK150
            refine wp_block ?_
            apply wp_seq_k; intro K151 hK151
            apply wp_region_lit
            refine sf ⟨b2, 2, none⟩ rfl hk rfl rfl rfl fd31_2 rfl fun a hk => ?_
            refine sl rfl hk rfl rfl rfl ag29 (box_cell hs (k := 4) rfl rfl) fun a hk => ?_
            refine sm _ rfl hk rfl rfl rfl fun a hk => ?_
            rcases ite_some H with ⟨c152, H⟩ | ⟨_, H⟩
            rotate_left
            ·cases H
            obtain ⟨b153, q154, hAc152⟩ := (v0_2).some_ u85 c152.1 c152.2
            refine si rfl hk rfl rfl rfl rfl un29 sz28 c152.1 c152.2 hAc152 fun a hk => ?_
            obtain ⟨_, ⟨_, rfl, A156, p157, rfl, v158⟩, e155⟩ := (v0_2).at_ [] u85 c152.1 c152.2
            refine sl (v := (.slice A156 (x0.Buckets.getD u85.toNat []).length p157)) rfl hk rfl rfl rfl ag28 ((e155 0 _ rfl).cell (hs.hasD (k := 3) rfl)) fun a hk => ?_
            refine sm _ rfl hk rfl rfl rfl fun a hk => ?_
            rcases ite_some H with ⟨c159, H⟩ | ⟨_, H⟩
            rotate_left
            ·cases H
            obtain ⟨b160, q161, hAc159⟩ := (v158).some_ u121 c159.1 c159.2
            refine si rfl hk rfl rfl rfl rfl un28 sz102 c159.1 c159.2 hAc159 fun a hk => ?_
            obtain ⟨_, rfl, e162⟩ := (v158).at_ z_Block u121 c159.1 c159.2
            refine sln [.int .i64 (((x0.Buckets.getD u85.toNat []).getD u121.toNat z_Block).Id), .int .i64 (((x0.Buckets.getD u85.toNat []).getD u121.toNat z_Block).Leaf), .int .i64 (((x0.Buckets.getD u85.toNat []).getD u121.toNat z_Block).Value)] rfl hk rfl rfl rfl ag102 sz102 (cells_at e162 (hs.hasD (k := 3) rfl)) fun a hk => ?_
            refine salx 12 hs rfl hk rfl rfl ze102 rfl fun b163 w a hk hs => ?_
            refine ssw 12 hs rfl rfl hk rfl rfl rfl rfl sz102 (by simp [Value.oneCell']) rfl fun w a hk hs => ?_
            show wpList _ _ _ [] _ _
            refine wpList_nil ?_
            refine hK151 _ _ ?_
            apply wp_seq_k; intro K164 hK164
            apply wp_seq_k; intro K165 hK165
            obtain ⟨o168, h169, HL170⟩ := bind_some H
            clear H
            obtain ⟨R171, hR171⟩ : ∃ R : Act → World → Prop, R = fun a w => ∃ (u167 : Bool), u167 = o168 ∧ Kn [(1, (.pointer (some ⟨b2, 0, none⟩))), (3, (.slice A125 u122.length p126)), (5, (.int .i64 u85)), (6, (.int .i64 u121)), (7, (.pointer (some ⟨b163, 0, none⟩))), (96, (.bool u167))] 102 a ∧ Sat [] w0 w [(1, k0_0), (2, k0_1), (3, k0_2)] [(6, k123), (4, [(b2, .cells #[.slice A0_0 x0.Pos.length p0_0, .slice A0_1 x0.Stash.length p0_1, .slice A0_2 x0.Buckets.length p0_2] 31 (0, 0))]), (12, [(b163, .cells #[.int .i64 (((x0.Buckets.getD u85.toNat []).getD u121.toNat z_Block).Id), .int .i64 (((x0.Buckets.getD u85.toNat []).getD u121.toNat z_Block).Leaf), .int .i64 (((x0.Buckets.getD u85.toNat []).getD u121.toNat z_Block).Value)] 102 (0, 0))])] := ⟨_, rfl⟩
            refine wp_cutq R171 ?_ ?_
            ·have H := h169
             apply wp_region_lit
             refine sln [.slice A0_0 x0.Pos.length p0_0, .slice A0_1 x0.Stash.length p0_1, .slice A0_2 x0.Buckets.length p0_2] rfl hk rfl rfl rfl ag31 sz31 (box_cells hs (k := 4) rfl) fun a hk => ?_
             refine sln [.int .i64 (((x0.Buckets.getD u85.toNat []).getD u121.toNat z_Block).Id), .int .i64 (((x0.Buckets.getD u85.toNat []).getD u121.toNat z_Block).Leaf), .int .i64 (((x0.Buckets.getD u85.toNat []).getD u121.toNat z_Block).Value)] rfl hk rfl rfl rfl ag102 sz102 (box_cells hs (k := 12) rfl) fun a hk => ?_
             refine sm _ rfl hk rfl rfl rfl fun a hk => ?_
             obtain ⟨y172, h173, H⟩ := bind_some H
             refine sc rfl en124 hk rfl rfl rfl (spec_l08Block_t _ x0 A0_0 p0_0 _ v0_0 (hs.hasD (k := 1) rfl) A0_1 p0_1 _ v0_1 (hs.hasD (k := 2) rfl) A0_2 p0_2 _ v0_2 (hs.hasD (k := 3) rfl) ((x0.Buckets.getD u85.toNat []).getD u121.toNat z_Block) A125 p126 u122 _ o124.view (hs.hasG (k := 6) rfl) _ h173) ?_
             rintro _ w ⟨rfl, hG⟩ a hk
             have hs := hs.call0 hG
             refine sv (.bool (!y172)) hk rfl rfl rfl fun a hk => ?_
             refine sm _ rfl hk rfl rfl rfl fun a hk => ?_
             rcases cond_some H with ⟨c174, H⟩ | ⟨c174, H⟩
             ·have hk := hk.lit 90 c174 rfl
              refine sk hk rfl rfl rfl fun a hk => ?_
              refine sk hk rfl rfl rfl fun a hk => ?_
              refine sk hk rfl rfl rfl fun a hk => ?_
              refine sk hk rfl rfl rfl fun a hk => ?_
              refine sk hk rfl rfl rfl fun a hk => ?_
              refine sv (.bool true) hk rfl rfl rfl fun a hk => ?_
              show wpList _ _ _ [] _ _
              refine wpList_nil ?_
              obtain rfl := Option.some.inj H
              show R171 _ _
              rw [hR171]
              exact ⟨true, rfl, (hk.c 1 rfl (hk.c 3 rfl (hk.c 5 rfl (hk.c 6 rfl (hk.c 7 rfl (hk.c 96 rfl hk.k)))))), (hs.pick [(6, 6), (4, 4), (12, 12)] rfl)⟩
             ·have hk := hk.lit 90 c174 rfl
              refine sm _ rfl hk rfl rfl rfl fun a hk => ?_
              refine sf ⟨b163, 1, none⟩ rfl hk rfl rfl rfl fd102_1 rfl fun a hk => ?_
              refine sl rfl hk rfl rfl rfl ag3 (box_cell hs (k := 12) rfl rfl) fun a hk => ?_
              obtain ⟨y175, h176, H⟩ := bind_some H
              refine sc rfl en125 hk rfl rfl rfl (spec_l08On_t _ u85 (((x0.Buckets.getD u85.toNat []).getD u121.toNat z_Block).Leaf) _ h176) ?_
              rintro _ w ⟨rfl, hG⟩ a hk
              have hs := hs.call0 hG
              refine sv (.bool (!y175)) hk rfl rfl rfl fun a hk => ?_
              refine sv (.bool (!y175)) hk rfl rfl rfl fun a hk => ?_
              show wpList _ _ _ [] _ _
              refine wpList_nil ?_
              obtain rfl := Option.some.inj H
              show R171 _ _
              rw [hR171]
              exact ⟨(!y175), rfl, (hk.c 1 rfl (hk.c 3 rfl (hk.c 5 rfl (hk.c 6 rfl (hk.c 7 rfl (hk.c 96 rfl hk.k)))))), (hs.pick [(6, 6), (4, 4), (12, 12)] rfl)⟩
            ·intro a w hR0
             rw [hR171] at hR0
             obtain ⟨u167, rfl, hk, hs⟩ := hR0
             have H := HL170
             try dsimp only at H
             refine hK165 _ _ ?_
             have hs := hs.pick [(6, 6), (4, 4), (12, 12)] rfl
             rcases cond_some H with ⟨c177, H⟩ | ⟨c177, H⟩
             ·have hk := hk.lit 96 c177 rfl
              refine cnd_true hk rfl rfl ?_
              apply wp_seq_k; intro K178 hK178
              apply wp_region_lit
              refine sa _ rfl hk rfl rfl rfl fun a hk => ?_
              show wpList _ _ _ [] _ _
              refine wpList_nil ?_
              refine hK178 _ _ ?_
              refine wp_ret ?_
              obtain rfl := Option.some.inj H
              have ho132 := h139
              try dsimp only at ho132
              subst ho132
              have H := HL134
              try dsimp only at H
              obtain rfl := Option.some.inj H
              have ho91 := h98
              try dsimp only at ho91
              subst ho91
              have H := HL93
              try dsimp only at H
              obtain rfl := Option.some.inj H
              exact fin hk _ [(.bool false)] rfl ⟨rfl, trivial⟩ ⟨rfl, (hs.pick [] rfl).dnil⟩
             ·have hk := hk.lit 96 c177 rfl
              refine cnd_false hk rfl rfl ?_
              refine wp_skip ?_
              refine hK164 _ _ ?_
              apply wp_region_lit
              refine sm _ rfl hk rfl rfl rfl fun a hk => ?_
              refine sf ⟨b163, 0, none⟩ rfl hk rfl rfl rfl fd102_0 rfl fun a hk => ?_
              refine sl rfl hk rfl rfl rfl ag3 (box_cell hs (k := 12) rfl rfl) fun a hk => ?_
              refine sbs (L := (Lay.int .i64)) (pv := [(0, (.int .i64 (((x0.Buckets.getD u85.toNat []).getD u121.toNat z_Block).Id)))]) (xs := [((x0.Buckets.getD u85.toNat []).getD u121.toNat z_Block).Id]) (ess := [[.int .i64 (((x0.Buckets.getD u85.toNat []).getD u121.toNat z_Block).Id)]]) 14 hs rfl hk rfl rfl rfl un22 (bs3_0 (((x0.Buckets.getD u85.toNat []).getD u121.toNat z_Block).Id)) (AllOwn.cons0 ⟨rfl, rfl⟩ AllOwn.nil) rfl rfl rfl fun b179 k180 w a hk o181 hs => ?_
              rcases ite_some H with ⟨c182, H⟩ | ⟨_, H⟩
              rotate_left
              ·cases H
              refine sap 6 (xs := u122) (ys := [((x0.Buckets.getD u85.toNat []).getD u121.toNat z_Block).Id]) (flat_flat : ((Lay.int .i64)).Flat) hs rfl o124 o181.view (hs.hasG (k := 14) rfl) rfl hk rfl rfl rfl rfl rfl rfl un22 mk3 rfl rfl rfl c182 fun A183 p184 k185 w a hk o186 hs => ?_
              refine sa _ rfl hk rfl rfl rfl fun a hk => ?_
              show wpList _ _ _ [] _ _
              refine wpList_nil ?_
              refine hK150 _ _ ?_
              apply wp_region_lit
              refine sm _ rfl hk rfl rfl rfl fun a hk => ?_
              refine sv (.int .i64 (w64 (u121 + 1))) hk rfl rfl rfl fun a hk => ?_
              refine sa _ rfl hk rfl rfl rfl fun a hk => ?_
              show wpList _ _ _ [] _ _
              refine wpList_nil ?_
              obtain rfl := Option.some.inj H
              obtain ⟨m187, hmm187, h139⟩ := h139
              show ∃ n', n' < _ ∧ I136 n' _ _
              refine ⟨m187, hmm187, ?_⟩
              rw [hI136]
              exact ⟨(u122 ++ ([((x0.Buckets.getD u85.toNat []).getD u121.toNat z_Block).Id])), (w64 (u121 + 1)), A183, p184, _, h139, (hk.c 1 rfl (hk.c 3 rfl (hk.c 5 rfl (hk.c 6 rfl hk.k)))), (hs.pick [(6, 6), (4, 4)] rfl), o186⟩
           ·have hk := hk.lit 74 c149 rfl
            refine cnd_false hk rfl rfl ?_
            refine wp_exit ?_
            obtain rfl := Option.some.inj H
            show R135 _ _
            rw [hR135]
            exact ⟨u122, A125, p126, _, h139.symm, (hk.c 1 rfl (hk.c 3 rfl (hk.c 5 rfl hk.k))), (hs.pick [(6, 6), (4, 4)] rfl), o124⟩
         ·intro a w hR0
          rw [hR135] at hR0
          obtain ⟨u127, A130, p131, k128, rfl, hk, hs, o129⟩ := hR0
          have H := HL134
          try dsimp only at H
          refine hK102 _ _ ?_
          apply wp_region_lit
          refine sm _ rfl hk rfl rfl rfl fun a hk => ?_
          refine sv (.int .i64 (w64 (u85 + 1))) hk rfl rfl rfl fun a hk => ?_
          refine sa _ rfl hk rfl rfl rfl fun a hk => ?_
          show wpList _ _ _ [] _ _
          refine wpList_nil ?_
          obtain rfl := Option.some.inj H
          obtain ⟨m188, hmm188, h98⟩ := h98
          show ∃ n', n' < _ ∧ I95 n' _ _
          refine ⟨m188, hmm188, ?_⟩
          rw [hI95]
          exact ⟨u127, (w64 (u85 + 1)), A130, p131, _, h98, (hk.c 1 rfl (hk.c 3 rfl (hk.c 5 rfl hk.k))), (hs.pick [(6, 6), (4, 4)] rfl), o129⟩
       ·have hk := hk.lit 57 c101 rfl
        refine cnd_false hk rfl rfl ?_
        refine wp_exit ?_
        obtain rfl := Option.some.inj H
        show R94 _ _
        rw [hR94]
        exact ⟨h98.symm, hk.k, (hs.pick [] rfl)⟩
     ·intro a w hR0
      rw [hR94] at hR0
      obtain ⟨rfl, hk, hs⟩ := hR0
      have H := HL93
      try dsimp only at H
      refine hK77 _ _ ?_
      have hs := hs.pick [] rfl
      apply wp_seq_k; intro K189 hK189
      apply wp_region_lit
      refine sa _ rfl hk rfl rfl rfl fun a hk => ?_
      show wpList _ _ _ [] _ _
      refine wpList_nil ?_
      refine hK189 _ _ ?_
      refine wp_ret ?_
      obtain rfl := Option.some.inj H
      exact fin hk _ [(.bool true)] rfl ⟨rfl, trivial⟩ ⟨rfl, (hs.pick [] rfl).dnil⟩

end Go.Proofs.Ytjlhmcieholdiaa
