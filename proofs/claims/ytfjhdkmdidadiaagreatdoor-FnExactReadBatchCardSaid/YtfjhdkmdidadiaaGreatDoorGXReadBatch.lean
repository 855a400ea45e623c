/- The functions that FnExactReadBatch reaches: for each a model and the walk that shows that the Go code comes to it. -/
import Derived.Test.YtfjhdkmdidadiaaGreatDoorT
namespace Go.Proofs.YtfjhdkmdidadiaaGreatDoor
open Go Go.Z Go.Proofs Go.MuLone Go.ChangeShapes Go.WideShapes Go.ChangeAt Go.RowKit
set_option linter.unusedVariables false
set_option linter.unusedSimpArgs false
noncomputable def spec_l01In.f (x0 : Int) (x1 : Int) (x2 : Int) : Option (Bool) :=
  (((bif (decide (x1 ≤ x0)) then (some (decide (x0 ≤ x2))) else (some false)) : Option (Bool)).bind fun u4 => (some u4))
set_option maxRecDepth 100000 in
set_option maxHeartbeats 0 in
theorem spec_l01In_t (w0 : World) (x0 : Int) (x1 : Int) (x2 : Int) (r : Bool) (H : spec_l01In.f x0 x1 x2 = some r) :
    Calls Tryz.prog 47 #[.int .i64 x0, .int .i64 x1, .int .i64 x2] w0 (Ret (fun v w => v = .bool r ∧ Sat [] w0 w [] [])) := by
  have hs : Sat [] w0 w0 [] [] := Sat.init w0 [] [] (by simp) (by simp) List.nodup_nil (by simp [blks])
  unfold spec_l01In.f at H
  refine enter Tryz.func47 rfl Tryz.ntmps47 rfl fun a hk => ?_
  apply wp_seq_k; intro K1 hK1
  apply wp_region_lit
  refine sa _ rfl hk rfl rfl rfl fun a hk => ?_
  show wpList _ _ _ [] _ _
  refine wpList_nil ?_
  refine hK1 _ _ ?_
  apply wp_seq_k; intro K2 hK2
  obtain ⟨o5, h6, HL7⟩ := bind_some H
  clear H
  obtain ⟨R8, hR8⟩ : ∃ R : Act → World → Prop, R = fun a w => ∃ (u4 : Bool), u4 = o5 ∧ Kn [(6, (.bool u4))] 15 a ∧ Sat [] w0 w [] [] := ⟨_, rfl⟩
  refine wp_cutq R8 ?_ ?_
  ·have H := h6
   apply wp_region_lit
   refine sm _ rfl hk rfl rfl rfl fun a hk => ?_
   refine sm _ rfl hk rfl rfl rfl fun a hk => ?_
   refine sv (.bool (decide (x1 ≤ x0))) hk rfl rfl rfl fun a hk => ?_
   refine sm _ rfl hk rfl rfl rfl fun a hk => ?_
   rcases cond_some H with ⟨c9, H⟩ | ⟨c9, H⟩
   ·have hk := hk.lit 10 c9 rfl
    refine sm _ rfl hk rfl rfl rfl fun a hk => ?_
    refine sm _ rfl hk rfl rfl rfl fun a hk => ?_
    refine sv (.bool (decide (x0 ≤ x2))) hk rfl rfl rfl fun a hk => ?_
    refine sv (.bool (decide (x0 ≤ x2))) hk rfl rfl rfl fun a hk => ?_
    refine sa _ rfl hk rfl rfl rfl fun a hk => ?_
    show wpList _ _ _ [] _ _
    refine wpList_nil ?_
    obtain rfl := Option.some.inj H
    show R8 _ _
    rw [hR8]
    exact ⟨(decide (x0 ≤ x2)), rfl, (hk.c 6 rfl hk.k), (hs.pick [] rfl)⟩
   ·have hk := hk.lit 10 c9 rfl
    refine sk hk rfl rfl rfl fun a hk => ?_
    refine sk hk rfl rfl rfl fun a hk => ?_
    refine sk hk rfl rfl rfl fun a hk => ?_
    refine sv (.bool false) hk rfl rfl rfl fun a hk => ?_
    refine sa _ rfl hk rfl rfl rfl fun a hk => ?_
    show wpList _ _ _ [] _ _
    refine wpList_nil ?_
    obtain rfl := Option.some.inj H
    show R8 _ _
    rw [hR8]
    exact ⟨false, rfl, (hk.c 6 rfl hk.k), (hs.pick [] rfl)⟩
  ·intro a w hR0
   rw [hR8] at hR0
   obtain ⟨u4, rfl, hk, hs⟩ := hR0
   have H := HL7
   try dsimp only at H
   refine hK2 _ _ ?_
   refine wp_ret ?_
   obtain rfl := Option.some.inj H
   exact fin hk _ [(.bool u4)] rfl ⟨rfl, trivial⟩ ⟨rfl, (hs.pick [] rfl).dnil⟩

noncomputable def spec_OpOK.f (x0 : S_Op) : Option (Bool) :=
  ((((spec_l01In.f x0.Kind 1 6).bind fun y11 => (bif (!y11) then (some true) else ((spec_l01In.f x0.Key 1 9999).bind fun y14 => (some (!y14))))) : Option (Bool)).bind fun u6 => (bif u6 then (some false) else (((bif (x0.Kind == 1) then (some true) else (some (x0.Kind == 3))) : Option (Bool)).bind fun u23 => (bif u23 then (some (x0.Value == 0)) else (bif (x0.Kind == 6) then ((spec_l01In.f x0.Value 1 4).bind fun y34 => (some y34)) else ((spec_l01In.f x0.Value 0 999999).bind fun y37 => (some y37)))))))
set_option maxRecDepth 100000 in
set_option maxHeartbeats 0 in
theorem spec_OpOK_t (w0 : World) (x0 : S_Op) (r : Bool) (H : spec_OpOK.f x0 = some r) :
    Calls Tryz.prog 66 #[.agg #[.int .i64 x0.Kind, .int .i64 x0.Key, .int .i64 x0.Value]] w0 (Ret (fun v w => v = .bool r ∧ Sat [] w0 w [] [])) := by
  have hs : Sat [] w0 w0 [] [] := Sat.init w0 [] [] (by simp) (by simp) List.nodup_nil (by simp [blks])
  unfold spec_OpOK.f at H
  refine enter Tryz.func66 rfl Tryz.ntmps66 rfl fun a hk => ?_
  apply wp_seq_k; intro K1 hK1
  apply wp_region_lit
  refine sbx 1 hs rfl hk rfl rfl rfl rfl fun b2 w a hk hs => ?_
  refine sa _ rfl hk rfl rfl rfl fun a hk => ?_
  show wpList _ _ _ [] _ _
  refine wpList_nil ?_
  refine hK1 _ _ ?_
  apply wp_seq_k; intro K3 hK3
  apply wp_seq_k; intro K4 hK4
  obtain ⟨o7, h8, HL9⟩ := bind_some H
  clear H
  obtain ⟨R10, hR10⟩ : ∃ R : Act → World → Prop, R = fun a w => ∃ (u6 : Bool), u6 = o7 ∧ Kn [(1, (.pointer (some ⟨b2, 0, none⟩))), (12, (.bool u6))] 29 a ∧ Sat [] w0 w [] [(1, [(b2, .cells #[.int .i64 x0.Kind, .int .i64 x0.Key, .int .i64 x0.Value] 33 (0, 0))])] := ⟨_, rfl⟩
  refine wp_cutq R10 ?_ ?_
  ·have H := h8
   apply wp_region_lit
   refine sf ⟨b2, 0, none⟩ rfl hk rfl rfl rfl fd33_0 rfl fun a hk => ?_
   refine sl rfl hk rfl rfl rfl ag3 (box_cell hs (k := 1) rfl rfl) fun a hk => ?_
   obtain ⟨y11, h12, H⟩ := bind_some H
   refine sc rfl en47 hk rfl rfl rfl (spec_l01In_t _ x0.Kind 1 6 _ h12) ?_
   rintro _ w ⟨rfl, hG⟩ a hk
   have hs := hs.call0 hG
   refine sv (.bool (!y11)) hk rfl rfl rfl fun a hk => ?_
   refine sm _ rfl hk rfl rfl rfl fun a hk => ?_
   rcases cond_some H with ⟨c13, H⟩ | ⟨c13, H⟩
   ·have hk := hk.lit 7 c13 rfl
    refine sk hk rfl rfl rfl fun a hk => ?_
    refine sk hk rfl rfl rfl fun a hk => ?_
    refine sk hk rfl rfl rfl fun a hk => ?_
    refine sk hk rfl rfl rfl fun a hk => ?_
    refine sv (.bool true) hk rfl rfl rfl fun a hk => ?_
    show wpList _ _ _ [] _ _
    refine wpList_nil ?_
    obtain rfl := Option.some.inj H
    show R10 _ _
    rw [hR10]
    exact ⟨true, rfl, (hk.c 1 rfl (hk.c 12 rfl hk.k)), (hs.pick [(1, 1)] rfl)⟩
   ·have hk := hk.lit 7 c13 rfl
    refine sf ⟨b2, 1, none⟩ rfl hk rfl rfl rfl fd33_1 rfl fun a hk => ?_
    refine sl rfl hk rfl rfl rfl ag3 (box_cell hs (k := 1) rfl rfl) fun a hk => ?_
    obtain ⟨y14, h15, H⟩ := bind_some H
    refine sc rfl en47 hk rfl rfl rfl (spec_l01In_t _ x0.Key 1 9999 _ h15) ?_
    rintro _ w ⟨rfl, hG⟩ a hk
    have hs := hs.call0 hG
    refine sv (.bool (!y14)) hk rfl rfl rfl fun a hk => ?_
    refine sv (.bool (!y14)) hk rfl rfl rfl fun a hk => ?_
    show wpList _ _ _ [] _ _
    refine wpList_nil ?_
    obtain rfl := Option.some.inj H
    show R10 _ _
    rw [hR10]
    exact ⟨(!y14), rfl, (hk.c 1 rfl (hk.c 12 rfl hk.k)), (hs.pick [(1, 1)] rfl)⟩
  ·intro a w hR0
   rw [hR10] at hR0
   obtain ⟨u6, rfl, hk, hs⟩ := hR0
   have H := HL9
   try dsimp only at H
   refine hK4 _ _ ?_
   rcases cond_some H with ⟨c16, H⟩ | ⟨c16, H⟩
   ·have hk := hk.lit 12 c16 rfl
    refine cnd_true hk rfl rfl ?_
    apply wp_seq_k; intro K17 hK17
    apply wp_region_lit
    refine sa _ rfl hk rfl rfl rfl fun a hk => ?_
    show wpList _ _ _ [] _ _
    refine wpList_nil ?_
    refine hK17 _ _ ?_
    refine wp_ret ?_
    obtain rfl := Option.some.inj H
    exact fin hk _ [(.bool false)] rfl ⟨rfl, trivial⟩ ⟨rfl, (hs.pick [] rfl).dnil⟩
   ·have hk := hk.lit 12 c16 rfl
    refine cnd_false hk rfl rfl ?_
    refine wp_skip ?_
    refine hK3 _ _ ?_
    apply wp_seq_k; intro K18 hK18
    apply wp_seq_k; intro K19 hK19
    apply wp_region_lit
    refine sf ⟨b2, 0, none⟩ rfl hk rfl rfl rfl fd33_0 rfl fun a hk => ?_
    refine sl rfl hk rfl rfl rfl ag3 (box_cell hs (k := 1) rfl rfl) fun a hk => ?_
    show wpList _ _ _ [] _ _
    refine wpList_nil ?_
    refine hK19 _ _ ?_
    have hs := hs.pick [(1, 1)] rfl
    refine wp_block ?_
    apply wp_seq_k; intro K20 hK20
    apply wp_seq_k; intro K21 hK21
    apply wp_region_lit
    refine sv (.bool (x0.Kind == 1)) hk rfl rfl rfl fun a hk => ?_
    refine sa _ rfl hk rfl rfl rfl fun a hk => ?_
    show wpList _ _ _ [] _ _
    refine wpList_nil ?_
    refine hK21 _ _ ?_
    obtain ⟨o24, h25, HL26⟩ := bind_some H
    clear H
    obtain ⟨R27, hR27⟩ : ∃ R : Act → World → Prop, R = fun a w => ∃ (u23 : Bool), u23 = o24 ∧ Kn [(1, (.pointer (some ⟨b2, 0, none⟩))), (14, (.int .i64 x0.Kind)), (15, (.bool u23))] 29 a ∧ Sat [] w0 w [] [(1, [(b2, .cells #[.int .i64 x0.Kind, .int .i64 x0.Key, .int .i64 x0.Value] 33 (0, 0))])] := ⟨_, rfl⟩
    refine wp_cutq R27 ?_ ?_
    ·have H := h25
     rcases cond_some H with ⟨c28, H⟩ | ⟨c28, H⟩
     ·have hk := hk.lit 15 c28 rfl
      refine cnd_true hk rfl rfl ?_
      refine wp_skip ?_
      obtain rfl := Option.some.inj H
      show R27 _ _
      rw [hR27]
      exact ⟨true, rfl, (hk.c 1 rfl (hk.c 14 rfl (hk.c 15 rfl hk.k))), (hs.pick [(1, 1)] rfl)⟩
     ·have hk := hk.lit 15 c28 rfl
      refine cnd_false hk rfl rfl ?_
      apply wp_region_lit
      refine sv (.bool (x0.Kind == 3)) hk rfl rfl rfl fun a hk => ?_
      refine sa _ rfl hk rfl rfl rfl fun a hk => ?_
      show wpList _ _ _ [] _ _
      refine wpList_nil ?_
      obtain rfl := Option.some.inj H
      show R27 _ _
      rw [hR27]
      exact ⟨(x0.Kind == 3), rfl, (hk.c 1 rfl (hk.c 14 rfl (hk.c 15 rfl hk.k))), (hs.pick [(1, 1)] rfl)⟩
    ·intro a w hR0
     rw [hR27] at hR0
     obtain ⟨u23, rfl, hk, hs⟩ := hR0
     have H := HL26
     try dsimp only at H
     refine hK20 _ _ ?_
     rcases cond_some H with ⟨c29, H⟩ | ⟨c29, H⟩
     ·have hk := hk.lit 15 c29 rfl
      refine cnd_true hk rfl rfl ?_
      apply wp_seq_k; intro K30 hK30
      apply wp_region_lit
      refine sf ⟨b2, 2, none⟩ rfl hk rfl rfl rfl fd33_2 rfl fun a hk => ?_
      refine sl rfl hk rfl rfl rfl ag3 (box_cell hs (k := 1) rfl rfl) fun a hk => ?_
      refine sv (.bool (x0.Value == 0)) hk rfl rfl rfl fun a hk => ?_
      refine sa _ rfl hk rfl rfl rfl fun a hk => ?_
      show wpList _ _ _ [] _ _
      refine wpList_nil ?_
      refine hK30 _ _ ?_
      refine wp_ret ?_
      obtain rfl := Option.some.inj H
      exact fin hk _ [(.bool (x0.Value == 0))] rfl ⟨rfl, trivial⟩ ⟨rfl, (hs.pick [] rfl).dnil⟩
     ·have hk := hk.lit 15 c29 rfl
      refine cnd_false hk rfl rfl ?_
      apply wp_seq_k; intro K31 hK31
      apply wp_region_lit
      refine sv (.bool (x0.Kind == 6)) hk rfl rfl rfl fun a hk => ?_
      refine sa _ rfl hk rfl rfl rfl fun a hk => ?_
      show wpList _ _ _ [] _ _
      refine wpList_nil ?_
      refine hK31 _ _ ?_
      rcases cond_some H with ⟨c32, H⟩ | ⟨c32, H⟩
      ·have hk := hk.lit 21 c32 rfl
       refine cnd_true hk rfl rfl ?_
       apply wp_seq_k; intro K33 hK33
       apply wp_region_lit
       refine sf ⟨b2, 2, none⟩ rfl hk rfl rfl rfl fd33_2 rfl fun a hk => ?_
       refine sl rfl hk rfl rfl rfl ag3 (box_cell hs (k := 1) rfl rfl) fun a hk => ?_
       obtain ⟨y34, h35, H⟩ := bind_some H
       refine sc rfl en47 hk rfl rfl rfl (spec_l01In_t _ x0.Value 1 4 _ h35) ?_
       rintro _ w ⟨rfl, hG⟩ a hk
       have hs := hs.call0 hG
       refine sa _ rfl hk rfl rfl rfl fun a hk => ?_
       show wpList _ _ _ [] _ _
       refine wpList_nil ?_
       refine hK33 _ _ ?_
       have hs := hs.pick [] rfl
       refine wp_ret ?_
       obtain rfl := Option.some.inj H
       exact fin hk _ [(.bool y34)] rfl ⟨rfl, trivial⟩ ⟨rfl, (hs.pick [] rfl).dnil⟩
      ·have hk := hk.lit 21 c32 rfl
       refine cnd_false hk rfl rfl ?_
       refine wp_skip ?_
       refine hK18 _ _ ?_
       have hs := hs.pick [(1, 1)] rfl
       apply wp_seq_k; intro K36 hK36
       apply wp_region_lit
       refine sf ⟨b2, 2, none⟩ rfl hk rfl rfl rfl fd33_2 rfl fun a hk => ?_
       refine sl rfl hk rfl rfl rfl ag3 (box_cell hs (k := 1) rfl rfl) fun a hk => ?_
       obtain ⟨y37, h38, H⟩ := bind_some H
       refine sc rfl en47 hk rfl rfl rfl (spec_l01In_t _ x0.Value 0 999999 _ h38) ?_
       rintro _ w ⟨rfl, hG⟩ a hk
       have hs := hs.call0 hG
       refine sa _ rfl hk rfl rfl rfl fun a hk => ?_
       show wpList _ _ _ [] _ _
       refine wpList_nil ?_
       refine hK36 _ _ ?_
       refine wp_ret ?_
       obtain rfl := Option.some.inj H
       exact fin hk _ [(.bool y37)] rfl ⟨rfl, trivial⟩ ⟨rfl, (hs.pick [] rfl).dnil⟩

noncomputable def spec_l09Txn.s0 (x0 : S_Txn) (u7 : Int) : Option ((Int) ⊕ Ex (Unit) (Bool)) :=
  (bif (decide (u7 < (x0.Ops.length : Int))) then (if 0 ≤ u7 ∧ u7 < (x0.Ops.length : Int) then ((spec_OpOK.f (x0.Ops.getD u7.toNat z_Op)).bind fun y25 => (bif (!y25) then (some (.inr (.ret false))) else (some (.inl (w64 (u7 + 1)))))) else none) else (some (.inr (.out ()))))
noncomputable def spec_l09Txn.f (x0 : S_Txn) : Option (Bool) :=
  ((loopO (fun s => spec_l09Txn.s0 x0 s) 0).bind fun o => match o with | .out _ => ((spec_l01In.f (x0.Ops.length : Int) 1 4).bind fun y31 => (some y31)) | .ret r => (some r))
set_option maxRecDepth 100000 in
set_option maxHeartbeats 0 in
theorem spec_l09Txn_t (w0 : World) (x0 : S_Txn) (A0_0 : Option Addr) (p0_0 : Nat) (k0_0 : Chunk) (v0_0 : View L_Op A0_0 p0_0 x0.Ops k0_0) (w0_0 : Has w0 k0_0) (r : Bool) (H : spec_l09Txn.f x0 = some r) :
    Calls Tryz.prog 48 #[.agg #[.slice A0_0 x0.Ops.length p0_0]] w0 (Ret (fun v w => v = .bool r ∧ Sat [] w0 w [] [])) := by
  have hs : Sat [] w0 w0 [(1, k0_0)] [] := Sat.init w0 [(1, k0_0)] [] (by simp only [List.mem_cons, List.not_mem_nil, or_false]; rintro x (rfl) <;> assumption) (by simp) List.nodup_nil (by simp [blks])
  unfold spec_l09Txn.f at H
  refine enter Tryz.func48 rfl Tryz.ntmps48 rfl fun a hk => ?_
  apply wp_seq_k; intro K1 hK1
  apply wp_region_lit
  refine sbx 2 hs rfl hk rfl rfl rfl rfl fun b2 w a hk hs => ?_
  refine sa _ rfl hk rfl rfl rfl fun a hk => ?_
  show wpList _ _ _ [] _ _
  refine wpList_nil ?_
  refine hK1 _ _ ?_
  apply wp_seq_k; intro K3 hK3
  apply wp_seq_k; intro K4 hK4
  apply wp_region_lit
  refine sa _ rfl hk rfl rfl rfl fun a hk => ?_
  show wpList _ _ _ [] _ _
  refine wpList_nil ?_
  refine hK4 _ _ ?_
  obtain ⟨o8, h9, HL10⟩ := bind_some H
  clear H
  obtain ⟨R11, hR11⟩ : ∃ R : Act → World → Prop, R = fun a w => o8 = .out () ∧ Kn [(1, (.pointer (some ⟨b2, 0, none⟩)))] 22 a ∧ Sat [] w0 w [(1, k0_0)] [(2, [(b2, .cells #[.slice A0_0 x0.Ops.length p0_0] 36 (0, 0))])] := ⟨_, rfl⟩
  refine wp_cutq R11 ?_ ?_
  ·refine wp_block ?_
   obtain ⟨fu13, h9⟩ := loopO_some h9
   obtain ⟨I12, hI12⟩ : ∃ I : Nat → Act → World → Prop, I = fun fu a w => ∃ (u7 : Int), loopN (fun s => spec_l09Txn.s0 x0 s) fu u7 = some o8 ∧ Kn [(1, (.pointer (some ⟨b2, 0, none⟩))), (3, (.int .i64 u7))] 22 a ∧ Sat [] w0 w [(1, k0_0)] [(2, [(b2, .cells #[.slice A0_0 x0.Ops.length p0_0] 36 (0, 0))])] := ⟨_, rfl⟩
   refine wp_loop_ghost I12 fu13 ?_ ?_
   ·rw [hI12]
    exact ⟨0, h9, (hk.c 1 rfl (hk.c 3 rfl hk.k)), (hs.pick [(2, 2)] rfl)⟩
   ·clear h9 hk hs
    intro fu13 a w hI0
    rw [hI12] at hI0
    obtain ⟨u7, hi, hk, hs⟩ := hI0
    obtain ⟨x14, H, h15⟩ := loop_round hi
    try dsimp only at H
    unfold spec_l09Txn.s0 at H
    apply wp_seq_k; intro K16 hK16
    apply wp_seq_k; intro K17 hK17
    apply wp_region_lit
    refine sm _ rfl hk rfl rfl rfl fun a hk => ?_
    refine sf ⟨b2, 0, none⟩ rfl hk rfl rfl rfl fd36_0 rfl fun a hk => ?_
    refine sl rfl hk rfl rfl rfl ag34 (box_cell hs (k := 2) rfl rfl) fun a hk => ?_
    refine sle rfl hk rfl rfl rfl un34 fun a hk => ?_
    refine sv (.bool (decide (u7 < (x0.Ops.length : Int)))) hk rfl rfl rfl fun a hk => ?_
    show wpList _ _ _ [] _ _
    refine wpList_nil ?_
    refine hK17 _ _ ?_
    rcases cond_some H with ⟨c18, H⟩ | ⟨c18, H⟩
    ·have hk := hk.lit 8 c18 rfl
     refine cnd_true hk rfl rfl ?_
     refine wp_skip ?_
     refine hK16 _ _ ?_
     have hs := hs.pick [(2, 2)] rfl
     apply wp_seq_k; intro K19 hK19
     refine wp_block ?_
     apply wp_seq_k; intro K20 hK20
     apply wp_region_lit
     refine sf ⟨b2, 0, none⟩ rfl hk rfl rfl rfl fd36_0 rfl fun a hk => ?_
     refine sl rfl hk rfl rfl rfl ag34 (box_cell hs (k := 2) rfl rfl) fun a hk => ?_
     refine sm _ rfl hk rfl rfl rfl fun a hk => ?_
     rcases ite_some H with ⟨c21, H⟩ | ⟨_, H⟩
     rotate_left
     ·cases H
     obtain ⟨b22, q23, hAc21⟩ := (v0_0).some_ u7 c21.1 c21.2
     refine si rfl hk rfl rfl rfl rfl un34 sz33 c21.1 c21.2 hAc21 fun a hk => ?_
     obtain ⟨_, rfl, e24⟩ := (v0_0).at_ z_Op u7 c21.1 c21.2
     refine sln [.int .i64 ((x0.Ops.getD u7.toNat z_Op).Kind), .int .i64 ((x0.Ops.getD u7.toNat z_Op).Key), .int .i64 ((x0.Ops.getD u7.toNat z_Op).Value)] rfl hk rfl rfl rfl ag33 sz33 (cells_at e24 (hs.hasD (k := 1) rfl)) fun a hk => ?_
     obtain ⟨y25, h26, H⟩ := bind_some H
     refine sc rfl en66 hk rfl rfl rfl (spec_OpOK_t _ (x0.Ops.getD u7.toNat z_Op) _ h26) ?_
     rintro _ w ⟨rfl, hG⟩ a hk
     have hs := hs.call0 hG
     refine sv (.bool (!y25)) hk rfl rfl rfl fun a hk => ?_
     show wpList _ _ _ [] _ _
     refine wpList_nil ?_
     refine hK20 _ _ ?_
     rcases cond_some H with ⟨c27, H⟩ | ⟨c27, H⟩
     ·have hk := hk.lit 17 c27 rfl
      refine cnd_true hk rfl rfl ?_
      apply wp_seq_k; intro K28 hK28
      apply wp_region_lit
      refine sa _ rfl hk rfl rfl rfl fun a hk => ?_
      show wpList _ _ _ [] _ _
      refine wpList_nil ?_
      refine hK28 _ _ ?_
      refine wp_ret ?_
      obtain rfl := Option.some.inj H
      have ho8 := h15
      try dsimp only at ho8
      subst ho8
      have H := HL10
      try dsimp only at H
      obtain rfl := Option.some.inj H
      exact fin hk _ [(.bool false)] rfl ⟨rfl, trivial⟩ ⟨rfl, (hs.pick [] rfl).dnil⟩
     ·have hk := hk.lit 17 c27 rfl
      refine cnd_false hk rfl rfl ?_
      refine wp_skip ?_
      refine hK19 _ _ ?_
      apply wp_region_lit
      refine sm _ rfl hk rfl rfl rfl fun a hk => ?_
      refine sv (.int .i64 (w64 (u7 + 1))) hk rfl rfl rfl fun a hk => ?_
      refine sa _ rfl hk rfl rfl rfl fun a hk => ?_
      show wpList _ _ _ [] _ _
      refine wpList_nil ?_
      obtain rfl := Option.some.inj H
      obtain ⟨m29, hmm29, h15⟩ := h15
      show ∃ n', n' < _ ∧ I12 n' _ _
      refine ⟨m29, hmm29, ?_⟩
      rw [hI12]
      exact ⟨(w64 (u7 + 1)), h15, (hk.c 1 rfl (hk.c 3 rfl hk.k)), (hs.pick [(2, 2)] rfl)⟩
    ·have hk := hk.lit 8 c18 rfl
     refine cnd_false hk rfl rfl ?_
     refine wp_exit ?_
     obtain rfl := Option.some.inj H
     show R11 _ _
     rw [hR11]
     exact ⟨h15.symm, (hk.c 1 rfl hk.k), (hs.pick [(2, 2)] rfl)⟩
  ·intro a w hR0
   rw [hR11] at hR0
   obtain ⟨rfl, hk, hs⟩ := hR0
   have H := HL10
   try dsimp only at H
   refine hK3 _ _ ?_
   apply wp_seq_k; intro K30 hK30
   apply wp_region_lit
   refine sf ⟨b2, 0, none⟩ rfl hk rfl rfl rfl fd36_0 rfl fun a hk => ?_
   refine sl rfl hk rfl rfl rfl ag34 (box_cell hs (k := 2) rfl rfl) fun a hk => ?_
   refine sle rfl hk rfl rfl rfl un34 fun a hk => ?_
   obtain ⟨y31, h32, H⟩ := bind_some H
   refine sc rfl en47 hk rfl rfl rfl (spec_l01In_t _ (x0.Ops.length : Int) 1 4 _ h32) ?_
   rintro _ w ⟨rfl, hG⟩ a hk
   have hs := hs.call0 hG
   refine sa _ rfl hk rfl rfl rfl fun a hk => ?_
   show wpList _ _ _ [] _ _
   refine wpList_nil ?_
   refine hK30 _ _ ?_
   have hs := hs.pick [] rfl
   refine wp_ret ?_
   obtain rfl := Option.some.inj H
   exact fin hk _ [(.bool y31)] rfl ⟨rfl, trivial⟩ ⟨rfl, (hs.pick [] rfl).dnil⟩

noncomputable def spec_BatchOK.s0 (l0 : List S_Txn) (u16 : Int) : Option ((Int) ⊕ Ex (Unit) (Bool)) :=
  (bif (decide (u16 < (l0.length : Int))) then (if 0 ≤ u16 ∧ u16 < (l0.length : Int) then ((spec_l09Txn.f (l0.getD u16.toNat z_Txn)).bind fun y37 => (bif (!y37) then (some (.inr (.ret false))) else (some (.inl (w64 (u16 + 1)))))) else none) else (some (.inr (.out ()))))
noncomputable def spec_BatchOK.f (l0 : List S_Txn) : Option (Bool) :=
  (bif (decide ((l0.length : Int) > 4096)) then (some false) else ((spec_l01In.f (l0.length : Int) 1 2).bind fun y8 => (bif (!y8) then (some false) else ((loopO (fun s => spec_BatchOK.s0 l0 s) 0).bind fun o => match o with | .out _ => (some true) | .ret r => (some r)))))
set_option maxRecDepth 100000 in
set_option maxHeartbeats 0 in
theorem spec_BatchOK_t (w0 : World) (A0_ : Option Addr) (p0_ : Nat) (l0 : List S_Txn) (k0_ : Chunk) (v0_ : View L_impl_Txn A0_ p0_ l0 k0_) (w0_ : Has w0 k0_) (r : Bool) (H : spec_BatchOK.f l0 = some r) :
    Calls Tryz.prog 27 #[.slice A0_ l0.length p0_] w0 (Ret (fun v w => v = .bool r ∧ Sat [] w0 w [] [])) := by
  have hs : Sat [] w0 w0 [(1, k0_)] [] := Sat.init w0 [(1, k0_)] [] (by simp only [List.mem_cons, List.not_mem_nil, or_false]; rintro x (rfl) <;> assumption) (by simp) List.nodup_nil (by simp [blks])
  unfold spec_BatchOK.f at H
  refine enter Tryz.func27 rfl Tryz.ntmps27 rfl fun a hk => ?_
  apply wp_seq_k; intro K1 hK1
  apply wp_region_lit
  refine sa _ rfl hk rfl rfl rfl fun a hk => ?_
  show wpList _ _ _ [] _ _
  refine wpList_nil ?_
  refine hK1 _ _ ?_
  apply wp_seq_k; intro K2 hK2
  apply wp_seq_k; intro K3 hK3
  apply wp_region_lit
  refine sm _ rfl hk rfl rfl rfl fun a hk => ?_
  refine sle rfl hk rfl rfl rfl un22 fun a hk => ?_
  refine sv (.bool (decide ((l0.length : Int) > 4096))) hk rfl rfl rfl fun a hk => ?_
  show wpList _ _ _ [] _ _
  refine wpList_nil ?_
  refine hK3 _ _ ?_
  rcases cond_some H with ⟨c4, H⟩ | ⟨c4, H⟩
  ·have hk := hk.lit 6 c4 rfl
   refine cnd_true hk rfl rfl ?_
   apply wp_seq_k; intro K5 hK5
   apply wp_region_lit
   refine sa _ rfl hk rfl rfl rfl fun a hk => ?_
   show wpList _ _ _ [] _ _
   refine wpList_nil ?_
   refine hK5 _ _ ?_
   refine wp_ret ?_
   obtain rfl := Option.some.inj H
   exact fin hk _ [(.bool false)] rfl ⟨rfl, trivial⟩ ⟨rfl, (hs.pick [] rfl).dnil⟩
  ·have hk := hk.lit 6 c4 rfl
   refine cnd_false hk rfl rfl ?_
   refine wp_skip ?_
   refine hK2 _ _ ?_
   apply wp_seq_k; intro K6 hK6
   apply wp_seq_k; intro K7 hK7
   apply wp_region_lit
   refine sm _ rfl hk rfl rfl rfl fun a hk => ?_
   refine sle rfl hk rfl rfl rfl un22 fun a hk => ?_
   obtain ⟨y8, h9, H⟩ := bind_some H
   refine sc rfl en47 hk rfl rfl rfl (spec_l01In_t _ (l0.length : Int) 1 2 _ h9) ?_
   rintro _ w ⟨rfl, hG⟩ a hk
   have hs := hs.call0 hG
   refine sv (.bool (!y8)) hk rfl rfl rfl fun a hk => ?_
   show wpList _ _ _ [] _ _
   refine wpList_nil ?_
   refine hK7 _ _ ?_
   have hs := hs.pick [] rfl
   rcases cond_some H with ⟨c10, H⟩ | ⟨c10, H⟩
   ·have hk := hk.lit 10 c10 rfl
    refine cnd_true hk rfl rfl ?_
    apply wp_seq_k; intro K11 hK11
    apply wp_region_lit
    refine sa _ rfl hk rfl rfl rfl fun a hk => ?_
    show wpList _ _ _ [] _ _
    refine wpList_nil ?_
    refine hK11 _ _ ?_
    refine wp_ret ?_
    obtain rfl := Option.some.inj H
    exact fin hk _ [(.bool false)] rfl ⟨rfl, trivial⟩ ⟨rfl, (hs.pick [] rfl).dnil⟩
   ·have hk := hk.lit 10 c10 rfl
    refine cnd_false hk rfl rfl ?_
    refine wp_skip ?_
    refine hK6 _ _ ?_
    apply wp_seq_k; intro K12 hK12
    apply wp_seq_k; intro K13 hK13
    apply wp_region_lit
    refine sa _ rfl hk rfl rfl rfl fun a hk => ?_
    show wpList _ _ _ [] _ _
    refine wpList_nil ?_
    refine hK13 _ _ ?_
    obtain ⟨o17, h18, HL19⟩ := bind_some H
    clear H
    obtain ⟨R20, hR20⟩ : ∃ R : Act → World → Prop, R = fun a w => o17 = .out () ∧ Kn [] 23 a ∧ Sat [] w0 w [(1, k0_)] [] := ⟨_, rfl⟩
    refine wp_cutq R20 ?_ ?_
    ·refine wp_block ?_
     obtain ⟨fu22, h18⟩ := loopO_some h18
     obtain ⟨I21, hI21⟩ : ∃ I : Nat → Act → World → Prop, I = fun fu a w => ∃ (u16 : Int), loopN (fun s => spec_BatchOK.s0 l0 s) fu u16 = some o17 ∧ Kn [(0, (.slice A0_ l0.length p0_)), (3, (.int .i64 u16))] 23 a ∧ Sat [] w0 w [(1, k0_)] [] := ⟨_, rfl⟩
     refine wp_loop_ghost I21 fu22 ?_ ?_
     ·rw [hI21]
      exact ⟨0, h18, (hk.c 0 rfl (hk.c 3 rfl hk.k)), (hs.pick [] rfl)⟩
     ·clear h18 hk hs
      intro fu22 a w hI0
      rw [hI21] at hI0
      obtain ⟨u16, hi, hk, hs⟩ := hI0
      obtain ⟨x23, H, h24⟩ := loop_round hi
      try dsimp only at H
      unfold spec_BatchOK.s0 at H
      apply wp_seq_k; intro K25 hK25
      apply wp_seq_k; intro K26 hK26
      apply wp_region_lit
      refine sm _ rfl hk rfl rfl rfl fun a hk => ?_
      refine sm _ rfl hk rfl rfl rfl fun a hk => ?_
      refine sle rfl hk rfl rfl rfl un22 fun a hk => ?_
      refine sv (.bool (decide (u16 < (l0.length : Int)))) hk rfl rfl rfl fun a hk => ?_
      show wpList _ _ _ [] _ _
      refine wpList_nil ?_
      refine hK26 _ _ ?_
      rcases cond_some H with ⟨c27, H⟩ | ⟨c27, H⟩
      ·have hk := hk.lit 14 c27 rfl
       refine cnd_true hk rfl rfl ?_
       refine wp_skip ?_
       refine hK25 _ _ ?_
       have hs := hs.pick [] rfl
       apply wp_seq_k; intro K28 hK28
       refine wp_block ?_
       apply wp_seq_k; intro K29 hK29
       apply wp_region_lit
       refine sm _ rfl hk rfl rfl rfl fun a hk => ?_
       refine sm _ rfl hk rfl rfl rfl fun a hk => ?_
       rcases ite_some H with ⟨c30, H⟩ | ⟨_, H⟩
       rotate_left
       ·cases H
       obtain ⟨b31, q32, hAc30⟩ := (v0_).some_ u16 c30.1 c30.2
       refine si rfl hk rfl rfl rfl rfl un22 sz36 c30.1 c30.2 hAc30 fun a hk => ?_
       obtain ⟨_, ⟨_, rfl, A34, p35, rfl, v36⟩, e33⟩ := (v0_).at_ z_Txn u16 c30.1 c30.2
       refine sln [.slice A34 ((l0.getD u16.toNat z_Txn).Ops).length p35] rfl hk rfl rfl rfl ag36 sz36 (cells_at e33 (hs.hasD (k := 1) rfl)) fun a hk => ?_
       obtain ⟨y37, h38, H⟩ := bind_some H
       refine sc rfl en48 hk rfl rfl rfl (spec_l09Txn_t _ (l0.getD u16.toNat z_Txn) A34 p35 _ v36 (hs.hasD (k := 1) rfl) _ h38) ?_
       rintro _ w ⟨rfl, hG⟩ a hk
       have hs := hs.call0 hG
       refine sv (.bool (!y37)) hk rfl rfl rfl fun a hk => ?_
       show wpList _ _ _ [] _ _
       refine wpList_nil ?_
       refine hK29 _ _ ?_
       rcases cond_some H with ⟨c39, H⟩ | ⟨c39, H⟩
       ·have hk := hk.lit 22 c39 rfl
        refine cnd_true hk rfl rfl ?_
        apply wp_seq_k; intro K40 hK40
        apply wp_region_lit
        refine sa _ rfl hk rfl rfl rfl fun a hk => ?_
        show wpList _ _ _ [] _ _
        refine wpList_nil ?_
        refine hK40 _ _ ?_
        refine wp_ret ?_
        obtain rfl := Option.some.inj H
        have ho17 := h24
        try dsimp only at ho17
        subst ho17
        have H := HL19
        try dsimp only at H
        obtain rfl := Option.some.inj H
        exact fin hk _ [(.bool false)] rfl ⟨rfl, trivial⟩ ⟨rfl, (hs.pick [] rfl).dnil⟩
       ·have hk := hk.lit 22 c39 rfl
        refine cnd_false hk rfl rfl ?_
        refine wp_skip ?_
        refine hK28 _ _ ?_
        apply wp_region_lit
        refine sm _ rfl hk rfl rfl rfl fun a hk => ?_
        refine sv (.int .i64 (w64 (u16 + 1))) hk rfl rfl rfl fun a hk => ?_
        refine sa _ rfl hk rfl rfl rfl fun a hk => ?_
        show wpList _ _ _ [] _ _
        refine wpList_nil ?_
        obtain rfl := Option.some.inj H
        obtain ⟨m41, hmm41, h24⟩ := h24
        show ∃ n', n' < _ ∧ I21 n' _ _
        refine ⟨m41, hmm41, ?_⟩
        rw [hI21]
        exact ⟨(w64 (u16 + 1)), h24, (hk.c 0 rfl (hk.c 3 rfl hk.k)), (hs.pick [] rfl)⟩
      ·have hk := hk.lit 14 c27 rfl
       refine cnd_false hk rfl rfl ?_
       refine wp_exit ?_
       obtain rfl := Option.some.inj H
       show R20 _ _
       rw [hR20]
       exact ⟨h24.symm, hk.k, (hs.pick [] rfl)⟩
    ·intro a w hR0
     rw [hR20] at hR0
     obtain ⟨rfl, hk, hs⟩ := hR0
     have H := HL19
     try dsimp only at H
     refine hK12 _ _ ?_
     apply wp_seq_k; intro K42 hK42
     apply wp_region_lit
     refine sa _ rfl hk rfl rfl rfl fun a hk => ?_
     show wpList _ _ _ [] _ _
     refine wpList_nil ?_
     refine hK42 _ _ ?_
     have hs := hs.pick [] rfl
     refine wp_ret ?_
     obtain rfl := Option.some.inj H
     exact fin hk _ [(.bool true)] rfl ⟨rfl, trivial⟩ ⟨rfl, (hs.pick [] rfl).dnil⟩

noncomputable def spec_l00Cut.s0 (x0 : ByteArray) (x1 : Int) (u17 : List ByteArray) (u15 : Int) (u16 : Int) : Option (((List ByteArray) × Int × Int) ⊕ Ex ((List ByteArray) × Int) ((List ByteArray))) :=
  (bif (decide (u16 < (x0.size : Int))) then (if 0 ≤ u16 ∧ u16 < (x0.size : Int) then (((bif ((byteAt x0 u16) == x1) then (if 0 ≤ u15 ∧ u15 ≤ u16 ∧ u16 ≤ (x0.size : Int) then (if u17.length + ([(x0.extract u15.toNat u16.toNat)]).length ≤ 1073741824 then (some ((u17 ++ ([(x0.extract u15.toNat u16.toNat)])), (w64 (u16 + 1)))) else none) else none) else (some (u17, u15))) : Option ((List ByteArray) × Int)).bind fun o => match o with | (u43, u48) => (some (.inl (u43, u48, (w64 (u16 + 1)))))) else none) else (some (.inr (.out (u17, u15)))))
noncomputable def spec_l00Cut.f (x0 : ByteArray) (x1 : Int) : Option ((List ByteArray)) :=
  ((loopO (fun s => spec_l00Cut.s0 x0 x1 s.1 s.2.1 s.2.2) (([] : List ByteArray), 0, 0)).bind fun o => match o with | .out (u22, u27) => (if 0 ≤ u27 ∧ u27 ≤ (x0.size : Int) then (if u22.length + ([(x0.extract u27.toNat x0.size)]).length ≤ 1073741824 then (some (u22 ++ ([(x0.extract u27.toNat x0.size)]))) else none) else none) | .ret r => (some r))
set_option maxRecDepth 100000 in
set_option maxHeartbeats 0 in
theorem spec_l00Cut_t (w0 : World) (x0 : ByteArray) (x1 : Int) (r : (List ByteArray)) (H : spec_l00Cut.f x0 x1 = some r) :
    Calls Tryz.prog 38 #[.string x0, .int .u8 x1] w0 (Ret (fun v w => ∃ (A0 : Option Addr) (p0 : Nat) (k0 : Chunk), v = .slice A0 r.length p0 ∧ Own Lay.str 9 A0 p0 r k0 ∧ Sat [] w0 w [] [(0, k0)])) := by
  have hs : Sat [] w0 w0 [] [] := Sat.init w0 [] [] (by simp) (by simp) List.nodup_nil (by simp [blks])
  unfold spec_l00Cut.f at H
  refine enter Tryz.func38 rfl Tryz.ntmps38 rfl fun a hk => ?_
  apply wp_seq_k; intro K1 hK1
  apply wp_region_lit
  refine sa _ rfl hk rfl rfl rfl fun a hk => ?_
  show wpList _ _ _ [] _ _
  refine wpList_nil ?_
  refine hK1 _ _ ?_
  apply wp_seq_k; intro K2 hK2
  apply wp_region_lit
  refine sbs0 1 Lay.str hs rfl hk rfl rfl un59 sz9 fun b3 k4 w a hk o5 hs => ?_
  refine sa _ rfl hk rfl rfl rfl fun a hk => ?_
  show wpList _ _ _ [] _ _
  refine wpList_nil ?_
  refine hK2 _ _ ?_
  apply wp_seq_k; intro K6 hK6
  apply wp_region_lit
  refine sa _ rfl hk rfl rfl rfl fun a hk => ?_
  show wpList _ _ _ [] _ _
  refine wpList_nil ?_
  refine hK6 _ _ ?_
  apply wp_seq_k; intro K7 hK7
  apply wp_seq_k; intro K8 hK8
  apply wp_region_lit
  refine sa _ rfl hk rfl rfl rfl fun a hk => ?_
  show wpList _ _ _ [] _ _
  refine wpList_nil ?_
  refine hK8 _ _ ?_
  have hs := hs.pick [(1, 1)] rfl
  obtain ⟨o28, h29, HL30⟩ := bind_some H
  clear H
  obtain ⟨R31, hR31⟩ : ∃ R : Act → World → Prop, R = fun a w => ∃ (u22 : List ByteArray) (u27 : Int) (A25 : Option Addr) (p26 : Nat) (k23 : Chunk), o28 = .out (u22, u27) ∧ Kn [(0, (.string x0)), (5, (.slice A25 u22.length p26)), (6, (.int .i64 u27))] 35 a ∧ Sat [] w0 w [] [(1, k23)] ∧ Own Lay.str 9 A25 p26 u22 k23 := ⟨_, rfl⟩
  refine wp_cutq R31 ?_ ?_
  ·refine wp_block ?_
   obtain ⟨fu33, h29⟩ := loopO_some h29
   obtain ⟨I32, hI32⟩ : ∃ I : Nat → Act → World → Prop, I = fun fu a w => ∃ (u17 : List ByteArray) (u15 : Int) (u16 : Int) (A20 : Option Addr) (p21 : Nat) (k18 : Chunk), loopN (fun s => spec_l00Cut.s0 x0 x1 s.1 s.2.1 s.2.2) fu (u17, u15, u16) = some o28 ∧ Kn [(0, (.string x0)), (1, (.int .u8 x1)), (5, (.slice A20 u17.length p21)), (6, (.int .i64 u15)), (7, (.int .i64 u16))] 35 a ∧ Sat [] w0 w [] [(1, k18)] ∧ Own Lay.str 9 A20 p21 u17 k18 := ⟨_, rfl⟩
   refine wp_loop_ghost I32 fu33 ?_ ?_
   ·rw [hI32]
    exact ⟨([] : List ByteArray), 0, 0, (some ⟨b3, 0, none⟩), 0, _, h29, (hk.c 0 rfl (hk.c 1 rfl (hk.c 5 rfl (hk.c 6 rfl (hk.c 7 rfl hk.k))))), (hs.pick [(1, 1)] rfl), o5⟩
   ·clear h29 hk hs
    intro fu33 a w hI0
    rw [hI32] at hI0
    obtain ⟨u17, u15, u16, A20, p21, k18, hi, hk, hs, o19⟩ := hI0
    obtain ⟨x34, H, h35⟩ := loop_round hi
    try dsimp only at H
    unfold spec_l00Cut.s0 at H
    apply wp_seq_k; intro K36 hK36
    apply wp_seq_k; intro K37 hK37
    apply wp_region_lit
    refine sm _ rfl hk rfl rfl rfl fun a hk => ?_
    refine sm _ rfl hk rfl rfl rfl fun a hk => ?_
    refine sles rfl hk rfl rfl rfl un9 fun a hk => ?_
    refine sv (.bool (decide (u16 < (x0.size : Int)))) hk rfl rfl rfl fun a hk => ?_
    show wpList _ _ _ [] _ _
    refine wpList_nil ?_
    refine hK37 _ _ ?_
    rcases cond_some H with ⟨c38, H⟩ | ⟨c38, H⟩
    ·have hk := hk.lit 12 c38 rfl
     refine cnd_true hk rfl rfl ?_
     refine wp_skip ?_
     refine hK36 _ _ ?_
     apply wp_seq_k; intro K39 hK39
     refine wp_block ?_
     apply wp_seq_k; intro K40 hK40
     apply wp_region_lit
     refine sm _ rfl hk rfl rfl rfl fun a hk => ?_
     refine sm _ rfl hk rfl rfl rfl fun a hk => ?_
     rcases ite_some H with ⟨c41, H⟩ | ⟨_, H⟩
     rotate_left
     ·cases H
     refine six rfl hk rfl rfl rfl rfl un9 c41.1 c41.2 fun a hk => ?_
     refine sm _ rfl hk rfl rfl rfl fun a hk => ?_
     refine sv (.bool ((byteAt x0 u16) == x1)) hk rfl rfl rfl fun a hk => ?_
     show wpList _ _ _ [] _ _
     refine wpList_nil ?_
     refine hK40 _ _ ?_
     obtain ⟨o49, h50, HL51⟩ := bind_some H
     clear H
     obtain ⟨R52, hR52⟩ : ∃ R : Act → World → Prop, R = fun a w => ∃ (u43 : List ByteArray) (u48 : Int) (A46 : Option Addr) (p47 : Nat) (k44 : Chunk), (u43, u48) = o49 ∧ Kn [(0, (.string x0)), (1, (.int .u8 x1)), (5, (.slice A46 u43.length p47)), (6, (.int .i64 u48)), (7, (.int .i64 u16))] 35 a ∧ Sat [] w0 w [] [(1, k44)] ∧ Own Lay.str 9 A46 p47 u43 k44 := ⟨_, rfl⟩
     refine wp_cutq R52 ?_ ?_
     ·have H := h50
      rcases cond_some H with ⟨c53, H⟩ | ⟨c53, H⟩
      ·have hk := hk.lit 19 c53 rfl
       refine cnd_true hk rfl rfl ?_
       apply wp_seq_k; intro K54 hK54
       apply wp_region_lit
       refine sm _ rfl hk rfl rfl rfl fun a hk => ?_
       refine sm _ rfl hk rfl rfl rfl fun a hk => ?_
       refine sm _ rfl hk rfl rfl rfl fun a hk => ?_
       refine sm _ rfl hk rfl rfl rfl fun a hk => ?_
       rcases ite_some H with ⟨c55, H⟩ | ⟨_, H⟩
       rotate_left
       ·cases H
       refine ssl_lh rfl hk rfl rfl rfl rfl rfl un9 c55.1 c55.2.1 c55.2.2 fun a hk => ?_
       refine sbs (L := Lay.str) (pv := [(0, (.string (x0.extract u15.toNat u16.toNat)))]) (xs := [(x0.extract u15.toNat u16.toNat)]) (ess := [[.string (x0.extract u15.toNat u16.toNat)]]) 4 hs rfl hk rfl rfl rfl un59 (bs9_0 (x0.extract u15.toNat u16.toNat)) (AllOwn.cons0 ⟨rfl, rfl⟩ AllOwn.nil) rfl rfl rfl fun b56 k57 w a hk o58 hs => ?_
       rcases ite_some H with ⟨c59, H⟩ | ⟨_, H⟩
       rotate_left
       ·cases H
       refine sap 1 (xs := u17) (ys := [(x0.extract u15.toNat u16.toNat)]) (flat_flat : (Lay.str).Flat) hs rfl o19 o58.view (hs.hasG (k := 4) rfl) rfl hk rfl rfl rfl rfl rfl rfl un59 mk9 rfl rfl rfl c59 fun A60 p61 k62 w a hk o63 hs => ?_
       refine sa _ rfl hk rfl rfl rfl fun a hk => ?_
       show wpList _ _ _ [] _ _
       refine wpList_nil ?_
       refine hK54 _ _ ?_
       have hs := hs.pick [(1, 1)] rfl
       apply wp_region_lit
       refine sm _ rfl hk rfl rfl rfl fun a hk => ?_
       refine sv (.int .i64 (w64 (u16 + 1))) hk rfl rfl rfl fun a hk => ?_
       refine sa _ rfl hk rfl rfl rfl fun a hk => ?_
       show wpList _ _ _ [] _ _
       refine wpList_nil ?_
       obtain rfl := Option.some.inj H
       show R52 _ _
       rw [hR52]
       exact ⟨(u17 ++ ([(x0.extract u15.toNat u16.toNat)])), (w64 (u16 + 1)), A60, p61, _, rfl, (hk.c 0 rfl (hk.c 1 rfl (hk.c 5 rfl (hk.c 6 rfl (hk.c 7 rfl hk.k))))), (hs.pick [(1, 1)] rfl), o63⟩
      ·have hk := hk.lit 19 c53 rfl
       refine cnd_false hk rfl rfl ?_
       refine wp_skip ?_
       obtain rfl := Option.some.inj H
       show R52 _ _
       rw [hR52]
       exact ⟨u17, u15, A20, p21, _, rfl, (hk.c 0 rfl (hk.c 1 rfl (hk.c 5 rfl (hk.c 6 rfl (hk.c 7 rfl hk.k))))), (hs.pick [(1, 1)] rfl), o19⟩
     ·intro a w hR0
      rw [hR52] at hR0
      obtain ⟨u43, u48, A46, p47, k44, rfl, hk, hs, o45⟩ := hR0
      have H := HL51
      try dsimp only at H
      refine hK39 _ _ ?_
      have hs := hs.pick [(1, 1)] rfl
      apply wp_region_lit
      refine sm _ rfl hk rfl rfl rfl fun a hk => ?_
      refine sv (.int .i64 (w64 (u16 + 1))) hk rfl rfl rfl fun a hk => ?_
      refine sa _ rfl hk rfl rfl rfl fun a hk => ?_
      show wpList _ _ _ [] _ _
      refine wpList_nil ?_
      obtain rfl := Option.some.inj H
      obtain ⟨m64, hmm64, h35⟩ := h35
      show ∃ n', n' < _ ∧ I32 n' _ _
      refine ⟨m64, hmm64, ?_⟩
      rw [hI32]
      exact ⟨u43, u48, (w64 (u16 + 1)), A46, p47, _, h35, (hk.c 0 rfl (hk.c 1 rfl (hk.c 5 rfl (hk.c 6 rfl (hk.c 7 rfl hk.k))))), (hs.pick [(1, 1)] rfl), o45⟩
    ·have hk := hk.lit 12 c38 rfl
     refine cnd_false hk rfl rfl ?_
     refine wp_exit ?_
     obtain rfl := Option.some.inj H
     show R31 _ _
     rw [hR31]
     exact ⟨u17, u15, A20, p21, _, h35.symm, (hk.c 0 rfl (hk.c 5 rfl (hk.c 6 rfl hk.k))), (hs.pick [(1, 1)] rfl), o19⟩
  ·intro a w hR0
   rw [hR31] at hR0
   obtain ⟨u22, u27, A25, p26, k23, rfl, hk, hs, o24⟩ := hR0
   have H := HL30
   try dsimp only at H
   refine hK7 _ _ ?_
   apply wp_seq_k; intro K65 hK65
   apply wp_region_lit
   refine sm _ rfl hk rfl rfl rfl fun a hk => ?_
   refine sm _ rfl hk rfl rfl rfl fun a hk => ?_
   refine sm _ rfl hk rfl rfl rfl fun a hk => ?_
   rcases ite_some H with ⟨c66, H⟩ | ⟨_, H⟩
   rotate_left
   ·cases H
   refine ssl_l rfl hk rfl rfl rfl rfl un9 c66.1 c66.2 fun a hk => ?_
   refine sbs (L := Lay.str) (pv := [(0, (.string (x0.extract u27.toNat x0.size)))]) (xs := [(x0.extract u27.toNat x0.size)]) (ess := [[.string (x0.extract u27.toNat x0.size)]]) 5 hs rfl hk rfl rfl rfl un59 (bs9_0 (x0.extract u27.toNat x0.size)) (AllOwn.cons0 ⟨rfl, rfl⟩ AllOwn.nil) rfl rfl rfl fun b67 k68 w a hk o69 hs => ?_
   rcases ite_some H with ⟨c70, H⟩ | ⟨_, H⟩
   rotate_left
   ·cases H
   refine sap 1 (xs := u22) (ys := [(x0.extract u27.toNat x0.size)]) (flat_flat : (Lay.str).Flat) hs rfl o24 o69.view (hs.hasG (k := 5) rfl) rfl hk rfl rfl rfl rfl rfl rfl un59 mk9 rfl rfl rfl c70 fun A71 p72 k73 w a hk o74 hs => ?_
   refine sa _ rfl hk rfl rfl rfl fun a hk => ?_
   show wpList _ _ _ [] _ _
   refine wpList_nil ?_
   refine hK65 _ _ ?_
   refine wp_ret ?_
   obtain rfl := Option.some.inj H
   exact fin hk _ [(.slice A71 (u22 ++ ([(x0.extract u27.toNat x0.size)])).length p72)] rfl ⟨rfl, trivial⟩ ⟨A71, p72, _, rfl, o74, (hs.pick [(0, 1)] rfl).dnil⟩

noncomputable def spec_l00Words.s0 (x0 : ByteArray) (u17 : List ByteArray) (u15 : Int) (u16 : Int) : Option (((List ByteArray) × Int × Int) ⊕ Ex ((List ByteArray)) ((List ByteArray))) :=
  (bif (decide (u16 ≤ (x0.size : Int))) then (((bif (u16 == (x0.size : Int)) then (some true) else (if 0 ≤ u16 ∧ u16 < (x0.size : Int) then (some ((byteAt x0 u16) == 32)) else none)) : Option (Bool)).bind fun u41 => (((bif u41 then (((bif (decide (u16 > u15)) then (if 0 ≤ u15 ∧ u15 ≤ u16 ∧ u16 ≤ (x0.size : Int) then (if u17.length + ([(x0.extract u15.toNat u16.toNat)]).length ≤ 1073741824 then (some (u17 ++ ([(x0.extract u15.toNat u16.toNat)]))) else none) else none) else (some u17)) : Option ((List ByteArray))).bind fun u63 => (some (u63, (w64 (u16 + 1))))) else (some (u17, u15))) : Option ((List ByteArray) × Int)).bind fun o => match o with | (u49, u54) => (some (.inl (u49, u54, (w64 (u16 + 1))))))) else (some (.inr (.out u17))))
noncomputable def spec_l00Words.f (x0 : ByteArray) : Option ((List ByteArray)) :=
  ((loopO (fun s => spec_l00Words.s0 x0 s.1 s.2.1 s.2.2) (([] : List ByteArray), 0, 0)).bind fun o => match o with | .out u22 => (some u22) | .ret r => (some r))
set_option maxRecDepth 100000 in
set_option maxHeartbeats 0 in
theorem spec_l00Words_t (w0 : World) (x0 : ByteArray) (r : (List ByteArray)) (H : spec_l00Words.f x0 = some r) :
    Calls Tryz.prog 62 #[.string x0] w0 (Ret (fun v w => ∃ (A0 : Option Addr) (p0 : Nat) (k0 : Chunk), v = .slice A0 r.length p0 ∧ Own Lay.str 9 A0 p0 r k0 ∧ Sat [] w0 w [] [(0, k0)])) := by
  have hs : Sat [] w0 w0 [] [] := Sat.init w0 [] [] (by simp) (by simp) List.nodup_nil (by simp [blks])
  unfold spec_l00Words.f at H
  refine enter Tryz.func62 rfl Tryz.ntmps62 rfl fun a hk => ?_
  apply wp_seq_k; intro K1 hK1
  apply wp_region_lit
  refine sa _ rfl hk rfl rfl rfl fun a hk => ?_
  show wpList _ _ _ [] _ _
  refine wpList_nil ?_
  refine hK1 _ _ ?_
  apply wp_seq_k; intro K2 hK2
  apply wp_region_lit
  refine sbs0 1 Lay.str hs rfl hk rfl rfl un59 sz9 fun b3 k4 w a hk o5 hs => ?_
  refine sa _ rfl hk rfl rfl rfl fun a hk => ?_
  show wpList _ _ _ [] _ _
  refine wpList_nil ?_
  refine hK2 _ _ ?_
  apply wp_seq_k; intro K6 hK6
  apply wp_region_lit
  refine sa _ rfl hk rfl rfl rfl fun a hk => ?_
  show wpList _ _ _ [] _ _
  refine wpList_nil ?_
  refine hK6 _ _ ?_
  apply wp_seq_k; intro K7 hK7
  apply wp_seq_k; intro K8 hK8
  apply wp_region_lit
  refine sa _ rfl hk rfl rfl rfl fun a hk => ?_
  show wpList _ _ _ [] _ _
  refine wpList_nil ?_
  refine hK8 _ _ ?_
  have hs := hs.pick [(1, 1)] rfl
  obtain ⟨o27, h28, HL29⟩ := bind_some H
  clear H
  obtain ⟨R30, hR30⟩ : ∃ R : Act → World → Prop, R = fun a w => ∃ (u22 : List ByteArray) (A25 : Option Addr) (p26 : Nat) (k23 : Chunk), o27 = .out u22 ∧ Kn [(3, (.slice A25 u22.length p26))] 36 a ∧ Sat [] w0 w [] [(1, k23)] ∧ Own Lay.str 9 A25 p26 u22 k23 := ⟨_, rfl⟩
  refine wp_cutq R30 ?_ ?_
  ·refine wp_block ?_
   obtain ⟨fu32, h28⟩ := loopO_some h28
   obtain ⟨I31, hI31⟩ : ∃ I : Nat → Act → World → Prop, I = fun fu a w => ∃ (u17 : List ByteArray) (u15 : Int) (u16 : Int) (A20 : Option Addr) (p21 : Nat) (k18 : Chunk), loopN (fun s => spec_l00Words.s0 x0 s.1 s.2.1 s.2.2) fu (u17, u15, u16) = some o27 ∧ Kn [(0, (.string x0)), (3, (.slice A20 u17.length p21)), (4, (.int .i64 u15)), (5, (.int .i64 u16))] 36 a ∧ Sat [] w0 w [] [(1, k18)] ∧ Own Lay.str 9 A20 p21 u17 k18 := ⟨_, rfl⟩
   refine wp_loop_ghost I31 fu32 ?_ ?_
   ·rw [hI31]
    exact ⟨([] : List ByteArray), 0, 0, (some ⟨b3, 0, none⟩), 0, _, h28, (hk.c 0 rfl (hk.c 3 rfl (hk.c 4 rfl (hk.c 5 rfl hk.k)))), (hs.pick [(1, 1)] rfl), o5⟩
   ·clear h28 hk hs
    intro fu32 a w hI0
    rw [hI31] at hI0
    obtain ⟨u17, u15, u16, A20, p21, k18, hi, hk, hs, o19⟩ := hI0
    obtain ⟨x33, H, h34⟩ := loop_round hi
    try dsimp only at H
    unfold spec_l00Words.s0 at H
    apply wp_seq_k; intro K35 hK35
    apply wp_seq_k; intro K36 hK36
    apply wp_region_lit
    refine sm _ rfl hk rfl rfl rfl fun a hk => ?_
    refine sm _ rfl hk rfl rfl rfl fun a hk => ?_
    refine sles rfl hk rfl rfl rfl un9 fun a hk => ?_
    refine sv (.bool (decide (u16 ≤ (x0.size : Int)))) hk rfl rfl rfl fun a hk => ?_
    show wpList _ _ _ [] _ _
    refine wpList_nil ?_
    refine hK36 _ _ ?_
    rcases cond_some H with ⟨c37, H⟩ | ⟨c37, H⟩
    ·have hk := hk.lit 10 c37 rfl
     refine cnd_true hk rfl rfl ?_
     refine wp_skip ?_
     refine hK35 _ _ ?_
     apply wp_seq_k; intro K38 hK38
     refine wp_block ?_
     apply wp_seq_k; intro K39 hK39
     obtain ⟨o42, h43, HL44⟩ := bind_some H
     clear H
     obtain ⟨R45, hR45⟩ : ∃ R : Act → World → Prop, R = fun a w => ∃ (u41 : Bool), u41 = o42 ∧ Kn [(0, (.string x0)), (3, (.slice A20 u17.length p21)), (4, (.int .i64 u15)), (5, (.int .i64 u16)), (22, (.bool u41))] 36 a ∧ Sat [] w0 w [] [(1, k18)] := ⟨_, rfl⟩
     refine wp_cutq R45 ?_ ?_
     ·have H := h43
      apply wp_region_lit
      refine sm _ rfl hk rfl rfl rfl fun a hk => ?_
      refine sm _ rfl hk rfl rfl rfl fun a hk => ?_
      refine sles rfl hk rfl rfl rfl un9 fun a hk => ?_
      refine sv (.bool (u16 == (x0.size : Int))) hk rfl rfl rfl fun a hk => ?_
      refine sm _ rfl hk rfl rfl rfl fun a hk => ?_
      rcases cond_some H with ⟨c46, H⟩ | ⟨c46, H⟩
      ·have hk := hk.lit 17 c46 rfl
       refine sk hk rfl rfl rfl fun a hk => ?_
       refine sk hk rfl rfl rfl fun a hk => ?_
       refine sk hk rfl rfl rfl fun a hk => ?_
       refine sk hk rfl rfl rfl fun a hk => ?_
       refine sv (.bool true) hk rfl rfl rfl fun a hk => ?_
       show wpList _ _ _ [] _ _
       refine wpList_nil ?_
       obtain rfl := Option.some.inj H
       show R45 _ _
       rw [hR45]
       exact ⟨true, rfl, (hk.c 0 rfl (hk.c 3 rfl (hk.c 4 rfl (hk.c 5 rfl (hk.c 22 rfl hk.k))))), (hs.pick [(1, 1)] rfl)⟩
      ·have hk := hk.lit 17 c46 rfl
       refine sm _ rfl hk rfl rfl rfl fun a hk => ?_
       refine sm _ rfl hk rfl rfl rfl fun a hk => ?_
       rcases ite_some H with ⟨c47, H⟩ | ⟨_, H⟩
       rotate_left
       ·cases H
       refine six rfl hk rfl rfl rfl rfl un9 c47.1 c47.2 fun a hk => ?_
       refine sv (.bool ((byteAt x0 u16) == 32)) hk rfl rfl rfl fun a hk => ?_
       refine sv (.bool ((byteAt x0 u16) == 32)) hk rfl rfl rfl fun a hk => ?_
       show wpList _ _ _ [] _ _
       refine wpList_nil ?_
       obtain rfl := Option.some.inj H
       show R45 _ _
       rw [hR45]
       exact ⟨((byteAt x0 u16) == 32), rfl, (hk.c 0 rfl (hk.c 3 rfl (hk.c 4 rfl (hk.c 5 rfl (hk.c 22 rfl hk.k))))), (hs.pick [(1, 1)] rfl)⟩
     ·intro a w hR0
      rw [hR45] at hR0
      obtain ⟨u41, rfl, hk, hs⟩ := hR0
      have H := HL44
      try dsimp only at H
      refine hK39 _ _ ?_
      obtain ⟨o55, h56, HL57⟩ := bind_some H
      clear H
      obtain ⟨R58, hR58⟩ : ∃ R : Act → World → Prop, R = fun a w => ∃ (u49 : List ByteArray) (u54 : Int) (A52 : Option Addr) (p53 : Nat) (k50 : Chunk), (u49, u54) = o55 ∧ Kn [(0, (.string x0)), (3, (.slice A52 u49.length p53)), (4, (.int .i64 u54)), (5, (.int .i64 u16))] 36 a ∧ Sat [] w0 w [] [(1, k50)] ∧ Own Lay.str 9 A52 p53 u49 k50 := ⟨_, rfl⟩
      refine wp_cutq R58 ?_ ?_
      ·have H := h56
       rcases cond_some H with ⟨c59, H⟩ | ⟨c59, H⟩
       ·have hk := hk.lit 22 c59 rfl
        refine cnd_true hk rfl rfl ?_
        apply wp_seq_k; intro K60 hK60
        apply wp_seq_k; intro K61 hK61
        apply wp_region_lit
        refine sm _ rfl hk rfl rfl rfl fun a hk => ?_
        refine sm _ rfl hk rfl rfl rfl fun a hk => ?_
        refine sv (.bool (decide (u16 > u15))) hk rfl rfl rfl fun a hk => ?_
        show wpList _ _ _ [] _ _
        refine wpList_nil ?_
        refine hK61 _ _ ?_
        have hs := hs.pick [(1, 1)] rfl
        obtain ⟨o68, h69, HL70⟩ := bind_some H
        clear H
        obtain ⟨R71, hR71⟩ : ∃ R : Act → World → Prop, R = fun a w => ∃ (u63 : List ByteArray) (A66 : Option Addr) (p67 : Nat) (k64 : Chunk), u63 = o68 ∧ Kn [(0, (.string x0)), (3, (.slice A66 u63.length p67)), (5, (.int .i64 u16))] 36 a ∧ Sat [] w0 w [] [(1, k64)] ∧ Own Lay.str 9 A66 p67 u63 k64 := ⟨_, rfl⟩
        refine wp_cutq R71 ?_ ?_
        ·have H := h69
         rcases cond_some H with ⟨c72, H⟩ | ⟨c72, H⟩
         ·have hk := hk.lit 25 c72 rfl
          refine cnd_true hk rfl rfl ?_
          apply wp_region_lit
          refine sm _ rfl hk rfl rfl rfl fun a hk => ?_
          refine sm _ rfl hk rfl rfl rfl fun a hk => ?_
          refine sm _ rfl hk rfl rfl rfl fun a hk => ?_
          refine sm _ rfl hk rfl rfl rfl fun a hk => ?_
          rcases ite_some H with ⟨c73, H⟩ | ⟨_, H⟩
          rotate_left
          ·cases H
          refine ssl_lh rfl hk rfl rfl rfl rfl rfl un9 c73.1 c73.2.1 c73.2.2 fun a hk => ?_
          refine sbs (L := Lay.str) (pv := [(0, (.string (x0.extract u15.toNat u16.toNat)))]) (xs := [(x0.extract u15.toNat u16.toNat)]) (ess := [[.string (x0.extract u15.toNat u16.toNat)]]) 6 hs rfl hk rfl rfl rfl un59 (bs9_0 (x0.extract u15.toNat u16.toNat)) (AllOwn.cons0 ⟨rfl, rfl⟩ AllOwn.nil) rfl rfl rfl fun b74 k75 w a hk o76 hs => ?_
          rcases ite_some H with ⟨c77, H⟩ | ⟨_, H⟩
          rotate_left
          ·cases H
          refine sap 1 (xs := u17) (ys := [(x0.extract u15.toNat u16.toNat)]) (flat_flat : (Lay.str).Flat) hs rfl o19 o76.view (hs.hasG (k := 6) rfl) rfl hk rfl rfl rfl rfl rfl rfl un59 mk9 rfl rfl rfl c77 fun A78 p79 k80 w a hk o81 hs => ?_
          refine sa _ rfl hk rfl rfl rfl fun a hk => ?_
          show wpList _ _ _ [] _ _
          refine wpList_nil ?_
          obtain rfl := Option.some.inj H
          show R71 _ _
          rw [hR71]
          exact ⟨(u17 ++ ([(x0.extract u15.toNat u16.toNat)])), A78, p79, _, rfl, (hk.c 0 rfl (hk.c 3 rfl (hk.c 5 rfl hk.k))), (hs.pick [(1, 1)] rfl), o81⟩
         ·have hk := hk.lit 25 c72 rfl
          refine cnd_false hk rfl rfl ?_
          refine wp_skip ?_
          obtain rfl := Option.some.inj H
          show R71 _ _
          rw [hR71]
          exact ⟨u17, A20, p21, _, rfl, (hk.c 0 rfl (hk.c 3 rfl (hk.c 5 rfl hk.k))), (hs.pick [(1, 1)] rfl), o19⟩
        ·intro a w hR0
         rw [hR71] at hR0
         obtain ⟨u63, A66, p67, k64, rfl, hk, hs, o65⟩ := hR0
         have H := HL70
         try dsimp only at H
         refine hK60 _ _ ?_
         apply wp_region_lit
         refine sm _ rfl hk rfl rfl rfl fun a hk => ?_
         refine sv (.int .i64 (w64 (u16 + 1))) hk rfl rfl rfl fun a hk => ?_
         refine sa _ rfl hk rfl rfl rfl fun a hk => ?_
         show wpList _ _ _ [] _ _
         refine wpList_nil ?_
         obtain rfl := Option.some.inj H
         show R58 _ _
         rw [hR58]
         exact ⟨u63, (w64 (u16 + 1)), A66, p67, _, rfl, (hk.c 0 rfl (hk.c 3 rfl (hk.c 4 rfl (hk.c 5 rfl hk.k)))), (hs.pick [(1, 1)] rfl), o65⟩
       ·have hk := hk.lit 22 c59 rfl
        refine cnd_false hk rfl rfl ?_
        refine wp_skip ?_
        obtain rfl := Option.some.inj H
        show R58 _ _
        rw [hR58]
        exact ⟨u17, u15, A20, p21, _, rfl, (hk.c 0 rfl (hk.c 3 rfl (hk.c 4 rfl (hk.c 5 rfl hk.k)))), (hs.pick [(1, 1)] rfl), o19⟩
      ·intro a w hR0
       rw [hR58] at hR0
       obtain ⟨u49, u54, A52, p53, k50, rfl, hk, hs, o51⟩ := hR0
       have H := HL57
       try dsimp only at H
       refine hK38 _ _ ?_
       have hs := hs.pick [(1, 1)] rfl
       apply wp_region_lit
       refine sm _ rfl hk rfl rfl rfl fun a hk => ?_
       refine sv (.int .i64 (w64 (u16 + 1))) hk rfl rfl rfl fun a hk => ?_
       refine sa _ rfl hk rfl rfl rfl fun a hk => ?_
       show wpList _ _ _ [] _ _
       refine wpList_nil ?_
       obtain rfl := Option.some.inj H
       obtain ⟨m82, hmm82, h34⟩ := h34
       show ∃ n', n' < _ ∧ I31 n' _ _
       refine ⟨m82, hmm82, ?_⟩
       rw [hI31]
       exact ⟨u49, u54, (w64 (u16 + 1)), A52, p53, _, h34, (hk.c 0 rfl (hk.c 3 rfl (hk.c 4 rfl (hk.c 5 rfl hk.k)))), (hs.pick [(1, 1)] rfl), o51⟩
    ·have hk := hk.lit 10 c37 rfl
     refine cnd_false hk rfl rfl ?_
     refine wp_exit ?_
     obtain rfl := Option.some.inj H
     show R30 _ _
     rw [hR30]
     exact ⟨u17, A20, p21, _, h34.symm, (hk.c 3 rfl hk.k), (hs.pick [(1, 1)] rfl), o19⟩
  ·intro a w hR0
   rw [hR30] at hR0
   obtain ⟨u22, A25, p26, k23, rfl, hk, hs, o24⟩ := hR0
   have H := HL29
   try dsimp only at H
   refine hK7 _ _ ?_
   apply wp_seq_k; intro K83 hK83
   apply wp_region_lit
   refine sm _ rfl hk rfl rfl rfl fun a hk => ?_
   refine sa _ rfl hk rfl rfl rfl fun a hk => ?_
   show wpList _ _ _ [] _ _
   refine wpList_nil ?_
   refine hK83 _ _ ?_
   refine wp_ret ?_
   obtain rfl := Option.some.inj H
   exact fin hk _ [(.slice A25 u22.length p26)] rfl ⟨rfl, trivial⟩ ⟨A25, p26, _, rfl, o24, (hs.pick [(0, 1)] rfl).dnil⟩

noncomputable def spec_l09Words.f  : Option ((List ByteArray)) :=
  (some ([(⟨#[]⟩ : ByteArray), (⟨#[103, 101, 116]⟩ : ByteArray), (⟨#[112, 117, 116]⟩ : ByteArray), (⟨#[100, 114, 111, 112]⟩ : ByteArray), (⟨#[99, 104, 101, 99, 107]⟩ : ByteArray), (⟨#[97, 100, 100]⟩ : ByteArray), (⟨#[115, 99, 97, 110]⟩ : ByteArray)]))
set_option maxRecDepth 100000 in
set_option maxHeartbeats 0 in
theorem spec_l09Words_t (w0 : World)  (r : (List ByteArray)) (H : spec_l09Words.f  = some r) :
    Calls Tryz.prog 63 #[] w0 (Ret (fun v w => ∃ (A0 : Option Addr) (p0 : Nat) (k0 : Chunk), v = .slice A0 r.length p0 ∧ Own Lay.str 9 A0 p0 r k0 ∧ Sat [] w0 w [] [(0, k0)])) := by
  have hs : Sat [] w0 w0 [] [] := Sat.init w0 [] [] (by simp) (by simp) List.nodup_nil (by simp [blks])
  unfold spec_l09Words.f at H
  refine enter Tryz.func63 rfl Tryz.ntmps63 rfl fun a hk => ?_
  apply wp_seq_k; intro K1 hK1
  apply wp_region_lit
  refine sa _ rfl hk rfl rfl rfl fun a hk => ?_
  show wpList _ _ _ [] _ _
  refine wpList_nil ?_
  refine hK1 _ _ ?_
  apply wp_seq_k; intro K2 hK2
  apply wp_region_lit
  refine sbs (L := Lay.str) (pv := [(0, (.string (⟨#[]⟩ : ByteArray))), (1, (.string (⟨#[103, 101, 116]⟩ : ByteArray))), (2, (.string (⟨#[112, 117, 116]⟩ : ByteArray))), (3, (.string (⟨#[100, 114, 111, 112]⟩ : ByteArray))), (4, (.string (⟨#[99, 104, 101, 99, 107]⟩ : ByteArray))), (5, (.string (⟨#[97, 100, 100]⟩ : ByteArray))), (6, (.string (⟨#[115, 99, 97, 110]⟩ : ByteArray)))]) (xs := [(⟨#[]⟩ : ByteArray), (⟨#[103, 101, 116]⟩ : ByteArray), (⟨#[112, 117, 116]⟩ : ByteArray), (⟨#[100, 114, 111, 112]⟩ : ByteArray), (⟨#[99, 104, 101, 99, 107]⟩ : ByteArray), (⟨#[97, 100, 100]⟩ : ByteArray), (⟨#[115, 99, 97, 110]⟩ : ByteArray)]) (ess := [[.string (⟨#[]⟩ : ByteArray)], [.string (⟨#[103, 101, 116]⟩ : ByteArray)], [.string (⟨#[112, 117, 116]⟩ : ByteArray)], [.string (⟨#[100, 114, 111, 112]⟩ : ByteArray)], [.string (⟨#[99, 104, 101, 99, 107]⟩ : ByteArray)], [.string (⟨#[97, 100, 100]⟩ : ByteArray)], [.string (⟨#[115, 99, 97, 110]⟩ : ByteArray)]]) 1 hs rfl hk rfl rfl rfl un59 (bs9_1 (⟨#[]⟩ : ByteArray) (⟨#[103, 101, 116]⟩ : ByteArray) (⟨#[112, 117, 116]⟩ : ByteArray) (⟨#[100, 114, 111, 112]⟩ : ByteArray) (⟨#[99, 104, 101, 99, 107]⟩ : ByteArray) (⟨#[97, 100, 100]⟩ : ByteArray) (⟨#[115, 99, 97, 110]⟩ : ByteArray)) (AllOwn.cons0 ⟨rfl, rfl⟩ (AllOwn.cons0 ⟨rfl, rfl⟩ (AllOwn.cons0 ⟨rfl, rfl⟩ (AllOwn.cons0 ⟨rfl, rfl⟩ (AllOwn.cons0 ⟨rfl, rfl⟩ (AllOwn.cons0 ⟨rfl, rfl⟩ (AllOwn.cons0 ⟨rfl, rfl⟩ AllOwn.nil))))))) rfl rfl rfl fun b3 k4 w a hk o5 hs => ?_
  refine sa _ rfl hk rfl rfl rfl fun a hk => ?_
  show wpList _ _ _ [] _ _
  refine wpList_nil ?_
  refine hK2 _ _ ?_
  refine wp_ret ?_
  obtain rfl := Option.some.inj H
  exact fin hk _ [(.slice (some ⟨b3, 0, none⟩) 7 7)] rfl ⟨rfl, trivial⟩ ⟨(some ⟨b3, 0, none⟩), 7, _, rfl, o5, (hs.pick [(0, 1)] rfl).dnil⟩

noncomputable def spec_l00Digits.g : Nat → Int → Option (ByteArray)
  | 0, _ => none
  | n + 1, x0 => (bif (x0 == (-9223372036854775808)) then (some (⟨#[45, 57, 50, 50, 51, 51, 55, 50, 48, 51, 54, 56, 53, 52, 55, 55, 53, 56, 48, 56]⟩ : ByteArray)) else (bif (decide (x0 < 0)) then ((spec_l00Digits.g n (w64 (0 - x0))).bind fun y10 => (if (⟨#[45]⟩ : ByteArray).size + y10.size ≤ 1152921504606846976 then (some ((⟨#[45]⟩ : ByteArray) ++ y10)) else none)) else (bif (decide (x0 < 10)) then (some (strOfNums ([(IntKind.wrap .u8 (w64 (48 + x0)))]))) else ((spec_l00Digits.g n (IntKind.wrap .i64 (Int.tdiv x0 10))).bind fun y22 => (if y22.size + (strOfNums ([(IntKind.wrap .u8 (w64 (48 + (Int.tmod x0 10))))])).size ≤ 1152921504606846976 then (some (y22 ++ (strOfNums ([(IntKind.wrap .u8 (w64 (48 + (Int.tmod x0 10))))])))) else none)))))
noncomputable def spec_l00Digits.f (x0 : Int) : Option (ByteArray) := recO (fun n => spec_l00Digits.g n x0)
set_option maxRecDepth 100000 in
set_option maxHeartbeats 0 in
theorem spec_l00Digits_n : ∀ (n : Nat) (w0 : World) (x0 : Int) (r : ByteArray) (H : spec_l00Digits.g n x0 = some r), Calls Tryz.prog 75 #[.int .i64 x0] w0 (Ret (fun v w => v = .string r ∧ Sat [] w0 w [] [])) := by
  intro n
  induction n with
  | zero => intro w0 x0 r H; rw [spec_l00Digits.g] at H; cases H
  | succ n ih =>
  intro w0 x0 r H
  have hs : Sat [] w0 w0 [] [] := Sat.init w0 [] [] (by simp) (by simp) List.nodup_nil (by simp [blks])
  rw [spec_l00Digits.g] at H
  refine enter Tryz.func75 rfl Tryz.ntmps75 rfl fun a hk => ?_
  apply wp_seq_k; intro K1 hK1
  apply wp_region_lit
  refine sa _ rfl hk rfl rfl rfl fun a hk => ?_
  show wpList _ _ _ [] _ _
  refine wpList_nil ?_
  refine hK1 _ _ ?_
  apply wp_seq_k; intro K2 hK2
  apply wp_seq_k; intro K3 hK3
  apply wp_region_lit
  refine sm _ rfl hk rfl rfl rfl fun a hk => ?_
  refine sv (.bool (x0 == (-9223372036854775808))) hk rfl rfl rfl fun a hk => ?_
  show wpList _ _ _ [] _ _
  refine wpList_nil ?_
  refine hK3 _ _ ?_
  rcases cond_some H with ⟨c4, H⟩ | ⟨c4, H⟩
  ·have hk := hk.lit 4 c4 rfl
   refine cnd_true hk rfl rfl ?_
   apply wp_seq_k; intro K5 hK5
   apply wp_region_lit
   refine sa _ rfl hk rfl rfl rfl fun a hk => ?_
   show wpList _ _ _ [] _ _
   refine wpList_nil ?_
   refine hK5 _ _ ?_
   refine wp_ret ?_
   obtain rfl := Option.some.inj H
   exact fin hk _ [(.string (⟨#[45, 57, 50, 50, 51, 51, 55, 50, 48, 51, 54, 56, 53, 52, 55, 55, 53, 56, 48, 56]⟩ : ByteArray))] rfl ⟨rfl, trivial⟩ ⟨rfl, (hs.pick [] rfl).dnil⟩
  ·have hk := hk.lit 4 c4 rfl
   refine cnd_false hk rfl rfl ?_
   refine wp_skip ?_
   refine hK2 _ _ ?_
   apply wp_seq_k; intro K6 hK6
   apply wp_seq_k; intro K7 hK7
   apply wp_region_lit
   refine sm _ rfl hk rfl rfl rfl fun a hk => ?_
   refine sv (.bool (decide (x0 < 0))) hk rfl rfl rfl fun a hk => ?_
   show wpList _ _ _ [] _ _
   refine wpList_nil ?_
   refine hK7 _ _ ?_
   have hs := hs.pick [] rfl
   rcases cond_some H with ⟨c8, H⟩ | ⟨c8, H⟩
   ·have hk := hk.lit 6 c8 rfl
    refine cnd_true hk rfl rfl ?_
    apply wp_seq_k; intro K9 hK9
    apply wp_region_lit
    refine sm _ rfl hk rfl rfl rfl fun a hk => ?_
    refine sv (.int .i64 (w64 (0 - x0))) hk rfl rfl rfl fun a hk => ?_
    obtain ⟨y10, h11, H⟩ := bind_some H
    refine sc rfl en75 hk rfl rfl rfl (ih _ (w64 (0 - x0)) _ h11) ?_
    rintro _ w ⟨rfl, hG⟩ a hk
    have hs := hs.call0 hG
    rcases ite_some H with ⟨c12, H⟩ | ⟨_, H⟩
    rotate_left
    ·cases H
    refine ssa rfl hk rfl rfl rfl rfl c12 fun a hk => ?_
    refine sa _ rfl hk rfl rfl rfl fun a hk => ?_
    show wpList _ _ _ [] _ _
    refine wpList_nil ?_
    refine hK9 _ _ ?_
    refine wp_ret ?_
    obtain rfl := Option.some.inj H
    exact fin hk _ [(.string ((⟨#[45]⟩ : ByteArray) ++ y10))] rfl ⟨rfl, trivial⟩ ⟨rfl, (hs.pick [] rfl).dnil⟩
   ·have hk := hk.lit 6 c8 rfl
    refine cnd_false hk rfl rfl ?_
    refine wp_skip ?_
    refine hK6 _ _ ?_
    apply wp_seq_k; intro K13 hK13
    apply wp_seq_k; intro K14 hK14
    apply wp_region_lit
    refine sm _ rfl hk rfl rfl rfl fun a hk => ?_
    refine sv (.bool (decide (x0 < 10))) hk rfl rfl rfl fun a hk => ?_
    show wpList _ _ _ [] _ _
    refine wpList_nil ?_
    refine hK14 _ _ ?_
    rcases cond_some H with ⟨c15, H⟩ | ⟨c15, H⟩
    ·have hk := hk.lit 12 c15 rfl
     refine cnd_true hk rfl rfl ?_
     apply wp_seq_k; intro K16 hK16
     apply wp_region_lit
     refine sm _ rfl hk rfl rfl rfl fun a hk => ?_
     refine sv (.int .i64 (w64 (48 + x0))) hk rfl rfl rfl fun a hk => ?_
     refine scn rfl hk rfl rfl rfl un5 un3 fun a hk => ?_
     refine sbs (L := (Lay.int .u8)) (pv := [(0, (.int .u8 (IntKind.wrap .u8 (w64 (48 + x0)))))]) (xs := [(IntKind.wrap .u8 (w64 (48 + x0)))]) (ess := [[.int .u8 (IntKind.wrap .u8 (w64 (48 + x0)))]]) 1 hs rfl hk rfl rfl rfl un28 (bs5_2 (IntKind.wrap .u8 (w64 (48 + x0)))) (AllOwn.cons0 ⟨rfl, rfl⟩ AllOwn.nil) rfl rfl rfl fun b17 k18 w a hk o19 hs => ?_
     refine sbt (xs := ([(IntKind.wrap .u8 (w64 (48 + x0)))])) rfl hk rfl rfl rfl rfl un28 un5 un9 o19.view (hs.hasG (k := 1) rfl) fun a hk => ?_
     refine sa _ rfl hk rfl rfl rfl fun a hk => ?_
     show wpList _ _ _ [] _ _
     refine wpList_nil ?_
     refine hK16 _ _ ?_
     refine wp_ret ?_
     obtain rfl := Option.some.inj H
     exact fin hk _ [(.string (strOfNums ([(IntKind.wrap .u8 (w64 (48 + x0)))])))] rfl ⟨rfl, trivial⟩ ⟨rfl, (hs.pick [] rfl).dnil⟩
    ·have hk := hk.lit 12 c15 rfl
     refine cnd_false hk rfl rfl ?_
     refine wp_skip ?_
     refine hK13 _ _ ?_
     apply wp_seq_k; intro K20 hK20
     refine wp_region_tree (.q 0 (.q 1 (.q 2 (.alt 3 (.alt 4 (.alt 5 (.alt 6 (.alt 7 (.alt 8 (.alt 9 (.last 10) .stop) .stop) .stop) .stop) .stop) .stop) .stop)))) mo (by kernel_rfl) (hs.pick [] rfl) fun _ => ?_
     have hs := hs.drew
     refine tqst (.int .i64 x0) hk rfl rfl rfl rfl (fun w hs => sm _ rfl hk rfl rfl rfl fun a hk => qe hk) fun a hk => ?_
     refine tqst (.int .i64 (IntKind.wrap .i64 (Int.tdiv x0 10))) hk rfl rfl rfl rfl (fun w hs => sv (.int .i64 (IntKind.wrap .i64 (Int.tdiv x0 10))) hk rfl rfl rfl fun a hk => qe hk) fun a hk => ?_
     obtain ⟨y22, h23, H⟩ := bind_some H
     refine tqst (.string y22) hk rfl rfl rfl rfl (fun w hs => sc rfl en75 hk rfl rfl rfl (ih _ (IntKind.wrap .i64 (Int.tdiv x0 10)) _ h23) fun _ w hR a hk => qc hR hk) fun a hk => ?_
     refine tsst hk rfl rfl (fun K_r21_3 hK_r21_3 w hF => ?_) wt_stop
     have hs := hs.f hF
     refine sm _ rfl hk rfl rfl rfl fun a hk => ?_
     refine se (hs.pick [] rfl) hk (hK_r21_3 _ _ ?_)
     refine tsst hk rfl rfl (fun K_r21_4 hK_r21_4 w hF => ?_) wt_stop
     have hs := hs.f hF
     refine sv (.int .i64 (Int.tmod x0 10)) hk rfl rfl rfl fun a hk => ?_
     refine se (hs.pick [] rfl) hk (hK_r21_4 _ _ ?_)
     refine tsst hk rfl rfl (fun K_r21_5 hK_r21_5 w hF => ?_) wt_stop
     have hs := hs.f hF
     refine sv (.int .i64 (w64 (48 + (Int.tmod x0 10)))) hk rfl rfl rfl fun a hk => ?_
     refine se (hs.pick [] rfl) hk (hK_r21_5 _ _ ?_)
     refine tsst hk rfl rfl (fun K_r21_6 hK_r21_6 w hF => ?_) wt_stop
     have hs := hs.f hF
     refine scn rfl hk rfl rfl rfl un5 un3 fun a hk => ?_
     refine se (hs.pick [] rfl) hk (hK_r21_6 _ _ ?_)
     refine tsst hk rfl rfl (fun K_r21_7 hK_r21_7 w hF => ?_) wt_stop
     have hs := hs.f hF
     refine sbs (L := (Lay.int .u8)) (pv := [(0, (.int .u8 (IntKind.wrap .u8 (w64 (48 + (Int.tmod x0 10))))))]) (xs := [(IntKind.wrap .u8 (w64 (48 + (Int.tmod x0 10))))]) (ess := [[.int .u8 (IntKind.wrap .u8 (w64 (48 + (Int.tmod x0 10))))]]) 3 hs rfl hk rfl rfl rfl un28 (bs5_2 (IntKind.wrap .u8 (w64 (48 + (Int.tmod x0 10))))) (AllOwn.cons0 ⟨rfl, rfl⟩ AllOwn.nil) rfl rfl rfl fun b24 k25 w a hk o26 hs => ?_
     refine se (hs.pick [] rfl) hk (hK_r21_7 _ _ ?_)
     refine tsst hk rfl rfl (fun K_r21_8 hK_r21_8 w hF => ?_) wt_stop
     have hs := hs.f hF
     refine sbt (xs := ([(IntKind.wrap .u8 (w64 (48 + (Int.tmod x0 10))))])) rfl hk rfl rfl rfl rfl un28 un5 un9 o26.view (hs.hasG (k := 3) rfl) fun a hk => ?_
     refine se (hs.pick [] rfl) hk (hK_r21_8 _ _ ?_)
     refine tsst hk rfl rfl (fun K_r21_9 hK_r21_9 w hF => ?_) wt_stop
     have hs := hs.f hF
     rcases ite_some H with ⟨c27, H⟩ | ⟨_, H⟩
     rotate_left
     ·cases H
     refine ssa rfl hk rfl rfl rfl rfl c27 fun a hk => ?_
     refine se (hs.pick [] rfl) hk (hK_r21_9 _ _ ?_)
     refine tlst hk rfl rfl fun K_r21_10 hK_r21_10 w hF => ?_
     have hs := hs.f hF
     refine sa _ rfl hk rfl rfl rfl fun a hk => ?_
     refine se trivial hk (hK_r21_10 _ _ fun w hF => ?_)
     have hs := hs.f hF
     refine hK20 _ _ ?_
     have hs := hs.pick [] rfl
     refine wp_ret ?_
     obtain rfl := Option.some.inj H
     exact fin hk _ [(.string (y22 ++ (strOfNums ([(IntKind.wrap .u8 (w64 (48 + (Int.tmod x0 10))))]))))] rfl ⟨rfl, trivial⟩ ⟨rfl, (hs.pick [] rfl).dnil⟩
set_option maxRecDepth 100000 in
set_option maxHeartbeats 0 in
theorem spec_l00Digits_t (w0 : World) (x0 : Int) (r : ByteArray) (H : spec_l00Digits.f x0 = some r) :
    Calls Tryz.prog 75 #[.int .i64 x0] w0 (Ret (fun v w => v = .string r ∧ Sat [] w0 w [] [])) := by
  obtain ⟨n, H⟩ := recO_some H
  exact spec_l00Digits_n n w0 x0 r H

noncomputable def spec_l00Number.s0 (u14 : ByteArray) (u43 : Int) (u44 : Int) : Option ((Int × Int) ⊕ Ex (Int) (Int × Bool)) :=
  (bif (decide (u44 < (u14.size : Int))) then (((if 0 ≤ u44 ∧ u44 < (u14.size : Int) then (bif (decide ((byteAt u14 u44) < 48)) then (some true) else (if 0 ≤ u44 ∧ u44 < (u14.size : Int) then (some (decide ((byteAt u14 u44) > 57))) else none)) else none) : Option (Bool)).bind fun u61 => (bif u61 then (some (.inr (.ret (0, false)))) else (if 0 ≤ u44 ∧ u44 < (u14.size : Int) then (some (.inl ((w64 ((w64 ((w64 (u43 * 10)) + (IntKind.wrap .i64 (byteAt u14 u44)))) - 48)), (w64 (u44 + 1))))) else none))) else (some (.inr (.out u43))))
noncomputable def spec_l00Number.f (x0 : ByteArray) : Option (Int × Bool) :=
  (((bif (decide ((x0.size : Int) > 0)) then (if 0 ≤ (0 : Int) ∧ (0 : Int) < (x0.size : Int) then (some ((byteAt x0 (0 : Int)) == 45)) else none) else (some false)) : Option (Bool)).bind fun u6 => (((bif u6 then (if 0 ≤ (1 : Int) ∧ (1 : Int) ≤ (x0.size : Int) then (some ((x0.extract (1 : Int).toNat x0.size), (-1))) else none) else (some (x0, 1))) : Option (ByteArray × Int)).bind fun o => match o with | (u14, u15) => (((bif ((u14.size : Int) == 0) then (some true) else (bif (decide ((u14.size : Int) > 18)) then (some true) else (if 0 ≤ (0 : Int) ∧ (0 : Int) < (u14.size : Int) then (bif ((byteAt u14 (0 : Int)) == 48) then (bif (decide ((u14.size : Int) > 1)) then (some true) else (some (decide (u15 < 0)))) else (some false)) else none))) : Option (Bool)).bind fun u26 => (bif u26 then (some (0, false)) else ((loopO (fun s => spec_l00Number.s0 u14 s.1 s.2) (0, 0)).bind fun o => match o with | .out u45 => (some ((w64 (u15 * u45)), true)) | .ret r => (some r))))))
set_option maxRecDepth 100000 in
set_option maxHeartbeats 0 in
theorem spec_l00Number_t (w0 : World) (x0 : ByteArray) (r : Int × Bool) (H : spec_l00Number.f x0 = some r) :
    Calls Tryz.prog 83 #[.string x0] w0 (Ret (fun v w => v = .tuple #[.int .i64 r.1, .bool r.2] ∧ Sat [] w0 w [] [])) := by
  have hs : Sat [] w0 w0 [] [] := Sat.init w0 [] [] (by simp) (by simp) List.nodup_nil (by simp [blks])
  unfold spec_l00Number.f at H
  refine enter Tryz.func83 rfl Tryz.ntmps83 rfl fun a hk => ?_
  apply wp_seq_k; intro K1 hK1
  apply wp_region_lit
  refine sa _ rfl hk rfl rfl rfl fun a hk => ?_
  refine sa _ rfl hk rfl rfl rfl fun a hk => ?_
  show wpList _ _ _ [] _ _
  refine wpList_nil ?_
  refine hK1 _ _ ?_
  apply wp_seq_k; intro K2 hK2
  apply wp_region_lit
  refine sa _ rfl hk rfl rfl rfl fun a hk => ?_
  show wpList _ _ _ [] _ _
  refine wpList_nil ?_
  refine hK2 _ _ ?_
  apply wp_seq_k; intro K3 hK3
  apply wp_seq_k; intro K4 hK4
  obtain ⟨o7, h8, HL9⟩ := bind_some H
  clear H
  obtain ⟨R10, hR10⟩ : ∃ R : Act → World → Prop, R = fun a w => ∃ (u6 : Bool), u6 = o7 ∧ Kn [(0, (.string x0)), (4, (.int .i64 1)), (14, (.bool u6))] 66 a ∧ Sat [] w0 w [] [] := ⟨_, rfl⟩
  refine wp_cutq R10 ?_ ?_
  ·have H := h8
   apply wp_region_lit
   refine sm _ rfl hk rfl rfl rfl fun a hk => ?_
   refine sles rfl hk rfl rfl rfl un9 fun a hk => ?_
   refine sv (.bool (decide ((x0.size : Int) > 0))) hk rfl rfl rfl fun a hk => ?_
   refine sm _ rfl hk rfl rfl rfl fun a hk => ?_
   rcases cond_some H with ⟨c11, H⟩ | ⟨c11, H⟩
   ·have hk := hk.lit 10 c11 rfl
    refine sm _ rfl hk rfl rfl rfl fun a hk => ?_
    rcases ite_some H with ⟨c12, H⟩ | ⟨_, H⟩
    rotate_left
    ·cases H
    refine six rfl hk rfl rfl rfl rfl un9 c12.1 c12.2 fun a hk => ?_
    refine sv (.bool ((byteAt x0 (0 : Int)) == 45)) hk rfl rfl rfl fun a hk => ?_
    refine sv (.bool ((byteAt x0 (0 : Int)) == 45)) hk rfl rfl rfl fun a hk => ?_
    show wpList _ _ _ [] _ _
    refine wpList_nil ?_
    obtain rfl := Option.some.inj H
    show R10 _ _
    rw [hR10]
    exact ⟨((byteAt x0 (0 : Int)) == 45), rfl, (hk.c 0 rfl (hk.c 4 rfl (hk.c 14 rfl hk.k))), (hs.pick [] rfl)⟩
   ·have hk := hk.lit 10 c11 rfl
    refine sk hk rfl rfl rfl fun a hk => ?_
    refine sk hk rfl rfl rfl fun a hk => ?_
    refine sk hk rfl rfl rfl fun a hk => ?_
    refine sv (.bool false) hk rfl rfl rfl fun a hk => ?_
    show wpList _ _ _ [] _ _
    refine wpList_nil ?_
    obtain rfl := Option.some.inj H
    show R10 _ _
    rw [hR10]
    exact ⟨false, rfl, (hk.c 0 rfl (hk.c 4 rfl (hk.c 14 rfl hk.k))), (hs.pick [] rfl)⟩
  ·intro a w hR0
   rw [hR10] at hR0
   obtain ⟨u6, rfl, hk, hs⟩ := hR0
   have H := HL9
   try dsimp only at H
   refine hK4 _ _ ?_
   obtain ⟨o16, h17, HL18⟩ := bind_some H
   clear H
   obtain ⟨R19, hR19⟩ : ∃ R : Act → World → Prop, R = fun a w => ∃ (u14 : ByteArray) (u15 : Int), (u14, u15) = o16 ∧ Kn [(0, (.string u14)), (4, (.int .i64 u15))] 66 a ∧ Sat [] w0 w [] [] := ⟨_, rfl⟩
   refine wp_cutq R19 ?_ ?_
   ·have H := h17
    rcases cond_some H with ⟨c20, H⟩ | ⟨c20, H⟩
    ·have hk := hk.lit 14 c20 rfl
     refine cnd_true hk rfl rfl ?_
     apply wp_seq_k; intro K21 hK21
     apply wp_region_lit
     refine sa _ rfl hk rfl rfl rfl fun a hk => ?_
     show wpList _ _ _ [] _ _
     refine wpList_nil ?_
     refine hK21 _ _ ?_
     have hs := hs.pick [] rfl
     apply wp_region_lit
     refine sm _ rfl hk rfl rfl rfl fun a hk => ?_
     rcases ite_some H with ⟨c22, H⟩ | ⟨_, H⟩
     rotate_left
     ·cases H
     refine ssl_l rfl hk rfl rfl rfl rfl un9 c22.1 c22.2 fun a hk => ?_
     refine sa _ rfl hk rfl rfl rfl fun a hk => ?_
     show wpList _ _ _ [] _ _
     refine wpList_nil ?_
     obtain rfl := Option.some.inj H
     show R19 _ _
     rw [hR19]
     exact ⟨(x0.extract (1 : Int).toNat x0.size), (-1), rfl, (hk.c 0 rfl (hk.c 4 rfl hk.k)), (hs.pick [] rfl)⟩
    ·have hk := hk.lit 14 c20 rfl
     refine cnd_false hk rfl rfl ?_
     refine wp_skip ?_
     obtain rfl := Option.some.inj H
     show R19 _ _
     rw [hR19]
     exact ⟨x0, 1, rfl, (hk.c 0 rfl (hk.c 4 rfl hk.k)), (hs.pick [] rfl)⟩
   ·intro a w hR0
    rw [hR19] at hR0
    obtain ⟨u14, u15, rfl, hk, hs⟩ := hR0
    have H := HL18
    try dsimp only at H
    refine hK3 _ _ ?_
    have hs := hs.pick [] rfl
    apply wp_seq_k; intro K23 hK23
    apply wp_seq_k; intro K24 hK24
    obtain ⟨o27, h28, HL29⟩ := bind_some H
    clear H
    obtain ⟨R30, hR30⟩ : ∃ R : Act → World → Prop, R = fun a w => ∃ (u26 : Bool), u26 = o27 ∧ Kn [(0, (.string u14)), (4, (.int .i64 u15)), (38, (.bool u26))] 66 a ∧ Sat [] w0 w [] [] := ⟨_, rfl⟩
    refine wp_cutq R30 ?_ ?_
    ·have H := h28
     apply wp_region_lit
     refine sm _ rfl hk rfl rfl rfl fun a hk => ?_
     refine sles rfl hk rfl rfl rfl un9 fun a hk => ?_
     refine sv (.bool ((u14.size : Int) == 0)) hk rfl rfl rfl fun a hk => ?_
     refine sm _ rfl hk rfl rfl rfl fun a hk => ?_
     rcases cond_some H with ⟨c31, H⟩ | ⟨c31, H⟩
     ·have hk := hk.lit 20 c31 rfl
      refine sk hk rfl rfl rfl fun a hk => ?_
      refine sk hk rfl rfl rfl fun a hk => ?_
      refine sk hk rfl rfl rfl fun a hk => ?_
      refine sv (.bool true) hk rfl rfl rfl fun a hk => ?_
      refine sm _ rfl hk rfl rfl rfl fun a hk => ?_
      refine sk hk rfl rfl rfl fun a hk => ?_
      refine sk hk rfl rfl rfl fun a hk => ?_
      refine sk hk rfl rfl rfl fun a hk => ?_
      refine sk hk rfl rfl rfl fun a hk => ?_
      refine sk hk rfl rfl rfl fun a hk => ?_
      refine sk hk rfl rfl rfl fun a hk => ?_
      refine sk hk rfl rfl rfl fun a hk => ?_
      refine sk hk rfl rfl rfl fun a hk => ?_
      refine sk hk rfl rfl rfl fun a hk => ?_
      refine sk hk rfl rfl rfl fun a hk => ?_
      refine sk hk rfl rfl rfl fun a hk => ?_
      refine sk hk rfl rfl rfl fun a hk => ?_
      refine sv (.bool true) hk rfl rfl rfl fun a hk => ?_
      show wpList _ _ _ [] _ _
      refine wpList_nil ?_
      obtain rfl := Option.some.inj H
      show R30 _ _
      rw [hR30]
      exact ⟨true, rfl, (hk.c 0 rfl (hk.c 4 rfl (hk.c 38 rfl hk.k))), (hs.pick [] rfl)⟩
     ·have hk := hk.lit 20 c31 rfl
      refine sm _ rfl hk rfl rfl rfl fun a hk => ?_
      refine sles rfl hk rfl rfl rfl un9 fun a hk => ?_
      refine sv (.bool (decide ((u14.size : Int) > 18))) hk rfl rfl rfl fun a hk => ?_
      refine sv (.bool (decide ((u14.size : Int) > 18))) hk rfl rfl rfl fun a hk => ?_
      refine sm _ rfl hk rfl rfl rfl fun a hk => ?_
      rcases cond_some H with ⟨c32, H⟩ | ⟨c32, H⟩
      ·have hk := hk.lit 25 c32 rfl
       refine sk hk rfl rfl rfl fun a hk => ?_
       refine sk hk rfl rfl rfl fun a hk => ?_
       refine sk hk rfl rfl rfl fun a hk => ?_
       refine sk hk rfl rfl rfl fun a hk => ?_
       refine sk hk rfl rfl rfl fun a hk => ?_
       refine sk hk rfl rfl rfl fun a hk => ?_
       refine sk hk rfl rfl rfl fun a hk => ?_
       refine sk hk rfl rfl rfl fun a hk => ?_
       refine sk hk rfl rfl rfl fun a hk => ?_
       refine sk hk rfl rfl rfl fun a hk => ?_
       refine sk hk rfl rfl rfl fun a hk => ?_
       refine sk hk rfl rfl rfl fun a hk => ?_
       refine sv (.bool true) hk rfl rfl rfl fun a hk => ?_
       show wpList _ _ _ [] _ _
       refine wpList_nil ?_
       obtain rfl := Option.some.inj H
       show R30 _ _
       rw [hR30]
       exact ⟨true, rfl, (hk.c 0 rfl (hk.c 4 rfl (hk.c 38 rfl hk.k))), (hs.pick [] rfl)⟩
      ·have hk := hk.lit 25 c32 rfl
       refine sm _ rfl hk rfl rfl rfl fun a hk => ?_
       rcases ite_some H with ⟨c33, H⟩ | ⟨_, H⟩
       rotate_left
       ·cases H
       refine six rfl hk rfl rfl rfl rfl un9 c33.1 c33.2 fun a hk => ?_
       refine sv (.bool ((byteAt u14 (0 : Int)) == 48)) hk rfl rfl rfl fun a hk => ?_
       refine sm _ rfl hk rfl rfl rfl fun a hk => ?_
       rcases cond_some H with ⟨c34, H⟩ | ⟨c34, H⟩
       ·have hk := hk.lit 29 c34 rfl
        refine sm _ rfl hk rfl rfl rfl fun a hk => ?_
        refine sles rfl hk rfl rfl rfl un9 fun a hk => ?_
        refine sv (.bool (decide ((u14.size : Int) > 1))) hk rfl rfl rfl fun a hk => ?_
        refine sm _ rfl hk rfl rfl rfl fun a hk => ?_
        rcases cond_some H with ⟨c35, H⟩ | ⟨c35, H⟩
        ·have hk := hk.lit 33 c35 rfl
         refine sk hk rfl rfl rfl fun a hk => ?_
         refine sk hk rfl rfl rfl fun a hk => ?_
         refine sv (.bool true) hk rfl rfl rfl fun a hk => ?_
         refine sv (.bool true) hk rfl rfl rfl fun a hk => ?_
         refine sv (.bool true) hk rfl rfl rfl fun a hk => ?_
         show wpList _ _ _ [] _ _
         refine wpList_nil ?_
         obtain rfl := Option.some.inj H
         show R30 _ _
         rw [hR30]
         exact ⟨true, rfl, (hk.c 0 rfl (hk.c 4 rfl (hk.c 38 rfl hk.k))), (hs.pick [] rfl)⟩
        ·have hk := hk.lit 33 c35 rfl
         refine sm _ rfl hk rfl rfl rfl fun a hk => ?_
         refine sv (.bool (decide (u15 < 0))) hk rfl rfl rfl fun a hk => ?_
         refine sv (.bool (decide (u15 < 0))) hk rfl rfl rfl fun a hk => ?_
         refine sv (.bool (decide (u15 < 0))) hk rfl rfl rfl fun a hk => ?_
         refine sv (.bool (decide (u15 < 0))) hk rfl rfl rfl fun a hk => ?_
         show wpList _ _ _ [] _ _
         refine wpList_nil ?_
         obtain rfl := Option.some.inj H
         show R30 _ _
         rw [hR30]
         exact ⟨(decide (u15 < 0)), rfl, (hk.c 0 rfl (hk.c 4 rfl (hk.c 38 rfl hk.k))), (hs.pick [] rfl)⟩
       ·have hk := hk.lit 29 c34 rfl
        refine sk hk rfl rfl rfl fun a hk => ?_
        refine sk hk rfl rfl rfl fun a hk => ?_
        refine sk hk rfl rfl rfl fun a hk => ?_
        refine sk hk rfl rfl rfl fun a hk => ?_
        refine sk hk rfl rfl rfl fun a hk => ?_
        refine sk hk rfl rfl rfl fun a hk => ?_
        refine sk hk rfl rfl rfl fun a hk => ?_
        refine sv (.bool false) hk rfl rfl rfl fun a hk => ?_
        refine sv (.bool false) hk rfl rfl rfl fun a hk => ?_
        show wpList _ _ _ [] _ _
        refine wpList_nil ?_
        obtain rfl := Option.some.inj H
        show R30 _ _
        rw [hR30]
        exact ⟨false, rfl, (hk.c 0 rfl (hk.c 4 rfl (hk.c 38 rfl hk.k))), (hs.pick [] rfl)⟩
    ·intro a w hR0
     rw [hR30] at hR0
     obtain ⟨u26, rfl, hk, hs⟩ := hR0
     have H := HL29
     try dsimp only at H
     refine hK24 _ _ ?_
     rcases cond_some H with ⟨c36, H⟩ | ⟨c36, H⟩
     ·have hk := hk.lit 38 c36 rfl
      refine cnd_true hk rfl rfl ?_
      apply wp_seq_k; intro K37 hK37
      apply wp_region_lit
      refine sa _ rfl hk rfl rfl rfl fun a hk => ?_
      refine sa _ rfl hk rfl rfl rfl fun a hk => ?_
      show wpList _ _ _ [] _ _
      refine wpList_nil ?_
      refine hK37 _ _ ?_
      refine wp_ret ?_
      obtain rfl := Option.some.inj H
      exact fin hk _ [(.int .i64 0), (.bool false)] rfl ⟨rfl, ⟨rfl, trivial⟩⟩ ⟨rfl, (hs.pick [] rfl).dnil⟩
     ·have hk := hk.lit 38 c36 rfl
      refine cnd_false hk rfl rfl ?_
      refine wp_skip ?_
      refine hK23 _ _ ?_
      apply wp_seq_k; intro K38 hK38
      apply wp_region_lit
      refine sa _ rfl hk rfl rfl rfl fun a hk => ?_
      show wpList _ _ _ [] _ _
      refine wpList_nil ?_
      refine hK38 _ _ ?_
      apply wp_seq_k; intro K39 hK39
      apply wp_seq_k; intro K40 hK40
      apply wp_region_lit
      refine sa _ rfl hk rfl rfl rfl fun a hk => ?_
      show wpList _ _ _ [] _ _
      refine wpList_nil ?_
      refine hK40 _ _ ?_
      have hs := hs.pick [] rfl
      obtain ⟨o46, h47, HL48⟩ := bind_some H
      clear H
      obtain ⟨R49, hR49⟩ : ∃ R : Act → World → Prop, R = fun a w => ∃ (u45 : Int), o46 = .out u45 ∧ Kn [(4, (.int .i64 u15)), (5, (.int .i64 u45))] 66 a ∧ Sat [] w0 w [] [] := ⟨_, rfl⟩
      refine wp_cutq R49 ?_ ?_
      ·refine wp_block ?_
       obtain ⟨fu51, h47⟩ := loopO_some h47
       obtain ⟨I50, hI50⟩ : ∃ I : Nat → Act → World → Prop, I = fun fu a w => ∃ (u43 : Int) (u44 : Int), loopN (fun s => spec_l00Number.s0 u14 s.1 s.2) fu (u43, u44) = some o46 ∧ Kn [(0, (.string u14)), (4, (.int .i64 u15)), (5, (.int .i64 u43)), (6, (.int .i64 u44))] 66 a ∧ Sat [] w0 w [] [] := ⟨_, rfl⟩
       refine wp_loop_ghost I50 fu51 ?_ ?_
       ·rw [hI50]
        exact ⟨0, 0, h47, (hk.c 0 rfl (hk.c 4 rfl (hk.c 5 rfl (hk.c 6 rfl hk.k)))), (hs.pick [] rfl)⟩
       ·clear h47 hk hs
        intro fu51 a w hI0
        rw [hI50] at hI0
        obtain ⟨u43, u44, hi, hk, hs⟩ := hI0
        obtain ⟨x52, H, h53⟩ := loop_round hi
        try dsimp only at H
        unfold spec_l00Number.s0 at H
        apply wp_seq_k; intro K54 hK54
        apply wp_seq_k; intro K55 hK55
        apply wp_region_lit
        refine sm _ rfl hk rfl rfl rfl fun a hk => ?_
        refine sm _ rfl hk rfl rfl rfl fun a hk => ?_
        refine sles rfl hk rfl rfl rfl un9 fun a hk => ?_
        refine sv (.bool (decide (u44 < (u14.size : Int)))) hk rfl rfl rfl fun a hk => ?_
        show wpList _ _ _ [] _ _
        refine wpList_nil ?_
        refine hK55 _ _ ?_
        rcases cond_some H with ⟨c56, H⟩ | ⟨c56, H⟩
        ·have hk := hk.lit 42 c56 rfl
         refine cnd_true hk rfl rfl ?_
         refine wp_skip ?_
         refine hK54 _ _ ?_
         apply wp_seq_k; intro K57 hK57
         refine wp_block ?_
         apply wp_seq_k; intro K58 hK58
         apply wp_seq_k; intro K59 hK59
         obtain ⟨o62, h63, HL64⟩ := bind_some H
         clear H
         obtain ⟨R65, hR65⟩ : ∃ R : Act → World → Prop, R = fun a w => ∃ (u61 : Bool), u61 = o62 ∧ Kn [(0, (.string u14)), (4, (.int .i64 u15)), (5, (.int .i64 u43)), (6, (.int .i64 u44)), (54, (.bool u61))] 66 a ∧ Sat [] w0 w [] [] := ⟨_, rfl⟩
         refine wp_cutq R65 ?_ ?_
         ·have H := h63
          apply wp_region_lit
          refine sm _ rfl hk rfl rfl rfl fun a hk => ?_
          refine sm _ rfl hk rfl rfl rfl fun a hk => ?_
          rcases ite_some H with ⟨c66, H⟩ | ⟨_, H⟩
          rotate_left
          ·cases H
          refine six rfl hk rfl rfl rfl rfl un9 c66.1 c66.2 fun a hk => ?_
          refine sv (.bool (decide ((byteAt u14 u44) < 48))) hk rfl rfl rfl fun a hk => ?_
          refine sm _ rfl hk rfl rfl rfl fun a hk => ?_
          rcases cond_some H with ⟨c67, H⟩ | ⟨c67, H⟩
          ·have hk := hk.lit 49 c67 rfl
           refine sk hk rfl rfl rfl fun a hk => ?_
           refine sk hk rfl rfl rfl fun a hk => ?_
           refine sk hk rfl rfl rfl fun a hk => ?_
           refine sk hk rfl rfl rfl fun a hk => ?_
           refine sv (.bool true) hk rfl rfl rfl fun a hk => ?_
           show wpList _ _ _ [] _ _
           refine wpList_nil ?_
           obtain rfl := Option.some.inj H
           show R65 _ _
           rw [hR65]
           exact ⟨true, rfl, (hk.c 0 rfl (hk.c 4 rfl (hk.c 5 rfl (hk.c 6 rfl (hk.c 54 rfl hk.k))))), (hs.pick [] rfl)⟩
          ·have hk := hk.lit 49 c67 rfl
           refine sm _ rfl hk rfl rfl rfl fun a hk => ?_
           refine sm _ rfl hk rfl rfl rfl fun a hk => ?_
           rcases ite_some H with ⟨c68, H⟩ | ⟨_, H⟩
           rotate_left
           ·cases H
           refine six rfl hk rfl rfl rfl rfl un9 c68.1 c68.2 fun a hk => ?_
           refine sv (.bool (decide ((byteAt u14 u44) > 57))) hk rfl rfl rfl fun a hk => ?_
           refine sv (.bool (decide ((byteAt u14 u44) > 57))) hk rfl rfl rfl fun a hk => ?_
           show wpList _ _ _ [] _ _
           refine wpList_nil ?_
           obtain rfl := Option.some.inj H
           show R65 _ _
           rw [hR65]
           exact ⟨(decide ((byteAt u14 u44) > 57)), rfl, (hk.c 0 rfl (hk.c 4 rfl (hk.c 5 rfl (hk.c 6 rfl (hk.c 54 rfl hk.k))))), (hs.pick [] rfl)⟩
         ·intro a w hR0
          rw [hR65] at hR0
          obtain ⟨u61, rfl, hk, hs⟩ := hR0
          have H := HL64
          try dsimp only at H
          refine hK59 _ _ ?_
          rcases cond_some H with ⟨c69, H⟩ | ⟨c69, H⟩
          ·have hk := hk.lit 54 c69 rfl
           refine cnd_true hk rfl rfl ?_
           apply wp_seq_k; intro K70 hK70
           apply wp_region_lit
           refine sa _ rfl hk rfl rfl rfl fun a hk => ?_
           refine sa _ rfl hk rfl rfl rfl fun a hk => ?_
           show wpList _ _ _ [] _ _
           refine wpList_nil ?_
           refine hK70 _ _ ?_
           have hs := hs.pick [] rfl
           refine wp_ret ?_
           obtain rfl := Option.some.inj H
           have ho46 := h53
           try dsimp only at ho46
           subst ho46
           have H := HL48
           try dsimp only at H
           obtain rfl := Option.some.inj H
           exact fin hk _ [(.int .i64 0), (.bool false)] rfl ⟨rfl, ⟨rfl, trivial⟩⟩ ⟨rfl, (hs.pick [] rfl).dnil⟩
          ·have hk := hk.lit 54 c69 rfl
           refine cnd_false hk rfl rfl ?_
           refine wp_skip ?_
           refine hK58 _ _ ?_
           have hs := hs.pick [] rfl
           apply wp_region_lit
           refine sm _ rfl hk rfl rfl rfl fun a hk => ?_
           refine sv (.int .i64 (w64 (u43 * 10))) hk rfl rfl rfl fun a hk => ?_
           refine sm _ rfl hk rfl rfl rfl fun a hk => ?_
           refine sm _ rfl hk rfl rfl rfl fun a hk => ?_
           rcases ite_some H with ⟨c71, H⟩ | ⟨_, H⟩
           rotate_left
           ·cases H
           refine six rfl hk rfl rfl rfl rfl un9 c71.1 c71.2 fun a hk => ?_
           refine scn rfl hk rfl rfl rfl un3 un5 fun a hk => ?_
           refine sv (.int .i64 (w64 ((w64 (u43 * 10)) + (IntKind.wrap .i64 (byteAt u14 u44))))) hk rfl rfl rfl fun a hk => ?_
           refine sv (.int .i64 (w64 ((w64 ((w64 (u43 * 10)) + (IntKind.wrap .i64 (byteAt u14 u44)))) - 48))) hk rfl rfl rfl fun a hk => ?_
           refine sa _ rfl hk rfl rfl rfl fun a hk => ?_
           show wpList _ _ _ [] _ _
           refine wpList_nil ?_
           refine hK57 _ _ ?_
           apply wp_region_lit
           refine sm _ rfl hk rfl rfl rfl fun a hk => ?_
           refine sv (.int .i64 (w64 (u44 + 1))) hk rfl rfl rfl fun a hk => ?_
           refine sa _ rfl hk rfl rfl rfl fun a hk => ?_
           show wpList _ _ _ [] _ _
           refine wpList_nil ?_
           obtain rfl := Option.some.inj H
           obtain ⟨m72, hmm72, h53⟩ := h53
           show ∃ n', n' < _ ∧ I50 n' _ _
           refine ⟨m72, hmm72, ?_⟩
           rw [hI50]
           exact ⟨(w64 ((w64 ((w64 (u43 * 10)) + (IntKind.wrap .i64 (byteAt u14 u44)))) - 48)), (w64 (u44 + 1)), h53, (hk.c 0 rfl (hk.c 4 rfl (hk.c 5 rfl (hk.c 6 rfl hk.k)))), (hs.pick [] rfl)⟩
        ·have hk := hk.lit 42 c56 rfl
         refine cnd_false hk rfl rfl ?_
         refine wp_exit ?_
         obtain rfl := Option.some.inj H
         show R49 _ _
         rw [hR49]
         exact ⟨u43, h53.symm, (hk.c 4 rfl (hk.c 5 rfl hk.k)), (hs.pick [] rfl)⟩
      ·intro a w hR0
       rw [hR49] at hR0
       obtain ⟨u45, rfl, hk, hs⟩ := hR0
       have H := HL48
       try dsimp only at H
       refine hK39 _ _ ?_
       apply wp_seq_k; intro K73 hK73
       apply wp_region_lit
       refine sm _ rfl hk rfl rfl rfl fun a hk => ?_
       refine sm _ rfl hk rfl rfl rfl fun a hk => ?_
       refine sv (.int .i64 (w64 (u15 * u45))) hk rfl rfl rfl fun a hk => ?_
       refine sa _ rfl hk rfl rfl rfl fun a hk => ?_
       refine sa _ rfl hk rfl rfl rfl fun a hk => ?_
       show wpList _ _ _ [] _ _
       refine wpList_nil ?_
       refine hK73 _ _ ?_
       refine wp_ret ?_
       obtain rfl := Option.some.inj H
       exact fin hk _ [(.int .i64 (w64 (u15 * u45))), (.bool true)] rfl ⟨rfl, ⟨rfl, trivial⟩⟩ ⟨rfl, (hs.pick [] rfl).dnil⟩

noncomputable def spec_l09Number.f (x0 : ByteArray) : Option (Int × Bool) :=
  ((spec_l00Number.f x0).bind fun y3 => (((bif y3.2 then (bif (decide (y3.1 ≥ 0)) then ((spec_l00Digits.f y3.1).bind fun y15 => (some (y3.1, (y15.toList == x0.toList)))) else (some (y3.1, false))) else (some (y3.1, false))) : Option (Int × Bool)).bind fun o => match o with | (u7, u8) => (some (u7, u8))))
set_option maxRecDepth 100000 in
set_option maxHeartbeats 0 in
theorem spec_l09Number_t (w0 : World) (x0 : ByteArray) (r : Int × Bool) (H : spec_l09Number.f x0 = some r) :
    Calls Tryz.prog 64 #[.string x0] w0 (Ret (fun v w => v = .tuple #[.int .i64 r.1, .bool r.2] ∧ Sat [] w0 w [] [])) := by
  have hs : Sat [] w0 w0 [] [] := Sat.init w0 [] [] (by simp) (by simp) List.nodup_nil (by simp [blks])
  unfold spec_l09Number.f at H
  refine enter Tryz.func64 rfl Tryz.ntmps64 rfl fun a hk => ?_
  apply wp_seq_k; intro K1 hK1
  apply wp_region_lit
  refine sa _ rfl hk rfl rfl rfl fun a hk => ?_
  refine sa _ rfl hk rfl rfl rfl fun a hk => ?_
  show wpList _ _ _ [] _ _
  refine wpList_nil ?_
  refine hK1 _ _ ?_
  apply wp_seq_k; intro K2 hK2
  apply wp_region_lit
  refine sm _ rfl hk rfl rfl rfl fun a hk => ?_
  obtain ⟨y3, h4, H⟩ := bind_some H
  refine sc rfl en83 hk rfl rfl rfl (spec_l00Number_t _ x0 _ h4) ?_
  rintro _ w ⟨rfl, hG⟩ a hk
  have hs := hs.call0 hG
  refine sm _ rfl hk rfl rfl rfl fun a hk => ?_
  refine sv (.int .i64 y3.1) hk rfl rfl rfl fun a hk => ?_
  refine sv (.bool y3.2) hk rfl rfl rfl fun a hk => ?_
  refine sa _ rfl hk rfl rfl rfl fun a hk => ?_
  refine sa _ rfl hk rfl rfl rfl fun a hk => ?_
  show wpList _ _ _ [] _ _
  refine wpList_nil ?_
  refine hK2 _ _ ?_
  apply wp_seq_k; intro K5 hK5
  obtain ⟨o9, h10, HL11⟩ := bind_some H
  clear H
  obtain ⟨R12, hR12⟩ : ∃ R : Act → World → Prop, R = fun a w => ∃ (u7 : Int) (u8 : Bool), (u7, u8) = o9 ∧ Kn [(2, (.int .i64 u7)), (3, (.bool u8))] 23 a ∧ Sat [] w0 w [] [] := ⟨_, rfl⟩
  refine wp_cutq R12 ?_ ?_
  ·have H := h10
   apply wp_region_lit
   refine sm _ rfl hk rfl rfl rfl fun a hk => ?_
   refine sm _ rfl hk rfl rfl rfl fun a hk => ?_
   refine sm _ rfl hk rfl rfl rfl fun a hk => ?_
   rcases cond_some H with ⟨c13, H⟩ | ⟨c13, H⟩
   ·have hk := hk.lit 13 c13 rfl
    refine sm _ rfl hk rfl rfl rfl fun a hk => ?_
    refine sv (.bool (decide (y3.1 ≥ 0))) hk rfl rfl rfl fun a hk => ?_
    refine sv (.bool (decide (y3.1 ≥ 0))) hk rfl rfl rfl fun a hk => ?_
    refine sm _ rfl hk rfl rfl rfl fun a hk => ?_
    rcases cond_some H with ⟨c14, H⟩ | ⟨c14, H⟩
    ·have hk := hk.lit 17 c14 rfl
     refine sm _ rfl hk rfl rfl rfl fun a hk => ?_
     obtain ⟨y15, h16, H⟩ := bind_some H
     refine sc rfl en75 hk rfl rfl rfl (spec_l00Digits_t _ y3.1 _ h16) ?_
     rintro _ w ⟨rfl, hG⟩ a hk
     have hs := hs.call0 hG
     refine sm _ rfl hk rfl rfl rfl fun a hk => ?_
     refine sv (.bool (y15.toList == x0.toList)) hk rfl rfl rfl fun a hk => ?_
     refine sv (.bool (y15.toList == x0.toList)) hk rfl rfl rfl fun a hk => ?_
     refine sa _ rfl hk rfl rfl rfl fun a hk => ?_
     refine sa _ rfl hk rfl rfl rfl fun a hk => ?_
     show wpList _ _ _ [] _ _
     refine wpList_nil ?_
     obtain rfl := Option.some.inj H
     show R12 _ _
     rw [hR12]
     exact ⟨y3.1, (y15.toList == x0.toList), rfl, (hk.c 2 rfl (hk.c 3 rfl hk.k)), (hs.pick [] rfl)⟩
    ·have hk := hk.lit 17 c14 rfl
     refine sk hk rfl rfl rfl fun a hk => ?_
     refine sk hk rfl rfl rfl fun a hk => ?_
     refine sk hk rfl rfl rfl fun a hk => ?_
     refine sk hk rfl rfl rfl fun a hk => ?_
     refine sv (.bool false) hk rfl rfl rfl fun a hk => ?_
     refine sa _ rfl hk rfl rfl rfl fun a hk => ?_
     refine sa _ rfl hk rfl rfl rfl fun a hk => ?_
     show wpList _ _ _ [] _ _
     refine wpList_nil ?_
     obtain rfl := Option.some.inj H
     show R12 _ _
     rw [hR12]
     exact ⟨y3.1, false, rfl, (hk.c 2 rfl (hk.c 3 rfl hk.k)), (hs.pick [] rfl)⟩
   ·have hk := hk.lit 13 c13 rfl
    refine sk hk rfl rfl rfl fun a hk => ?_
    refine sk hk rfl rfl rfl fun a hk => ?_
    refine sv (.bool false) hk rfl rfl rfl fun a hk => ?_
    refine sm _ rfl hk rfl rfl rfl fun a hk => ?_
    refine sk hk rfl rfl rfl fun a hk => ?_
    refine sk hk rfl rfl rfl fun a hk => ?_
    refine sk hk rfl rfl rfl fun a hk => ?_
    refine sk hk rfl rfl rfl fun a hk => ?_
    refine sv (.bool false) hk rfl rfl rfl fun a hk => ?_
    refine sa _ rfl hk rfl rfl rfl fun a hk => ?_
    refine sa _ rfl hk rfl rfl rfl fun a hk => ?_
    show wpList _ _ _ [] _ _
    refine wpList_nil ?_
    obtain rfl := Option.some.inj H
    show R12 _ _
    rw [hR12]
    exact ⟨y3.1, false, rfl, (hk.c 2 rfl (hk.c 3 rfl hk.k)), (hs.pick [] rfl)⟩
  ·intro a w hR0
   rw [hR12] at hR0
   obtain ⟨u7, u8, rfl, hk, hs⟩ := hR0
   have H := HL11
   try dsimp only at H
   refine hK5 _ _ ?_
   refine wp_ret ?_
   obtain rfl := Option.some.inj H
   exact fin hk _ [(.int .i64 u7), (.bool u8)] rfl ⟨rfl, ⟨rfl, trivial⟩⟩ ⟨rfl, (hs.pick [] rfl).dnil⟩

noncomputable def spec_l01Bit.f (x0 : Bool) : Option (Int) :=
  (bif x0 then (some 1) else (some 0))
set_option maxRecDepth 100000 in
set_option maxHeartbeats 0 in
theorem spec_l01Bit_t (w0 : World) (x0 : Bool) (r : Int) (H : spec_l01Bit.f x0 = some r) :
    Calls Tryz.prog 65 #[.bool x0] w0 (Ret (fun v w => v = .int .i64 r ∧ Sat [] w0 w [] [])) := by
  have hs : Sat [] w0 w0 [] [] := Sat.init w0 [] [] (by simp) (by simp) List.nodup_nil (by simp [blks])
  unfold spec_l01Bit.f at H
  refine enter Tryz.func65 rfl Tryz.ntmps65 rfl fun a hk => ?_
  apply wp_seq_k; intro K1 hK1
  apply wp_region_lit
  refine sa _ rfl hk rfl rfl rfl fun a hk => ?_
  show wpList _ _ _ [] _ _
  refine wpList_nil ?_
  refine hK1 _ _ ?_
  apply wp_seq_k; intro K2 hK2
  apply wp_seq_k; intro K3 hK3
  apply wp_region_lit
  refine sm _ rfl hk rfl rfl rfl fun a hk => ?_
  show wpList _ _ _ [] _ _
  refine wpList_nil ?_
  refine hK3 _ _ ?_
  rcases cond_some H with ⟨c4, H⟩ | ⟨c4, H⟩
  ·have hk := hk.lit 3 c4 rfl
   refine cnd_true hk rfl rfl ?_
   apply wp_seq_k; intro K5 hK5
   apply wp_region_lit
   refine sa _ rfl hk rfl rfl rfl fun a hk => ?_
   show wpList _ _ _ [] _ _
   refine wpList_nil ?_
   refine hK5 _ _ ?_
   refine wp_ret ?_
   obtain rfl := Option.some.inj H
   exact fin hk _ [(.int .i64 1)] rfl ⟨rfl, trivial⟩ ⟨rfl, (hs.pick [] rfl).dnil⟩
  ·have hk := hk.lit 3 c4 rfl
   refine cnd_false hk rfl rfl ?_
   refine wp_skip ?_
   refine hK2 _ _ ?_
   apply wp_seq_k; intro K6 hK6
   apply wp_region_lit
   refine sa _ rfl hk rfl rfl rfl fun a hk => ?_
   show wpList _ _ _ [] _ _
   refine wpList_nil ?_
   refine hK6 _ _ ?_
   have hs := hs.pick [] rfl
   refine wp_ret ?_
   obtain rfl := Option.some.inj H
   exact fin hk _ [(.int .i64 0)] rfl ⟨rfl, trivial⟩ ⟨rfl, (hs.pick [] rfl).dnil⟩

noncomputable def spec_l09ToOp.s0 (y4 : (List ByteArray)) (y17 : (List ByteArray)) (u27 : Int) (u28 : Int) : Option ((Int × Int) ⊕ Ex (Int) (S_Op × Bool)) :=
  (bif (decide (u27 < (y17.length : Int))) then (if 0 ≤ u27 ∧ u27 < (y17.length : Int) then (if 0 ≤ (0 : Int) ∧ (0 : Int) < (y4.length : Int) then (((bif ((y17.getD u27.toNat ByteArray.empty).toList == (y4.getD (0 : Int).toNat ByteArray.empty).toList) then (some u27) else (some u28)) : Option (Int)).bind fun u53 => (some (.inl ((w64 (u27 + 1)), u53)))) else none) else none) else (some (.inr (.out u28))))
noncomputable def spec_l09ToOp.f (x0 : ByteArray) : Option (S_Op × Bool) :=
  ((spec_l00Words.f x0).bind fun y4 => (bif (decide ((y4.length : Int) < 2)) then (some ((⟨0, 0, 0⟩ : S_Op), false)) else ((spec_l09Words.f).bind fun y17 => ((loopO (fun s => spec_l09ToOp.s0 y4 y17 s.1 s.2) (1, 0)).bind fun o => match o with | .out u29 => (if 0 ≤ (1 : Int) ∧ (1 : Int) < (y4.length : Int) then ((spec_l09Number.f (y4.getD (1 : Int).toNat ByteArray.empty)).bind fun y65 => (((bif (u29 == 1) then ((spec_l01Bit.f true).bind fun y76 => (some (w64 (3 - y76)))) else ((spec_l01Bit.f (u29 == 3)).bind fun y78 => (some (w64 (3 - y78))))) : Option (Int)).bind fun u70 => (((bif (!y65.2) then (some true) else (some ((y4.length : Int) != u70))) : Option (Bool)).bind fun u83 => (bif u83 then (some ((⟨0, 0, 0⟩ : S_Op), false)) else (((bif (u70 == 3) then (if 0 ≤ (2 : Int) ∧ (2 : Int) < (y4.length : Int) then ((spec_l09Number.f (y4.getD (2 : Int).toNat ByteArray.empty)).bind fun y106 => (some (y106.2, y106.1))) else none) else (some (y65.2, 0))) : Option (Bool × Int)).bind fun o => match o with | (u94, u95) => (((bif (!u94) then (some true) else ((spec_OpOK.f (⟨u29, y65.1, u95⟩ : S_Op)).bind fun y118 => (some (!y118)))) : Option (Bool)).bind fun u112 => (bif u112 then (some ((⟨0, 0, 0⟩ : S_Op), false)) else (some ((⟨u29, y65.1, u95⟩ : S_Op), true))))))))) else none) | .ret r => (some r)))))
set_option maxRecDepth 100000 in
set_option maxHeartbeats 0 in
theorem spec_l09ToOp_t (w0 : World) (x0 : ByteArray) (r : S_Op × Bool) (H : spec_l09ToOp.f x0 = some r) :
    Calls Tryz.prog 39 #[.string x0] w0 (Ret (fun v w => v = .tuple #[.agg #[.int .i64 r.1.Kind, .int .i64 r.1.Key, .int .i64 r.1.Value], .bool r.2] ∧ Sat [] w0 w [] [])) := by
  have hs : Sat [] w0 w0 [] [] := Sat.init w0 [] [] (by simp) (by simp) List.nodup_nil (by simp [blks])
  unfold spec_l09ToOp.f at H
  refine enter Tryz.func39 rfl Tryz.ntmps39 rfl fun a hk => ?_
  apply wp_seq_k; intro K1 hK1
  apply wp_region_lit
  refine salx 1 hs rfl hk rfl rfl ze33 rfl fun b2 w a hk hs => ?_
  refine sa _ rfl hk rfl rfl rfl fun a hk => ?_
  show wpList _ _ _ [] _ _
  refine wpList_nil ?_
  refine hK1 _ _ ?_
  apply wp_seq_k; intro K3 hK3
  apply wp_region_lit
  refine sm _ rfl hk rfl rfl rfl fun a hk => ?_
  obtain ⟨y4, h5, H⟩ := bind_some H
  refine sc rfl en62 hk rfl rfl rfl (spec_l00Words_t _ x0 _ h5) ?_
  rintro _ w ⟨A6, p7, k8, rfl, o9, hG⟩ a hk
  have hs := hs.call0k hG [2] rfl
  refine sa _ rfl hk rfl rfl rfl fun a hk => ?_
  show wpList _ _ _ [] _ _
  refine wpList_nil ?_
  refine hK3 _ _ ?_
  apply wp_seq_k; intro K10 hK10
  apply wp_region_lit
  refine sbd (pv := []) rfl hk rfl rfl rfl bd33_3 fun a hk => ?_
  refine salx 3 hs rfl hk rfl rfl ze33 rfl fun b11 w a hk hs => ?_
  refine ssw 3 hs rfl rfl hk rfl rfl rfl rfl sz33 (by simp [Value.oneCell']) rfl fun w a hk hs => ?_
  show wpList _ _ _ [] _ _
  refine wpList_nil ?_
  refine hK10 _ _ ?_
  apply wp_seq_k; intro K12 hK12
  apply wp_seq_k; intro K13 hK13
  apply wp_region_lit
  refine sm _ rfl hk rfl rfl rfl fun a hk => ?_
  refine sle rfl hk rfl rfl rfl un59 fun a hk => ?_
  refine sv (.bool (decide ((y4.length : Int) < 2))) hk rfl rfl rfl fun a hk => ?_
  show wpList _ _ _ [] _ _
  refine wpList_nil ?_
  refine hK13 _ _ ?_
  have hs := hs.pick [(2, 2), (1, 1), (3, 3)] rfl
  rcases cond_some H with ⟨c14, H⟩ | ⟨c14, H⟩
  ·have hk := hk.lit 18 c14 rfl
   refine cnd_true hk rfl rfl ?_
   apply wp_seq_k; intro K15 hK15
   apply wp_region_lit
   refine sln [.int .i64 0, .int .i64 0, .int .i64 0] rfl hk rfl rfl rfl ag33 sz33 (box_cells hs (k := 3) rfl) fun a hk => ?_
   refine ssw 1 hs rfl rfl hk rfl rfl rfl rfl sz33 (by simp [Value.oneCell']) rfl fun w a hk hs => ?_
   refine sa _ rfl hk rfl rfl rfl fun a hk => ?_
   show wpList _ _ _ [] _ _
   refine wpList_nil ?_
   refine hK15 _ _ ?_
   refine wp_ret ?_
   obtain rfl := Option.some.inj H
   exact fin hk _ [(.agg #[.int .i64 0, .int .i64 0, .int .i64 0]), (.bool false)] rfl ⟨⟨_, rfl, run_loadN ag33 sz33 (box_cells hs (k := 1) rfl)⟩, ⟨rfl, trivial⟩⟩ ⟨rfl, (hs.pick [] rfl).dnil⟩
  ·have hk := hk.lit 18 c14 rfl
   refine cnd_false hk rfl rfl ?_
   refine wp_skip ?_
   refine hK12 _ _ ?_
   apply wp_seq_k; intro K16 hK16
   apply wp_region_lit
   obtain ⟨y17, h18, H⟩ := bind_some H
   refine sc rfl en63 hk rfl rfl rfl (spec_l09Words_t _ _ h18) ?_
   rintro _ w ⟨A19, p20, k21, rfl, o22, hG⟩ a hk
   have hs := hs.call0k hG [4] rfl
   refine sa _ rfl hk rfl rfl rfl fun a hk => ?_
   show wpList _ _ _ [] _ _
   refine wpList_nil ?_
   refine hK16 _ _ ?_
   apply wp_seq_k; intro K23 hK23
   apply wp_seq_k; intro K24 hK24
   apply wp_region_lit
   refine sa _ rfl hk rfl rfl rfl fun a hk => ?_
   show wpList _ _ _ [] _ _
   refine wpList_nil ?_
   refine hK24 _ _ ?_
   obtain ⟨o30, h31, HL32⟩ := bind_some H
   clear H
   obtain ⟨R33, hR33⟩ : ∃ R : Act → World → Prop, R = fun a w => ∃ (u29 : Int), o30 = .out u29 ∧ Kn [(2, (.pointer (some ⟨b2, 0, none⟩))), (4, (.slice A6 y4.length p7)), (5, (.pointer (some ⟨b11, 0, none⟩)))] 86 a ∧ Sat [] w0 w [] [(2, k8), (1, [(b2, .cells #[.int .i64 0, .int .i64 0, .int .i64 0] 33 (0, 0))]), (3, [(b11, .cells #[.int .i64 u29, .int .i64 0, .int .i64 0] 33 (0, 0))])] := ⟨_, rfl⟩
   refine wp_cutq R33 ?_ ?_
   ·refine wp_block ?_
    obtain ⟨fu35, h31⟩ := loopO_some h31
    obtain ⟨I34, hI34⟩ : ∃ I : Nat → Act → World → Prop, I = fun fu a w => ∃ (u27 : Int) (u28 : Int), loopN (fun s => spec_l09ToOp.s0 y4 y17 s.1 s.2) fu (u27, u28) = some o30 ∧ Kn [(2, (.pointer (some ⟨b2, 0, none⟩))), (4, (.slice A6 y4.length p7)), (5, (.pointer (some ⟨b11, 0, none⟩))), (6, (.slice A19 y17.length p20)), (7, (.int .i64 u27))] 86 a ∧ Sat [] w0 w [] [(2, k8), (4, k21), (1, [(b2, .cells #[.int .i64 0, .int .i64 0, .int .i64 0] 33 (0, 0))]), (3, [(b11, .cells #[.int .i64 u28, .int .i64 0, .int .i64 0] 33 (0, 0))])] := ⟨_, rfl⟩
    refine wp_loop_ghost I34 fu35 ?_ ?_
    ·rw [hI34]
     exact ⟨1, 0, h31, (hk.c 2 rfl (hk.c 4 rfl (hk.c 5 rfl (hk.c 6 rfl (hk.c 7 rfl hk.k))))), (hs.pick [(2, 2), (4, 4), (1, 1), (3, 3)] rfl)⟩
    ·clear h31 hk hs
     intro fu35 a w hI0
     rw [hI34] at hI0
     obtain ⟨u27, u28, hi, hk, hs⟩ := hI0
     obtain ⟨x36, H, h37⟩ := loop_round hi
     try dsimp only at H
     unfold spec_l09ToOp.s0 at H
     apply wp_seq_k; intro K38 hK38
     apply wp_seq_k; intro K39 hK39
     apply wp_region_lit
     refine sm _ rfl hk rfl rfl rfl fun a hk => ?_
     refine sm _ rfl hk rfl rfl rfl fun a hk => ?_
     refine sle rfl hk rfl rfl rfl un59 fun a hk => ?_
     refine sv (.bool (decide (u27 < (y17.length : Int)))) hk rfl rfl rfl fun a hk => ?_
     show wpList _ _ _ [] _ _
     refine wpList_nil ?_
     refine hK39 _ _ ?_
     have hs := hs.pick [(2, 2), (4, 4), (1, 1), (3, 3)] rfl
     rcases cond_some H with ⟨c40, H⟩ | ⟨c40, H⟩
     ·have hk := hk.lit 24 c40 rfl
      refine cnd_true hk rfl rfl ?_
      refine wp_skip ?_
      refine hK38 _ _ ?_
      apply wp_seq_k; intro K41 hK41
      refine wp_block ?_
      apply wp_seq_k; intro K42 hK42
      refine wp_region_tree (.q 0 (.q 1 (.q 2 (.q 3 (.alt 4 (.alt 5 (.alt 6 (.alt 7 .done .stop) .stop) .stop) .stop))))) mo (by kernel_rfl) (hs.pick [(2, 2), (4, 4), (1, 1), (3, 3)] rfl) fun _ => ?_
      have hs := hs.drew
      refine tqst (.slice A19 y17.length p20) hk rfl rfl rfl rfl (fun w hs => sm _ rfl hk rfl rfl rfl fun a hk => qe hk) fun a hk => ?_
      refine tqst (.int .i64 u27) hk rfl rfl rfl rfl (fun w hs => sm _ rfl hk rfl rfl rfl fun a hk => qe hk) fun a hk => ?_
      rcases ite_some H with ⟨c44, H⟩ | ⟨_, H⟩
      rotate_left
      ·cases H
      obtain ⟨b45, q46, hAc44⟩ := (o22.view).some_ u27 c44.1 c44.2
      refine tqst (.pointer (some (padd A19 (u27.toNat * 1)))) hk rfl rfl rfl rfl (fun w hs => si rfl hk rfl rfl rfl rfl un59 sz9 c44.1 c44.2 hAc44 fun a hk => qe hk) fun a hk => ?_
      obtain ⟨_, rfl, e47⟩ := (o22.view).at_ ByteArray.empty u27 c44.1 c44.2
      refine tqst (.string (y17.getD u27.toNat ByteArray.empty)) hk rfl rfl rfl rfl (fun w hs => sl (v := (.string (y17.getD u27.toNat ByteArray.empty))) rfl hk rfl rfl rfl ag9 ((e47 0 _ rfl).cell (hs.hasG (k := 4) rfl)) fun a hk => qe hk) fun a hk => ?_
      refine tsst hk rfl rfl (fun K_r43_4 hK_r43_4 w hF => ?_) wt_stop
      have hs := hs.f hF
      refine sm _ rfl hk rfl rfl rfl fun a hk => ?_
      refine se (hs.pick [(2, 2), (4, 4), (1, 1), (3, 3)] rfl) hk (hK_r43_4 _ _ ?_)
      refine tsst hk rfl rfl (fun K_r43_5 hK_r43_5 w hF => ?_) wt_stop
      have hs := hs.f hF
      rcases ite_some H with ⟨c48, H⟩ | ⟨_, H⟩
      rotate_left
      ·cases H
      obtain ⟨b49, q50, hAc48⟩ := (o9.view).some_ (0 : Int) c48.1 c48.2
      refine si rfl hk rfl rfl rfl rfl un59 sz9 c48.1 c48.2 hAc48 fun a hk => ?_
      refine se (hs.pick [(2, 2), (4, 4), (1, 1), (3, 3)] rfl) hk (hK_r43_5 _ _ ?_)
      refine tsst hk rfl rfl (fun K_r43_6 hK_r43_6 w hF => ?_) wt_stop
      have hs := hs.f hF
      obtain ⟨_, rfl, e51⟩ := (o9.view).at_ ByteArray.empty (0 : Int) c48.1 c48.2
      refine sl (v := (.string (y4.getD (0 : Int).toNat ByteArray.empty))) rfl hk rfl rfl rfl ag9 ((e51 0 _ rfl).cell (hs.hasG (k := 2) rfl)) fun a hk => ?_
      refine se (hs.pick [(2, 2), (4, 4), (1, 1), (3, 3)] rfl) hk (hK_r43_6 _ _ ?_)
      refine tsst hk rfl rfl (fun K_r43_7 hK_r43_7 w hF => ?_) wt_stop
      have hs := hs.f hF
      refine sv (.bool ((y17.getD u27.toNat ByteArray.empty).toList == (y4.getD (0 : Int).toNat ByteArray.empty).toList)) hk rfl rfl rfl fun a hk => ?_
      refine se (hs.pick [(2, 2), (4, 4), (1, 1), (3, 3)] rfl) hk (hK_r43_7 _ _ ?_)
      refine wtl_nil fun w hF _ => ?_
      have hs := hs.f hF
      refine hK42 _ _ ?_
      obtain ⟨o54, h55, HL56⟩ := bind_some H
      clear H
      obtain ⟨R57, hR57⟩ : ∃ R : Act → World → Prop, R = fun a w => ∃ (u53 : Int), u53 = o54 ∧ Kn [(2, (.pointer (some ⟨b2, 0, none⟩))), (4, (.slice A6 y4.length p7)), (5, (.pointer (some ⟨b11, 0, none⟩))), (6, (.slice A19 y17.length p20)), (7, (.int .i64 u27))] 86 a ∧ Sat [] w0 w [] [(2, k8), (4, k21), (1, [(b2, .cells #[.int .i64 0, .int .i64 0, .int .i64 0] 33 (0, 0))]), (3, [(b11, .cells #[.int .i64 u53, .int .i64 0, .int .i64 0] 33 (0, 0))])] := ⟨_, rfl⟩
      refine wp_cutq R57 ?_ ?_
      ·have H := h55
       rcases cond_some H with ⟨c58, H⟩ | ⟨c58, H⟩
       ·have hk := hk.lit 34 c58 rfl
        refine cnd_true hk rfl rfl ?_
        apply wp_region_lit
        refine sm _ rfl hk rfl rfl rfl fun a hk => ?_
        refine sf ⟨b11, 0, none⟩ rfl hk rfl rfl rfl fd33_0 rfl fun a hk => ?_
        refine ssx (cs' := #[.int .i64 u27, .int .i64 0, .int .i64 0]) 3 hs rfl rfl hk rfl rfl rfl rfl sz3 rfl rfl rfl rfl fun w a hk hs => ?_
        show wpList _ _ _ [] _ _
        refine wpList_nil ?_
        obtain rfl := Option.some.inj H
        show R57 _ _
        rw [hR57]
        exact ⟨u27, rfl, (hk.c 2 rfl (hk.c 4 rfl (hk.c 5 rfl (hk.c 6 rfl (hk.c 7 rfl hk.k))))), (hs.pick [(2, 2), (4, 4), (1, 1), (3, 3)] rfl)⟩
       ·have hk := hk.lit 34 c58 rfl
        refine cnd_false hk rfl rfl ?_
        refine wp_skip ?_
        obtain rfl := Option.some.inj H
        show R57 _ _
        rw [hR57]
        exact ⟨u28, rfl, (hk.c 2 rfl (hk.c 4 rfl (hk.c 5 rfl (hk.c 6 rfl (hk.c 7 rfl hk.k))))), (hs.pick [(2, 2), (4, 4), (1, 1), (3, 3)] rfl)⟩
      ·intro a w hR0
       rw [hR57] at hR0
       obtain ⟨u53, rfl, hk, hs⟩ := hR0
       have H := HL56
       try dsimp only at H
       refine hK41 _ _ ?_
       apply wp_region_lit
       refine sm _ rfl hk rfl rfl rfl fun a hk => ?_
       refine sv (.int .i64 (w64 (u27 + 1))) hk rfl rfl rfl fun a hk => ?_
       refine sa _ rfl hk rfl rfl rfl fun a hk => ?_
       show wpList _ _ _ [] _ _
       refine wpList_nil ?_
       obtain rfl := Option.some.inj H
       obtain ⟨m59, hmm59, h37⟩ := h37
       show ∃ n', n' < _ ∧ I34 n' _ _
       refine ⟨m59, hmm59, ?_⟩
       rw [hI34]
       exact ⟨(w64 (u27 + 1)), u53, h37, (hk.c 2 rfl (hk.c 4 rfl (hk.c 5 rfl (hk.c 6 rfl (hk.c 7 rfl hk.k))))), (hs.pick [(2, 2), (4, 4), (1, 1), (3, 3)] rfl)⟩
     ·have hk := hk.lit 24 c40 rfl
      refine cnd_false hk rfl rfl ?_
      refine wp_exit ?_
      obtain rfl := Option.some.inj H
      show R33 _ _
      rw [hR33]
      exact ⟨u28, h37.symm, (hk.c 2 rfl (hk.c 4 rfl (hk.c 5 rfl hk.k))), (hs.pick [(2, 2), (1, 1), (3, 3)] rfl)⟩
   ·intro a w hR0
    rw [hR33] at hR0
    obtain ⟨u29, rfl, hk, hs⟩ := hR0
    have H := HL32
    try dsimp only at H
    refine hK23 _ _ ?_
    have hs := hs.pick [(2, 2), (1, 1), (3, 3)] rfl
    apply wp_seq_k; intro K60 hK60
    apply wp_region_lit
    refine sm _ rfl hk rfl rfl rfl fun a hk => ?_
    rcases ite_some H with ⟨c61, H⟩ | ⟨_, H⟩
    rotate_left
    ·cases H
    obtain ⟨b62, q63, hAc61⟩ := (o9.view).some_ (1 : Int) c61.1 c61.2
    refine si rfl hk rfl rfl rfl rfl un59 sz9 c61.1 c61.2 hAc61 fun a hk => ?_
    obtain ⟨_, rfl, e64⟩ := (o9.view).at_ ByteArray.empty (1 : Int) c61.1 c61.2
    refine sl (v := (.string (y4.getD (1 : Int).toNat ByteArray.empty))) rfl hk rfl rfl rfl ag9 ((e64 0 _ rfl).cell (hs.hasG (k := 2) rfl)) fun a hk => ?_
    obtain ⟨y65, h66, H⟩ := bind_some H
    refine sc rfl en64 hk rfl rfl rfl (spec_l09Number_t _ (y4.getD (1 : Int).toNat ByteArray.empty) _ h66) ?_
    rintro _ w ⟨rfl, hG⟩ a hk
    have hs := hs.call0 hG
    refine sm _ rfl hk rfl rfl rfl fun a hk => ?_
    refine sv (.int .i64 y65.1) hk rfl rfl rfl fun a hk => ?_
    refine sv (.bool y65.2) hk rfl rfl rfl fun a hk => ?_
    refine sa _ rfl hk rfl rfl rfl fun a hk => ?_
    refine sa _ rfl hk rfl rfl rfl fun a hk => ?_
    show wpList _ _ _ [] _ _
    refine wpList_nil ?_
    refine hK60 _ _ ?_
    apply wp_seq_k; intro K67 hK67
    apply wp_region_lit
    refine sm _ rfl hk rfl rfl rfl fun a hk => ?_
    refine sf ⟨b11, 1, none⟩ rfl hk rfl rfl rfl fd33_1 rfl fun a hk => ?_
    refine ssx (cs' := #[.int .i64 u29, .int .i64 y65.1, .int .i64 0]) 3 hs rfl rfl hk rfl rfl rfl rfl sz3 rfl rfl rfl rfl fun w a hk hs => ?_
    show wpList _ _ _ [] _ _
    refine wpList_nil ?_
    refine hK67 _ _ ?_
    apply wp_seq_k; intro K68 hK68
    obtain ⟨o71, h72, HL73⟩ := bind_some H
    clear H
    obtain ⟨R74, hR74⟩ : ∃ R : Act → World → Prop, R = fun a w => ∃ (u70 : Int), u70 = o71 ∧ Kn [(2, (.pointer (some ⟨b2, 0, none⟩))), (4, (.slice A6 y4.length p7)), (5, (.pointer (some ⟨b11, 0, none⟩))), (9, (.bool y65.2)), (10, (.int .i64 u70))] 86 a ∧ Sat [] w0 w [] [(2, k8), (1, [(b2, .cells #[.int .i64 0, .int .i64 0, .int .i64 0] 33 (0, 0))]), (3, [(b11, .cells #[.int .i64 u29, .int .i64 y65.1, .int .i64 0] 33 (0, 0))])] := ⟨_, rfl⟩
    refine wp_cutq R74 ?_ ?_
    ·have H := h72
     apply wp_region_lit
     refine sf ⟨b11, 0, none⟩ rfl hk rfl rfl rfl fd33_0 rfl fun a hk => ?_
     refine sl rfl hk rfl rfl rfl ag3 (box_cell hs (k := 3) rfl rfl) fun a hk => ?_
     refine sv (.bool (u29 == 1)) hk rfl rfl rfl fun a hk => ?_
     refine sm _ rfl hk rfl rfl rfl fun a hk => ?_
     rcases cond_some H with ⟨c75, H⟩ | ⟨c75, H⟩
     ·have hk := hk.lit 49 c75 rfl
      refine sk hk rfl rfl rfl fun a hk => ?_
      refine sk hk rfl rfl rfl fun a hk => ?_
      refine sk hk rfl rfl rfl fun a hk => ?_
      refine sv (.bool true) hk rfl rfl rfl fun a hk => ?_
      obtain ⟨y76, h77, H⟩ := bind_some H
      refine sc rfl en65 hk rfl rfl rfl (spec_l01Bit_t _ true _ h77) ?_
      rintro _ w ⟨rfl, hG⟩ a hk
      have hs := hs.call0 hG
      refine sv (.int .i64 (w64 (3 - y76))) hk rfl rfl rfl fun a hk => ?_
      refine sa _ rfl hk rfl rfl rfl fun a hk => ?_
      show wpList _ _ _ [] _ _
      refine wpList_nil ?_
      obtain rfl := Option.some.inj H
      show R74 _ _
      rw [hR74]
      exact ⟨(w64 (3 - y76)), rfl, (hk.c 2 rfl (hk.c 4 rfl (hk.c 5 rfl (hk.c 9 rfl (hk.c 10 rfl hk.k))))), (hs.pick [(2, 2), (1, 1), (3, 3)] rfl)⟩
     ·have hk := hk.lit 49 c75 rfl
      refine sf ⟨b11, 0, none⟩ rfl hk rfl rfl rfl fd33_0 rfl fun a hk => ?_
      refine sl rfl hk rfl rfl rfl ag3 (box_cell hs (k := 3) rfl rfl) fun a hk => ?_
      refine sv (.bool (u29 == 3)) hk rfl rfl rfl fun a hk => ?_
      refine sv (.bool (u29 == 3)) hk rfl rfl rfl fun a hk => ?_
      obtain ⟨y78, h79, H⟩ := bind_some H
      refine sc rfl en65 hk rfl rfl rfl (spec_l01Bit_t _ (u29 == 3) _ h79) ?_
      rintro _ w ⟨rfl, hG⟩ a hk
      have hs := hs.call0 hG
      refine sv (.int .i64 (w64 (3 - y78))) hk rfl rfl rfl fun a hk => ?_
      refine sa _ rfl hk rfl rfl rfl fun a hk => ?_
      show wpList _ _ _ [] _ _
      refine wpList_nil ?_
      obtain rfl := Option.some.inj H
      show R74 _ _
      rw [hR74]
      exact ⟨(w64 (3 - y78)), rfl, (hk.c 2 rfl (hk.c 4 rfl (hk.c 5 rfl (hk.c 9 rfl (hk.c 10 rfl hk.k))))), (hs.pick [(2, 2), (1, 1), (3, 3)] rfl)⟩
    ·intro a w hR0
     rw [hR74] at hR0
     obtain ⟨u70, rfl, hk, hs⟩ := hR0
     have H := HL73
     try dsimp only at H
     refine hK68 _ _ ?_
     apply wp_seq_k; intro K80 hK80
     apply wp_seq_k; intro K81 hK81
     obtain ⟨o84, h85, HL86⟩ := bind_some H
     clear H
     obtain ⟨R87, hR87⟩ : ∃ R : Act → World → Prop, R = fun a w => ∃ (u83 : Bool), u83 = o84 ∧ Kn [(2, (.pointer (some ⟨b2, 0, none⟩))), (4, (.slice A6 y4.length p7)), (5, (.pointer (some ⟨b11, 0, none⟩))), (9, (.bool y65.2)), (10, (.int .i64 u70)), (63, (.bool u83))] 86 a ∧ Sat [] w0 w [] [(2, k8), (1, [(b2, .cells #[.int .i64 0, .int .i64 0, .int .i64 0] 33 (0, 0))]), (3, [(b11, .cells #[.int .i64 u29, .int .i64 y65.1, .int .i64 0] 33 (0, 0))])] := ⟨_, rfl⟩
     refine wp_cutq R87 ?_ ?_
     ·have H := h85
      apply wp_region_lit
      refine sm _ rfl hk rfl rfl rfl fun a hk => ?_
      refine sv (.bool (!y65.2)) hk rfl rfl rfl fun a hk => ?_
      refine sm _ rfl hk rfl rfl rfl fun a hk => ?_
      rcases cond_some H with ⟨c88, H⟩ | ⟨c88, H⟩
      ·have hk := hk.lit 58 c88 rfl
       refine sk hk rfl rfl rfl fun a hk => ?_
       refine sk hk rfl rfl rfl fun a hk => ?_
       refine sk hk rfl rfl rfl fun a hk => ?_
       refine sk hk rfl rfl rfl fun a hk => ?_
       refine sv (.bool true) hk rfl rfl rfl fun a hk => ?_
       show wpList _ _ _ [] _ _
       refine wpList_nil ?_
       obtain rfl := Option.some.inj H
       show R87 _ _
       rw [hR87]
       exact ⟨true, rfl, (hk.c 2 rfl (hk.c 4 rfl (hk.c 5 rfl (hk.c 9 rfl (hk.c 10 rfl (hk.c 63 rfl hk.k)))))), (hs.pick [(2, 2), (1, 1), (3, 3)] rfl)⟩
      ·have hk := hk.lit 58 c88 rfl
       refine sm _ rfl hk rfl rfl rfl fun a hk => ?_
       refine sle rfl hk rfl rfl rfl un59 fun a hk => ?_
       refine sm _ rfl hk rfl rfl rfl fun a hk => ?_
       refine sv (.bool ((y4.length : Int) != u70)) hk rfl rfl rfl fun a hk => ?_
       refine sv (.bool ((y4.length : Int) != u70)) hk rfl rfl rfl fun a hk => ?_
       show wpList _ _ _ [] _ _
       refine wpList_nil ?_
       obtain rfl := Option.some.inj H
       show R87 _ _
       rw [hR87]
       exact ⟨((y4.length : Int) != u70), rfl, (hk.c 2 rfl (hk.c 4 rfl (hk.c 5 rfl (hk.c 9 rfl (hk.c 10 rfl (hk.c 63 rfl hk.k)))))), (hs.pick [(2, 2), (1, 1), (3, 3)] rfl)⟩
     ·intro a w hR0
      rw [hR87] at hR0
      obtain ⟨u83, rfl, hk, hs⟩ := hR0
      have H := HL86
      try dsimp only at H
      refine hK81 _ _ ?_
      have hs := hs.pick [(2, 2), (1, 1), (3, 3)] rfl
      rcases cond_some H with ⟨c89, H⟩ | ⟨c89, H⟩
      ·have hk := hk.lit 63 c89 rfl
       refine cnd_true hk rfl rfl ?_
       apply wp_seq_k; intro K90 hK90
       apply wp_region_lit
       refine sbd (pv := []) rfl hk rfl rfl rfl bd33_3 fun a hk => ?_
       refine ssw 1 hs rfl rfl hk rfl rfl rfl rfl sz33 (by simp [Value.oneCell']) rfl fun w a hk hs => ?_
       refine sa _ rfl hk rfl rfl rfl fun a hk => ?_
       show wpList _ _ _ [] _ _
       refine wpList_nil ?_
       refine hK90 _ _ ?_
       refine wp_ret ?_
       obtain rfl := Option.some.inj H
       exact fin hk _ [(.agg #[.int .i64 0, .int .i64 0, .int .i64 0]), (.bool false)] rfl ⟨⟨_, rfl, run_loadN ag33 sz33 (box_cells hs (k := 1) rfl)⟩, ⟨rfl, trivial⟩⟩ ⟨rfl, (hs.pick [] rfl).dnil⟩
      ·have hk := hk.lit 63 c89 rfl
       refine cnd_false hk rfl rfl ?_
       refine wp_skip ?_
       refine hK80 _ _ ?_
       apply wp_seq_k; intro K91 hK91
       apply wp_seq_k; intro K92 hK92
       apply wp_region_lit
       refine sm _ rfl hk rfl rfl rfl fun a hk => ?_
       refine sv (.bool (u70 == 3)) hk rfl rfl rfl fun a hk => ?_
       show wpList _ _ _ [] _ _
       refine wpList_nil ?_
       refine hK92 _ _ ?_
       obtain ⟨o96, h97, HL98⟩ := bind_some H
       clear H
       obtain ⟨R99, hR99⟩ : ∃ R : Act → World → Prop, R = fun a w => ∃ (u94 : Bool) (u95 : Int), (u94, u95) = o96 ∧ Kn [(2, (.pointer (some ⟨b2, 0, none⟩))), (5, (.pointer (some ⟨b11, 0, none⟩))), (9, (.bool u94))] 86 a ∧ Sat [] w0 w [] [(1, [(b2, .cells #[.int .i64 0, .int .i64 0, .int .i64 0] 33 (0, 0))]), (3, [(b11, .cells #[.int .i64 u29, .int .i64 y65.1, .int .i64 u95] 33 (0, 0))])] := ⟨_, rfl⟩
       refine wp_cutq R99 ?_ ?_
       ·have H := h97
        rcases cond_some H with ⟨c100, H⟩ | ⟨c100, H⟩
        ·have hk := hk.lit 66 c100 rfl
         refine cnd_true hk rfl rfl ?_
         apply wp_seq_k; intro K101 hK101
         apply wp_region_lit
         refine sm _ rfl hk rfl rfl rfl fun a hk => ?_
         rcases ite_some H with ⟨c102, H⟩ | ⟨_, H⟩
         rotate_left
         ·cases H
         obtain ⟨b103, q104, hAc102⟩ := (o9.view).some_ (2 : Int) c102.1 c102.2
         refine si rfl hk rfl rfl rfl rfl un59 sz9 c102.1 c102.2 hAc102 fun a hk => ?_
         obtain ⟨_, rfl, e105⟩ := (o9.view).at_ ByteArray.empty (2 : Int) c102.1 c102.2
         refine sl (v := (.string (y4.getD (2 : Int).toNat ByteArray.empty))) rfl hk rfl rfl rfl ag9 ((e105 0 _ rfl).cell (hs.hasG (k := 2) rfl)) fun a hk => ?_
         obtain ⟨y106, h107, H⟩ := bind_some H
         refine sc rfl en64 hk rfl rfl rfl (spec_l09Number_t _ (y4.getD (2 : Int).toNat ByteArray.empty) _ h107) ?_
         rintro _ w ⟨rfl, hG⟩ a hk
         have hs := hs.call0 hG
         refine sm _ rfl hk rfl rfl rfl fun a hk => ?_
         refine sv (.int .i64 y106.1) hk rfl rfl rfl fun a hk => ?_
         refine sv (.bool y106.2) hk rfl rfl rfl fun a hk => ?_
         refine sa _ rfl hk rfl rfl rfl fun a hk => ?_
         refine sa _ rfl hk rfl rfl rfl fun a hk => ?_
         show wpList _ _ _ [] _ _
         refine wpList_nil ?_
         refine hK101 _ _ ?_
         apply wp_seq_k; intro K108 hK108
         apply wp_region_lit
         refine sm _ rfl hk rfl rfl rfl fun a hk => ?_
         refine sf ⟨b11, 2, none⟩ rfl hk rfl rfl rfl fd33_2 rfl fun a hk => ?_
         refine ssx (cs' := #[.int .i64 u29, .int .i64 y65.1, .int .i64 y106.1]) 3 hs rfl rfl hk rfl rfl rfl rfl sz3 rfl rfl rfl rfl fun w a hk hs => ?_
         show wpList _ _ _ [] _ _
         refine wpList_nil ?_
         refine hK108 _ _ ?_
         have hs := hs.pick [(1, 1), (3, 3)] rfl
         apply wp_region_lit
         refine sm _ rfl hk rfl rfl rfl fun a hk => ?_
         refine sa _ rfl hk rfl rfl rfl fun a hk => ?_
         show wpList _ _ _ [] _ _
         refine wpList_nil ?_
         obtain rfl := Option.some.inj H
         show R99 _ _
         rw [hR99]
         exact ⟨y106.2, y106.1, rfl, (hk.c 2 rfl (hk.c 5 rfl (hk.c 9 rfl hk.k))), (hs.pick [(1, 1), (3, 3)] rfl)⟩
        ·have hk := hk.lit 66 c100 rfl
         refine cnd_false hk rfl rfl ?_
         refine wp_skip ?_
         obtain rfl := Option.some.inj H
         show R99 _ _
         rw [hR99]
         exact ⟨y65.2, 0, rfl, (hk.c 2 rfl (hk.c 5 rfl (hk.c 9 rfl hk.k))), (hs.pick [(1, 1), (3, 3)] rfl)⟩
       ·intro a w hR0
        rw [hR99] at hR0
        obtain ⟨u94, u95, rfl, hk, hs⟩ := hR0
        have H := HL98
        try dsimp only at H
        refine hK91 _ _ ?_
        apply wp_seq_k; intro K109 hK109
        apply wp_seq_k; intro K110 hK110
        obtain ⟨o113, h114, HL115⟩ := bind_some H
        clear H
        obtain ⟨R116, hR116⟩ : ∃ R : Act → World → Prop, R = fun a w => ∃ (u112 : Bool), u112 = o113 ∧ Kn [(2, (.pointer (some ⟨b2, 0, none⟩))), (5, (.pointer (some ⟨b11, 0, none⟩))), (83, (.bool u112))] 86 a ∧ Sat [] w0 w [] [(1, [(b2, .cells #[.int .i64 0, .int .i64 0, .int .i64 0] 33 (0, 0))]), (3, [(b11, .cells #[.int .i64 u29, .int .i64 y65.1, .int .i64 u95] 33 (0, 0))])] := ⟨_, rfl⟩
        refine wp_cutq R116 ?_ ?_
        ·have H := h114
         apply wp_region_lit
         refine sm _ rfl hk rfl rfl rfl fun a hk => ?_
         refine sv (.bool (!u94)) hk rfl rfl rfl fun a hk => ?_
         refine sm _ rfl hk rfl rfl rfl fun a hk => ?_
         rcases cond_some H with ⟨c117, H⟩ | ⟨c117, H⟩
         ·have hk := hk.lit 79 c117 rfl
          refine sk hk rfl rfl rfl fun a hk => ?_
          refine sk hk rfl rfl rfl fun a hk => ?_
          refine sk hk rfl rfl rfl fun a hk => ?_
          refine sv (.bool true) hk rfl rfl rfl fun a hk => ?_
          show wpList _ _ _ [] _ _
          refine wpList_nil ?_
          obtain rfl := Option.some.inj H
          show R116 _ _
          rw [hR116]
          exact ⟨true, rfl, (hk.c 2 rfl (hk.c 5 rfl (hk.c 83 rfl hk.k))), (hs.pick [(1, 1), (3, 3)] rfl)⟩
         ·have hk := hk.lit 79 c117 rfl
          refine sln [.int .i64 u29, .int .i64 y65.1, .int .i64 u95] rfl hk rfl rfl rfl ag33 sz33 (box_cells hs (k := 3) rfl) fun a hk => ?_
          obtain ⟨y118, h119, H⟩ := bind_some H
          refine sc rfl en66 hk rfl rfl rfl (spec_OpOK_t _ (⟨u29, y65.1, u95⟩ : S_Op) _ h119) ?_
          rintro _ w ⟨rfl, hG⟩ a hk
          have hs := hs.call0 hG
          refine sv (.bool (!y118)) hk rfl rfl rfl fun a hk => ?_
          refine sv (.bool (!y118)) hk rfl rfl rfl fun a hk => ?_
          show wpList _ _ _ [] _ _
          refine wpList_nil ?_
          obtain rfl := Option.some.inj H
          show R116 _ _
          rw [hR116]
          exact ⟨(!y118), rfl, (hk.c 2 rfl (hk.c 5 rfl (hk.c 83 rfl hk.k))), (hs.pick [(1, 1), (3, 3)] rfl)⟩
        ·intro a w hR0
         rw [hR116] at hR0
         obtain ⟨u112, rfl, hk, hs⟩ := hR0
         have H := HL115
         try dsimp only at H
         refine hK110 _ _ ?_
         have hs := hs.pick [(1, 1), (3, 3)] rfl
         rcases cond_some H with ⟨c120, H⟩ | ⟨c120, H⟩
         ·have hk := hk.lit 83 c120 rfl
          refine cnd_true hk rfl rfl ?_
          apply wp_seq_k; intro K121 hK121
          apply wp_region_lit
          refine sbd (pv := []) rfl hk rfl rfl rfl bd33_3 fun a hk => ?_
          refine ssw 1 hs rfl rfl hk rfl rfl rfl rfl sz33 (by simp [Value.oneCell']) rfl fun w a hk hs => ?_
          refine sa _ rfl hk rfl rfl rfl fun a hk => ?_
          show wpList _ _ _ [] _ _
          refine wpList_nil ?_
          refine hK121 _ _ ?_
          refine wp_ret ?_
          obtain rfl := Option.some.inj H
          exact fin hk _ [(.agg #[.int .i64 0, .int .i64 0, .int .i64 0]), (.bool false)] rfl ⟨⟨_, rfl, run_loadN ag33 sz33 (box_cells hs (k := 1) rfl)⟩, ⟨rfl, trivial⟩⟩ ⟨rfl, (hs.pick [] rfl).dnil⟩
         ·have hk := hk.lit 83 c120 rfl
          refine cnd_false hk rfl rfl ?_
          refine wp_skip ?_
          refine hK109 _ _ ?_
          apply wp_seq_k; intro K122 hK122
          apply wp_region_lit
          refine sln [.int .i64 u29, .int .i64 y65.1, .int .i64 u95] rfl hk rfl rfl rfl ag33 sz33 (box_cells hs (k := 3) rfl) fun a hk => ?_
          refine ssw 1 hs rfl rfl hk rfl rfl rfl rfl sz33 (by simp [Value.oneCell']) rfl fun w a hk hs => ?_
          refine sa _ rfl hk rfl rfl rfl fun a hk => ?_
          show wpList _ _ _ [] _ _
          refine wpList_nil ?_
          refine hK122 _ _ ?_
          refine wp_ret ?_
          obtain rfl := Option.some.inj H
          exact fin hk _ [(.agg #[.int .i64 u29, .int .i64 y65.1, .int .i64 u95]), (.bool true)] rfl ⟨⟨_, rfl, run_loadN ag33 sz33 (box_cells hs (k := 1) rfl)⟩, ⟨rfl, trivial⟩⟩ ⟨rfl, (hs.pick [] rfl).dnil⟩

noncomputable def spec_l09ToBatch.s1 (y54 : (List ByteArray)) (u64 : Int) (u69 : List S_Op) : Option ((Int × (List S_Op)) ⊕ Ex ((List S_Op)) ((List S_Txn) × Bool)) :=
  (bif (decide (u64 < (y54.length : Int))) then (if 0 ≤ u64 ∧ u64 < (y54.length : Int) then ((spec_l09ToOp.f (y54.getD u64.toNat ByteArray.empty)).bind fun y96 => (bif (!y96.2) then (some (.inr (.ret (([] : List S_Txn), false)))) else (if u69.length + ([y96.1]).length ≤ 1073741824 then (some (.inl ((w64 (u64 + 1)), (u69 ++ ([y96.1]))))) else none))) else none) else (some (.inr (.out u69))))
noncomputable def spec_l09ToBatch.s0 (y7 : (List ByteArray)) (u22 : List S_Txn) (u21 : Int) : Option (((List S_Txn) × Int) ⊕ Ex ((List S_Txn)) ((List S_Txn) × Bool)) :=
  (bif (decide (u21 < (y7.length : Int))) then (if 0 ≤ u21 ∧ u21 < (y7.length : Int) then ((spec_l00Cut.f (y7.getD u21.toNat ByteArray.empty) 59).bind fun y54 => ((loopO (fun s => spec_l09ToBatch.s1 y54 s.1 s.2) (0, ([] : List S_Op))).bind fun o => match o with | .out u74 => (if u22.length + ([(⟨u74⟩ : S_Txn)]).length ≤ 1073741824 then (some (.inl ((u22 ++ ([(⟨u74⟩ : S_Txn)])), (w64 (u21 + 1))))) else none) | .ret r => (some (.inr (.ret r))))) else none) else (some (.inr (.out u22))))
noncomputable def spec_l09ToBatch.f (x0 : ByteArray) : Option ((List S_Txn) × Bool) :=
  ((spec_l00Cut.f x0 124).bind fun y7 => ((loopO (fun s => spec_l09ToBatch.s0 y7 s.1 s.2) (([] : List S_Txn), 0)).bind fun o => match o with | .out u27 => ((spec_BatchOK.f u27).bind fun y126 => (bif (!y126) then (some (([] : List S_Txn), false)) else (some (u27, true)))) | .ret r => (some r)))
set_option maxRecDepth 100000 in
set_option maxHeartbeats 0 in
theorem spec_l09ToBatch_t (w0 : World) (x0 : ByteArray) (r : (List S_Txn) × Bool) (H : spec_l09ToBatch.f x0 = some r) :
    Calls Tryz.prog 18 #[.string x0] w0 (Ret (fun v w => ∃ (A0 : Option Addr) (p0 : Nat) (k0 : Chunk), v = .tuple #[.slice A0 r.1.length p0, .bool r.2] ∧ Own L_impl_Txn 36 A0 p0 r.1 k0 ∧ Sat [] w0 w [] [(0, k0)])) := by
  have hs : Sat [] w0 w0 [] [] := Sat.init w0 [] [] (by simp) (by simp) List.nodup_nil (by simp [blks])
  unfold spec_l09ToBatch.f at H
  refine enter Tryz.func18 rfl Tryz.ntmps18 rfl fun a hk => ?_
  apply wp_seq_k; intro K1 hK1
  apply wp_region_lit
  refine sa _ rfl hk rfl rfl rfl fun a hk => ?_
  refine sa _ rfl hk rfl rfl rfl fun a hk => ?_
  show wpList _ _ _ [] _ _
  refine wpList_nil ?_
  refine hK1 _ _ ?_
  apply wp_seq_k; intro K2 hK2
  apply wp_region_lit
  refine sbs0 1 L_impl_Txn hs rfl hk rfl rfl un22 sz36 fun b3 k4 w a hk o5 hs => ?_
  refine sa _ rfl hk rfl rfl rfl fun a hk => ?_
  show wpList _ _ _ [] _ _
  refine wpList_nil ?_
  refine hK2 _ _ ?_
  apply wp_seq_k; intro K6 hK6
  apply wp_region_lit
  refine sm _ rfl hk rfl rfl rfl fun a hk => ?_
  obtain ⟨y7, h8, H⟩ := bind_some H
  refine sc rfl en38 hk rfl rfl rfl (spec_l00Cut_t _ x0 124 _ h8) ?_
  rintro _ w ⟨A9, p10, k11, rfl, o12, hG⟩ a hk
  have hs := hs.call0k hG [2] rfl
  refine sa _ rfl hk rfl rfl rfl fun a hk => ?_
  show wpList _ _ _ [] _ _
  refine wpList_nil ?_
  refine hK6 _ _ ?_
  apply wp_seq_k; intro K13 hK13
  apply wp_seq_k; intro K14 hK14
  apply wp_region_lit
  refine sa _ rfl hk rfl rfl rfl fun a hk => ?_
  show wpList _ _ _ [] _ _
  refine wpList_nil ?_
  refine hK14 _ _ ?_
  have hs := hs.pick [(1, 1), (2, 2)] rfl
  obtain ⟨o32, h33, HL34⟩ := bind_some H
  clear H
  obtain ⟨R35, hR35⟩ : ∃ R : Act → World → Prop, R = fun a w => ∃ (u27 : List S_Txn) (A30 : Option Addr) (p31 : Nat) (k28 : Chunk), o32 = .out u27 ∧ Kn [(4, (.slice A30 u27.length p31))] 60 a ∧ Sat [] w0 w [] [(1, k28)] ∧ Own L_impl_Txn 36 A30 p31 u27 k28 := ⟨_, rfl⟩
  refine wp_cutq R35 ?_ ?_
  ·refine wp_block ?_
   obtain ⟨fu37, h33⟩ := loopO_some h33
   obtain ⟨I36, hI36⟩ : ∃ I : Nat → Act → World → Prop, I = fun fu a w => ∃ (u22 : List S_Txn) (u21 : Int) (A25 : Option Addr) (p26 : Nat) (k23 : Chunk), loopN (fun s => spec_l09ToBatch.s0 y7 s.1 s.2) fu (u22, u21) = some o32 ∧ Kn [(4, (.slice A25 u22.length p26)), (5, (.slice A9 y7.length p10)), (6, (.int .i64 u21))] 60 a ∧ Sat [] w0 w [] [(1, k23), (2, k11)] ∧ Own L_impl_Txn 36 A25 p26 u22 k23 := ⟨_, rfl⟩
   refine wp_loop_ghost I36 fu37 ?_ ?_
   ·rw [hI36]
    exact ⟨([] : List S_Txn), 0, (some ⟨b3, 0, none⟩), 0, _, h33, (hk.c 4 rfl (hk.c 5 rfl (hk.c 6 rfl hk.k))), (hs.pick [(1, 1), (2, 2)] rfl), o5⟩
   ·clear h33 hk hs
    intro fu37 a w hI0
    rw [hI36] at hI0
    obtain ⟨u22, u21, A25, p26, k23, hi, hk, hs, o24⟩ := hI0
    obtain ⟨x38, H, h39⟩ := loop_round hi
    try dsimp only at H
    unfold spec_l09ToBatch.s0 at H
    apply wp_seq_k; intro K40 hK40
    apply wp_seq_k; intro K41 hK41
    apply wp_region_lit
    refine sm _ rfl hk rfl rfl rfl fun a hk => ?_
    refine sm _ rfl hk rfl rfl rfl fun a hk => ?_
    refine sle rfl hk rfl rfl rfl un59 fun a hk => ?_
    refine sv (.bool (decide (u21 < (y7.length : Int)))) hk rfl rfl rfl fun a hk => ?_
    show wpList _ _ _ [] _ _
    refine wpList_nil ?_
    refine hK41 _ _ ?_
    rcases cond_some H with ⟨c42, H⟩ | ⟨c42, H⟩
    ·have hk := hk.lit 18 c42 rfl
     refine cnd_true hk rfl rfl ?_
     refine wp_skip ?_
     refine hK40 _ _ ?_
     apply wp_seq_k; intro K43 hK43
     refine wp_block ?_
     apply wp_seq_k; intro K44 hK44
     apply wp_region_lit
     refine sbs0 4 L_Op hs rfl hk rfl rfl un34 sz33 fun b45 k46 w a hk o47 hs => ?_
     refine sbd (pv := [(0, (.slice (some ⟨b45, 0, none⟩) 0 0))]) rfl hk rfl rfl rfl (bd36_4 (some ⟨b45, 0, none⟩) 0 0) fun a hk => ?_
     refine salx 5 hs rfl hk rfl rfl ze36 rfl fun b48 w a hk hs => ?_
     refine ssw 5 hs rfl rfl hk rfl rfl rfl rfl sz36 (by simp [Value.oneCell']) rfl fun w a hk hs => ?_
     show wpList _ _ _ [] _ _
     refine wpList_nil ?_
     refine hK44 _ _ ?_
     apply wp_seq_k; intro K49 hK49
     apply wp_region_lit
     refine sm _ rfl hk rfl rfl rfl fun a hk => ?_
     refine sm _ rfl hk rfl rfl rfl fun a hk => ?_
     rcases ite_some H with ⟨c50, H⟩ | ⟨_, H⟩
     rotate_left
     ·cases H
     obtain ⟨b51, q52, hAc50⟩ := (o12.view).some_ u21 c50.1 c50.2
     refine si rfl hk rfl rfl rfl rfl un59 sz9 c50.1 c50.2 hAc50 fun a hk => ?_
     obtain ⟨_, rfl, e53⟩ := (o12.view).at_ ByteArray.empty u21 c50.1 c50.2
     refine sl (v := (.string (y7.getD u21.toNat ByteArray.empty))) rfl hk rfl rfl rfl ag9 ((e53 0 _ rfl).cell (hs.hasG (k := 2) rfl)) fun a hk => ?_
     obtain ⟨y54, h55, H⟩ := bind_some H
     refine sc rfl en38 hk rfl rfl rfl (spec_l00Cut_t _ (y7.getD u21.toNat ByteArray.empty) 59 _ h55) ?_
     rintro _ w ⟨A56, p57, k58, rfl, o59, hG⟩ a hk
     have hs := hs.call0k hG [6] rfl
     refine sa _ rfl hk rfl rfl rfl fun a hk => ?_
     show wpList _ _ _ [] _ _
     refine wpList_nil ?_
     refine hK49 _ _ ?_
     have hs := hs.pick [(1, 1), (2, 2), (6, 6), (5, 5), (4, 4)] rfl
     apply wp_seq_k; intro K60 hK60
     apply wp_seq_k; intro K61 hK61
     apply wp_region_lit
     refine sa _ rfl hk rfl rfl rfl fun a hk => ?_
     show wpList _ _ _ [] _ _
     refine wpList_nil ?_
     refine hK61 _ _ ?_
     obtain ⟨o79, h80, HL81⟩ := bind_some H
     clear H
     obtain ⟨R82, hR82⟩ : ∃ R : Act → World → Prop, R = fun a w => ∃ (u74 : List S_Op) (A77 : Option Addr) (p78 : Nat) (k75 : Chunk), o79 = .out u74 ∧ Kn [(4, (.slice A25 u22.length p26)), (5, (.slice A9 y7.length p10)), (6, (.int .i64 u21)), (7, (.pointer (some ⟨b48, 0, none⟩)))] 60 a ∧ Sat [] w0 w [] [(1, k23), (2, k11), (5, [(b48, .cells #[.slice A77 u74.length p78] 36 (0, 0))]), (4, k75)] ∧ Own L_Op 33 A77 p78 u74 k75 := ⟨_, rfl⟩
     refine wp_cutq R82 ?_ ?_
     ·refine wp_block ?_
      obtain ⟨fu84, h80⟩ := loopO_some h80
      obtain ⟨I83, hI83⟩ : ∃ I : Nat → Act → World → Prop, I = fun fu a w => ∃ (u64 : Int) (u69 : List S_Op) (A72 : Option Addr) (p73 : Nat) (k70 : Chunk), loopN (fun s => spec_l09ToBatch.s1 y54 s.1 s.2) fu (u64, u69) = some o79 ∧ Kn [(4, (.slice A25 u22.length p26)), (5, (.slice A9 y7.length p10)), (6, (.int .i64 u21)), (7, (.pointer (some ⟨b48, 0, none⟩))), (8, (.slice A56 y54.length p57)), (9, (.int .i64 u64))] 60 a ∧ Sat [] w0 w [] [(1, k23), (2, k11), (6, k58), (5, [(b48, .cells #[.slice A72 u69.length p73] 36 (0, 0))]), (4, k70)] ∧ Own L_Op 33 A72 p73 u69 k70 := ⟨_, rfl⟩
      refine wp_loop_ghost I83 fu84 ?_ ?_
      ·rw [hI83]
       exact ⟨0, ([] : List S_Op), (some ⟨b45, 0, none⟩), 0, _, h80, (hk.c 4 rfl (hk.c 5 rfl (hk.c 6 rfl (hk.c 7 rfl (hk.c 8 rfl (hk.c 9 rfl hk.k)))))), (hs.pick [(1, 1), (2, 2), (6, 6), (5, 5), (4, 4)] rfl), o47⟩
      ·clear h80 hk hs
       intro fu84 a w hI0
       rw [hI83] at hI0
       obtain ⟨u64, u69, A72, p73, k70, hi, hk, hs, o71⟩ := hI0
       obtain ⟨x85, H, h86⟩ := loop_round hi
       try dsimp only at H
       unfold spec_l09ToBatch.s1 at H
       apply wp_seq_k; intro K87 hK87
       apply wp_seq_k; intro K88 hK88
       apply wp_region_lit
       refine sm _ rfl hk rfl rfl rfl fun a hk => ?_
       refine sm _ rfl hk rfl rfl rfl fun a hk => ?_
       refine sle rfl hk rfl rfl rfl un59 fun a hk => ?_
       refine sv (.bool (decide (u64 < (y54.length : Int)))) hk rfl rfl rfl fun a hk => ?_
       show wpList _ _ _ [] _ _
       refine wpList_nil ?_
       refine hK88 _ _ ?_
       rcases cond_some H with ⟨c89, H⟩ | ⟨c89, H⟩
       ·have hk := hk.lit 31 c89 rfl
        refine cnd_true hk rfl rfl ?_
        refine wp_skip ?_
        refine hK87 _ _ ?_
        apply wp_seq_k; intro K90 hK90
        refine wp_block ?_
        apply wp_seq_k; intro K91 hK91
        apply wp_region_lit
        refine sm _ rfl hk rfl rfl rfl fun a hk => ?_
        refine sm _ rfl hk rfl rfl rfl fun a hk => ?_
        rcases ite_some H with ⟨c92, H⟩ | ⟨_, H⟩
        rotate_left
        ·cases H
        obtain ⟨b93, q94, hAc92⟩ := (o59.view).some_ u64 c92.1 c92.2
        refine si rfl hk rfl rfl rfl rfl un59 sz9 c92.1 c92.2 hAc92 fun a hk => ?_
        obtain ⟨_, rfl, e95⟩ := (o59.view).at_ ByteArray.empty u64 c92.1 c92.2
        refine sl (v := (.string (y54.getD u64.toNat ByteArray.empty))) rfl hk rfl rfl rfl ag9 ((e95 0 _ rfl).cell (hs.hasG (k := 6) rfl)) fun a hk => ?_
        obtain ⟨y96, h97, H⟩ := bind_some H
        refine sc rfl en39 hk rfl rfl rfl (spec_l09ToOp_t _ (y54.getD u64.toNat ByteArray.empty) _ h97) ?_
        rintro _ w ⟨rfl, hG⟩ a hk
        have hs := hs.call0 hG
        refine sm _ rfl hk rfl rfl rfl fun a hk => ?_
        refine sv (.agg #[.int .i64 y96.1.Kind, .int .i64 y96.1.Key, .int .i64 y96.1.Value]) hk rfl rfl rfl fun a hk => ?_
        refine sv (.bool y96.2) hk rfl rfl rfl fun a hk => ?_
        refine salx 8 hs rfl hk rfl rfl ze33 rfl fun b98 w a hk hs => ?_
        refine ssw 8 hs rfl rfl hk rfl rfl rfl rfl sz33 (by simp [Value.oneCell']) rfl fun w a hk hs => ?_
        refine sa _ rfl hk rfl rfl rfl fun a hk => ?_
        show wpList _ _ _ [] _ _
        refine wpList_nil ?_
        refine hK91 _ _ ?_
        have hs := hs.pick [(1, 1), (2, 2), (6, 6), (5, 5), (4, 4), (8, 8)] rfl
        apply wp_seq_k; intro K99 hK99
        apply wp_seq_k; intro K100 hK100
        apply wp_region_lit
        refine sm _ rfl hk rfl rfl rfl fun a hk => ?_
        refine sv (.bool (!y96.2)) hk rfl rfl rfl fun a hk => ?_
        show wpList _ _ _ [] _ _
        refine wpList_nil ?_
        refine hK100 _ _ ?_
        rcases cond_some H with ⟨c101, H⟩ | ⟨c101, H⟩
        ·have hk := hk.lit 43 c101 rfl
         refine cnd_true hk rfl rfl ?_
         apply wp_seq_k; intro K102 hK102
         apply wp_region_lit
         refine sbs0 9 L_impl_Txn hs rfl hk rfl rfl un22 sz36 fun b103 k104 w a hk o105 hs => ?_
         refine sa _ rfl hk rfl rfl rfl fun a hk => ?_
         refine sa _ rfl hk rfl rfl rfl fun a hk => ?_
         show wpList _ _ _ [] _ _
         refine wpList_nil ?_
         refine hK102 _ _ ?_
         refine wp_ret ?_
         obtain rfl := Option.some.inj H
         have ho79 := h86
         try dsimp only at ho79
         subst ho79
         have H := HL81
         try dsimp only at H
         obtain rfl := Option.some.inj H
         have ho32 := h39
         try dsimp only at ho32
         subst ho32
         have H := HL34
         try dsimp only at H
         obtain rfl := Option.some.inj H
         exact fin hk _ [(.slice (some ⟨b103, 0, none⟩) 0 0), (.bool false)] rfl ⟨rfl, ⟨rfl, trivial⟩⟩ ⟨(some ⟨b103, 0, none⟩), 0, _, rfl, o105, (hs.pick [(0, 9)] rfl).dnil⟩
        ·have hk := hk.lit 43 c101 rfl
         refine cnd_false hk rfl rfl ?_
         refine wp_skip ?_
         refine hK99 _ _ ?_
         apply wp_region_lit
         refine sf ⟨b48, 0, none⟩ rfl hk rfl rfl rfl fd36_0 rfl fun a hk => ?_
         refine sl rfl hk rfl rfl rfl ag34 (box_cell hs (k := 5) rfl rfl) fun a hk => ?_
         refine sln [.int .i64 y96.1.Kind, .int .i64 y96.1.Key, .int .i64 y96.1.Value] rfl hk rfl rfl rfl ag33 sz33 (box_cells hs (k := 8) rfl) fun a hk => ?_
         refine sbs (L := L_Op) (pv := [(0, (.agg #[.int .i64 y96.1.Kind, .int .i64 y96.1.Key, .int .i64 y96.1.Value]))]) (xs := [y96.1]) (ess := [[.int .i64 y96.1.Kind, .int .i64 y96.1.Key, .int .i64 y96.1.Value]]) 10 hs rfl hk rfl rfl rfl un34 (bs33_5 y96.1.Kind y96.1.Key y96.1.Value) (AllOwn.cons0 ⟨rfl, rfl⟩ AllOwn.nil) rfl rfl rfl fun b106 k107 w a hk o108 hs => ?_
         rcases ite_some H with ⟨c109, H⟩ | ⟨_, H⟩
         rotate_left
         ·cases H
         refine sap 4 (xs := u69) (ys := [y96.1]) (flat_flat : (L_Op).Flat) hs rfl o71 o108.view (hs.hasG (k := 10) rfl) rfl hk rfl rfl rfl rfl rfl rfl un34 mk33 rfl rfl rfl c109 fun A110 p111 k112 w a hk o113 hs => ?_
         refine sf ⟨b48, 0, none⟩ rfl hk rfl rfl rfl fd36_0 rfl fun a hk => ?_
         refine ssx (cs' := #[.slice A110 (u69 ++ ([y96.1])).length p111]) 5 hs rfl rfl hk rfl rfl rfl rfl sz34 rfl rfl rfl rfl fun w a hk hs => ?_
         show wpList _ _ _ [] _ _
         refine wpList_nil ?_
         refine hK90 _ _ ?_
         apply wp_region_lit
         refine sm _ rfl hk rfl rfl rfl fun a hk => ?_
         refine sv (.int .i64 (w64 (u64 + 1))) hk rfl rfl rfl fun a hk => ?_
         refine sa _ rfl hk rfl rfl rfl fun a hk => ?_
         show wpList _ _ _ [] _ _
         refine wpList_nil ?_
         obtain rfl := Option.some.inj H
         obtain ⟨m114, hmm114, h86⟩ := h86
         show ∃ n', n' < _ ∧ I83 n' _ _
         refine ⟨m114, hmm114, ?_⟩
         rw [hI83]
         exact ⟨(w64 (u64 + 1)), (u69 ++ ([y96.1])), A110, p111, _, h86, (hk.c 4 rfl (hk.c 5 rfl (hk.c 6 rfl (hk.c 7 rfl (hk.c 8 rfl (hk.c 9 rfl hk.k)))))), (hs.pick [(1, 1), (2, 2), (6, 6), (5, 5), (4, 4)] rfl), o113⟩
       ·have hk := hk.lit 31 c89 rfl
        refine cnd_false hk rfl rfl ?_
        refine wp_exit ?_
        obtain rfl := Option.some.inj H
        show R82 _ _
        rw [hR82]
        exact ⟨u69, A72, p73, _, h86.symm, (hk.c 4 rfl (hk.c 5 rfl (hk.c 6 rfl (hk.c 7 rfl hk.k)))), (hs.pick [(1, 1), (2, 2), (5, 5), (4, 4)] rfl), o71⟩
     ·intro a w hR0
      rw [hR82] at hR0
      obtain ⟨u74, A77, p78, k75, rfl, hk, hs, o76⟩ := hR0
      have H := HL81
      try dsimp only at H
      refine hK60 _ _ ?_
      apply wp_region_lit
      refine sm _ rfl hk rfl rfl rfl fun a hk => ?_
      refine sln [.slice A77 u74.length p78] rfl hk rfl rfl rfl ag36 sz36 (box_cells hs (k := 5) rfl) fun a hk => ?_
      refine sbs1 (L := L_impl_Txn) (pv := [(0, (.agg #[.slice A77 u74.length p78]))]) (xs := [(⟨u74⟩ : S_Txn)]) (ess := [[.slice A77 u74.length p78]]) 11 4 hs rfl rfl hk rfl rfl rfl un22 (bs36_6 A77 u74.length p78) (AllOwn.one ⟨_, rfl, o76.toV⟩) rfl rfl rfl fun b115 k116 w a hk o117 hs => ?_
      rcases ite_some H with ⟨c118, H⟩ | ⟨_, H⟩
      rotate_left
      ·cases H
      refine sapm 1 11 (xs := u22) (ys := [(⟨u74⟩ : S_Txn)]) hs rfl rfl o24 o117 rfl hk rfl rfl rfl rfl rfl rfl un22 mk36 rfl rfl rfl c118 fun A119 p120 k121 w a hk o122 hs => ?_
      refine sa _ rfl hk rfl rfl rfl fun a hk => ?_
      show wpList _ _ _ [] _ _
      refine wpList_nil ?_
      refine hK43 _ _ ?_
      apply wp_region_lit
      refine sm _ rfl hk rfl rfl rfl fun a hk => ?_
      refine sv (.int .i64 (w64 (u21 + 1))) hk rfl rfl rfl fun a hk => ?_
      refine sa _ rfl hk rfl rfl rfl fun a hk => ?_
      show wpList _ _ _ [] _ _
      refine wpList_nil ?_
      obtain rfl := Option.some.inj H
      obtain ⟨m123, hmm123, h39⟩ := h39
      show ∃ n', n' < _ ∧ I36 n' _ _
      refine ⟨m123, hmm123, ?_⟩
      rw [hI36]
      exact ⟨(u22 ++ ([(⟨u74⟩ : S_Txn)])), (w64 (u21 + 1)), A119, p120, _, h39, (hk.c 4 rfl (hk.c 5 rfl (hk.c 6 rfl hk.k))), (hs.pick [(1, 1), (2, 2)] rfl), o122⟩
    ·have hk := hk.lit 18 c42 rfl
     refine cnd_false hk rfl rfl ?_
     refine wp_exit ?_
     obtain rfl := Option.some.inj H
     show R35 _ _
     rw [hR35]
     exact ⟨u22, A25, p26, _, h39.symm, (hk.c 4 rfl hk.k), (hs.pick [(1, 1)] rfl), o24⟩
  ·intro a w hR0
   rw [hR35] at hR0
   obtain ⟨u27, A30, p31, k28, rfl, hk, hs, o29⟩ := hR0
   have H := HL34
   try dsimp only at H
   refine hK13 _ _ ?_
   apply wp_seq_k; intro K124 hK124
   apply wp_seq_k; intro K125 hK125
   apply wp_region_lit
   refine sm _ rfl hk rfl rfl rfl fun a hk => ?_
   obtain ⟨y126, h127, H⟩ := bind_some H
   refine sc rfl en27 hk rfl rfl rfl (spec_BatchOK_t _ A30 p31 u27 _ o29.view (hs.hasG (k := 1) rfl) _ h127) ?_
   rintro _ w ⟨rfl, hG⟩ a hk
   have hs := hs.call0 hG
   refine sv (.bool (!y126)) hk rfl rfl rfl fun a hk => ?_
   show wpList _ _ _ [] _ _
   refine wpList_nil ?_
   refine hK125 _ _ ?_
   rcases cond_some H with ⟨c128, H⟩ | ⟨c128, H⟩
   ·have hk := hk.lit 57 c128 rfl
    refine cnd_true hk rfl rfl ?_
    apply wp_seq_k; intro K129 hK129
    apply wp_region_lit
    refine sbs0 12 L_impl_Txn hs rfl hk rfl rfl un22 sz36 fun b130 k131 w a hk o132 hs => ?_
    refine sa _ rfl hk rfl rfl rfl fun a hk => ?_
    refine sa _ rfl hk rfl rfl rfl fun a hk => ?_
    show wpList _ _ _ [] _ _
    refine wpList_nil ?_
    refine hK129 _ _ ?_
    refine wp_ret ?_
    obtain rfl := Option.some.inj H
    exact fin hk _ [(.slice (some ⟨b130, 0, none⟩) 0 0), (.bool false)] rfl ⟨rfl, ⟨rfl, trivial⟩⟩ ⟨(some ⟨b130, 0, none⟩), 0, _, rfl, o132, (hs.pick [(0, 12)] rfl).dnil⟩
   ·have hk := hk.lit 57 c128 rfl
    refine cnd_false hk rfl rfl ?_
    refine wp_skip ?_
    refine hK124 _ _ ?_
    apply wp_seq_k; intro K133 hK133
    apply wp_region_lit
    refine sm _ rfl hk rfl rfl rfl fun a hk => ?_
    refine sa _ rfl hk rfl rfl rfl fun a hk => ?_
    refine sa _ rfl hk rfl rfl rfl fun a hk => ?_
    show wpList _ _ _ [] _ _
    refine wpList_nil ?_
    refine hK133 _ _ ?_
    have hs := hs.pick [(1, 1)] rfl
    refine wp_ret ?_
    obtain rfl := Option.some.inj H
    exact fin hk _ [(.slice A30 u27.length p31), (.bool true)] rfl ⟨rfl, ⟨rfl, trivial⟩⟩ ⟨A30, p31, _, rfl, o29, (hs.pick [(0, 1)] rfl).dnil⟩

noncomputable def spec_ReadBatch.f (x0 : ByteArray) : Option ((List S_Txn) × Int) :=
  (bif (decide ((x0.size : Int) > 65536)) then (some (([] : List S_Txn), 2)) else ((spec_l09ToBatch.f x0).bind fun y10 => (bif (!y10.2) then (some (([] : List S_Txn), 3)) else (some (y10.1, 0)))))
set_option maxRecDepth 100000 in
set_option maxHeartbeats 0 in
theorem spec_ReadBatch_t (w0 : World) (x0 : ByteArray) (r : (List S_Txn) × Int) (H : spec_ReadBatch.f x0 = some r) :
    Calls Tryz.prog 5 #[.string x0] w0 (Ret (fun v w => ∃ (A0 : Option Addr) (p0 : Nat) (k0 : Chunk), v = .tuple #[.slice A0 r.1.length p0, .int .i64 r.2] ∧ Own L_impl_Txn 36 A0 p0 r.1 k0 ∧ Sat [] w0 w [] [(0, k0)])) := by
  have hs : Sat [] w0 w0 [] [] := Sat.init w0 [] [] (by simp) (by simp) List.nodup_nil (by simp [blks])
  unfold spec_ReadBatch.f at H
  refine enter Tryz.func5 rfl Tryz.ntmps5 rfl fun a hk => ?_
  apply wp_seq_k; intro K1 hK1
  apply wp_region_lit
  refine sa _ rfl hk rfl rfl rfl fun a hk => ?_
  refine sa _ rfl hk rfl rfl rfl fun a hk => ?_
  show wpList _ _ _ [] _ _
  refine wpList_nil ?_
  refine hK1 _ _ ?_
  apply wp_seq_k; intro K2 hK2
  apply wp_seq_k; intro K3 hK3
  apply wp_region_lit
  refine sm _ rfl hk rfl rfl rfl fun a hk => ?_
  refine sles rfl hk rfl rfl rfl un9 fun a hk => ?_
  refine sv (.bool (decide ((x0.size : Int) > 65536))) hk rfl rfl rfl fun a hk => ?_
  show wpList _ _ _ [] _ _
  refine wpList_nil ?_
  refine hK3 _ _ ?_
  rcases cond_some H with ⟨c4, H⟩ | ⟨c4, H⟩
  ·have hk := hk.lit 8 c4 rfl
   refine cnd_true hk rfl rfl ?_
   apply wp_seq_k; intro K5 hK5
   apply wp_region_lit
   refine sbs0 1 L_impl_Txn hs rfl hk rfl rfl un22 sz36 fun b6 k7 w a hk o8 hs => ?_
   refine sa _ rfl hk rfl rfl rfl fun a hk => ?_
   refine sa _ rfl hk rfl rfl rfl fun a hk => ?_
   show wpList _ _ _ [] _ _
   refine wpList_nil ?_
   refine hK5 _ _ ?_
   refine wp_ret ?_
   obtain rfl := Option.some.inj H
   exact fin hk _ [(.slice (some ⟨b6, 0, none⟩) 0 0), (.int .i64 2)] rfl ⟨rfl, ⟨rfl, trivial⟩⟩ ⟨(some ⟨b6, 0, none⟩), 0, _, rfl, o8, (hs.pick [(0, 1)] rfl).dnil⟩
  ·have hk := hk.lit 8 c4 rfl
   refine cnd_false hk rfl rfl ?_
   refine wp_skip ?_
   refine hK2 _ _ ?_
   apply wp_seq_k; intro K9 hK9
   apply wp_region_lit
   refine sm _ rfl hk rfl rfl rfl fun a hk => ?_
   obtain ⟨y10, h11, H⟩ := bind_some H
   refine sc rfl en18 hk rfl rfl rfl (spec_l09ToBatch_t _ x0 _ h11) ?_
   rintro _ w ⟨A12, p13, k14, rfl, o15, hG⟩ a hk
   have hs := hs.call0k hG [2] rfl
   refine sm _ rfl hk rfl rfl rfl fun a hk => ?_
   refine sv (.slice A12 y10.1.length p13) hk rfl rfl rfl fun a hk => ?_
   refine sv (.bool y10.2) hk rfl rfl rfl fun a hk => ?_
   refine sa _ rfl hk rfl rfl rfl fun a hk => ?_
   refine sa _ rfl hk rfl rfl rfl fun a hk => ?_
   show wpList _ _ _ [] _ _
   refine wpList_nil ?_
   refine hK9 _ _ ?_
   have hs := hs.pick [(2, 2)] rfl
   apply wp_seq_k; intro K16 hK16
   apply wp_seq_k; intro K17 hK17
   apply wp_region_lit
   refine sm _ rfl hk rfl rfl rfl fun a hk => ?_
   refine sv (.bool (!y10.2)) hk rfl rfl rfl fun a hk => ?_
   show wpList _ _ _ [] _ _
   refine wpList_nil ?_
   refine hK17 _ _ ?_
   rcases cond_some H with ⟨c18, H⟩ | ⟨c18, H⟩
   ·have hk := hk.lit 16 c18 rfl
    refine cnd_true hk rfl rfl ?_
    apply wp_seq_k; intro K19 hK19
    apply wp_region_lit
    refine sbs0 3 L_impl_Txn hs rfl hk rfl rfl un22 sz36 fun b20 k21 w a hk o22 hs => ?_
    refine sa _ rfl hk rfl rfl rfl fun a hk => ?_
    refine sa _ rfl hk rfl rfl rfl fun a hk => ?_
    show wpList _ _ _ [] _ _
    refine wpList_nil ?_
    refine hK19 _ _ ?_
    refine wp_ret ?_
    obtain rfl := Option.some.inj H
    exact fin hk _ [(.slice (some ⟨b20, 0, none⟩) 0 0), (.int .i64 3)] rfl ⟨rfl, ⟨rfl, trivial⟩⟩ ⟨(some ⟨b20, 0, none⟩), 0, _, rfl, o22, (hs.pick [(0, 3)] rfl).dnil⟩
   ·have hk := hk.lit 16 c18 rfl
    refine cnd_false hk rfl rfl ?_
    refine wp_skip ?_
    refine hK16 _ _ ?_
    apply wp_seq_k; intro K23 hK23
    apply wp_region_lit
    refine sm _ rfl hk rfl rfl rfl fun a hk => ?_
    refine sa _ rfl hk rfl rfl rfl fun a hk => ?_
    refine sa _ rfl hk rfl rfl rfl fun a hk => ?_
    show wpList _ _ _ [] _ _
    refine wpList_nil ?_
    refine hK23 _ _ ?_
    refine wp_ret ?_
    obtain rfl := Option.some.inj H
    exact fin hk _ [(.slice A12 y10.1.length p13), (.int .i64 0)] rfl ⟨rfl, ⟨rfl, trivial⟩⟩ ⟨A12, p13, _, rfl, o15, (hs.pick [(0, 2)] rfl).dnil⟩

noncomputable def slices_IndexFunc_string_string.s0 (l0 : List ByteArray) (q1 : ByteArray → Option (Bool)) (u6 : Int) : Option ((Int) ⊕ Ex (Unit) (Int)) :=
  (bif (decide (u6 < (l0.length : Int))) then (if 0 ≤ u6 ∧ u6 < (l0.length : Int) then ((q1 (l0.getD u6.toNat ByteArray.empty)).bind fun y25 => (bif y25 then (some (.inr (.ret u6))) else (some (.inl (w64 (u6 + 1)))))) else none) else (some (.inr (.out ()))))
noncomputable def slices_IndexFunc_string_string.f (l0 : List ByteArray) (q1 : ByteArray → Option (Bool)) : Option (Int) :=
  ((loopO (fun s => slices_IndexFunc_string_string.s0 l0 q1 s) 0).bind fun o => match o with | .out _ => (some (-1)) | .ret r => (some r))
set_option maxRecDepth 100000 in
set_option maxHeartbeats 0 in
theorem slices_IndexFunc_string_string_t (w0 : World) (A0_ : Option Addr) (p0_ : Nat) (l0 : List ByteArray) (k0_ : Chunk) (v0_ : View Lay.str A0_ p0_ l0 k0_) (w0_ : Has w0 k0_) (f1_ : FuncId) (c1_ : List Value) (e1_ : Enters Tryz.prog f1_) (q1 : ByteArray → Option (Bool)) (k1_ : Chunk) (t1_ : ∀ w, Has w k1_ → ∀ (z0 : ByteArray) (r : Bool), q1 z0 = some r → Calls Tryz.prog f1_ (([.string z0] : List Value) ++ c1_).toArray w (Ret (fun v w2 => v = .bool r ∧ Sat [] w w2 [] []))) (w1_ : Has w0 k1_) (r : Int) (H : slices_IndexFunc_string_string.f l0 q1 = some r) :
    Calls Tryz.prog 84 #[.slice A0_ l0.length p0_, .func (.func f1_) #[] c1_.toArray] w0 (Ret (fun v w => v = .int .i64 r ∧ Sat [] w0 w [] [])) := by
  have hs : Sat [] w0 w0 [(1, k0_), (2, k1_)] [] := Sat.init w0 [(1, k0_), (2, k1_)] [] (by simp only [List.mem_cons, List.not_mem_nil, or_false]; rintro x (rfl | rfl) <;> assumption) (by simp) List.nodup_nil (by simp [blks])
  unfold slices_IndexFunc_string_string.f at H
  refine enter Tryz.func84 rfl Tryz.ntmps84 rfl fun a hk => ?_
  apply wp_seq_k; intro K1 hK1
  apply wp_region_lit
  refine sa _ rfl hk rfl rfl rfl fun a hk => ?_
  show wpList _ _ _ [] _ _
  refine wpList_nil ?_
  refine hK1 _ _ ?_
  apply wp_seq_k; intro K2 hK2
  apply wp_seq_k; intro K3 hK3
  apply wp_region_lit
  refine sm _ rfl hk rfl rfl rfl fun a hk => ?_
  refine sle rfl hk rfl rfl rfl un59 fun a hk => ?_
  refine sm _ rfl hk rfl rfl rfl fun a hk => ?_
  show wpList _ _ _ [] _ _
  refine wpList_nil ?_
  refine hK3 _ _ ?_
  obtain ⟨o7, h8, HL9⟩ := bind_some H
  clear H
  obtain ⟨R10, hR10⟩ : ∃ R : Act → World → Prop, R = fun a w => o7 = .out () ∧ Kn [] 19 a ∧ Sat [] w0 w [(1, k0_), (2, k1_)] [] := ⟨_, rfl⟩
  refine wp_cutq R10 ?_ ?_
  ·refine wp_block ?_
   obtain ⟨fu12, h8⟩ := loopO_some h8
   obtain ⟨I11, hI11⟩ : ∃ I : Nat → Act → World → Prop, I = fun fu a w => ∃ (u6 : Int), loopN (fun s => slices_IndexFunc_string_string.s0 l0 q1 s) fu u6 = some o7 ∧ Kn [(0, (.slice A0_ l0.length p0_)), (1, (.func (.func f1_) #[] c1_.toArray)), (7, (.int .i64 (l0.length : Int))), (8, (.int .i64 u6))] 19 a ∧ Sat [] w0 w [(1, k0_), (2, k1_)] [] := ⟨_, rfl⟩
   refine wp_loop_ghost I11 fu12 ?_ ?_
   ·rw [hI11]
    exact ⟨0, h8, (hk.c 0 rfl (hk.c 1 rfl (hk.c 7 rfl (hk.c 8 rfl hk.k)))), (hs.pick [] rfl)⟩
   ·clear h8 hk hs
    intro fu12 a w hI0
    rw [hI11] at hI0
    obtain ⟨u6, hi, hk, hs⟩ := hI0
    obtain ⟨x13, H, h14⟩ := loop_round hi
    try dsimp only at H
    unfold slices_IndexFunc_string_string.s0 at H
    apply wp_seq_k; intro K15 hK15
    apply wp_region_lit
    refine sv (.bool (decide (u6 < (l0.length : Int)))) hk rfl rfl rfl fun a hk => ?_
    show wpList _ _ _ [] _ _
    refine wpList_nil ?_
    refine hK15 _ _ ?_
    apply wp_seq_k; intro K16 hK16
    rcases cond_some H with ⟨c17, H⟩ | ⟨c17, H⟩
    ·have hk := hk.lit 9 c17 rfl
     refine cnd_true hk rfl rfl ?_
     refine wp_skip ?_
     refine hK16 _ _ ?_
     have hs := hs.pick [] rfl
     apply wp_seq_k; intro K18 hK18
     refine wp_block ?_
     apply wp_seq_k; intro K19 hK19
     apply wp_region_lit
     refine sm _ rfl hk rfl rfl rfl fun a hk => ?_
     refine sa _ rfl hk rfl rfl rfl fun a hk => ?_
     show wpList _ _ _ [] _ _
     refine wpList_nil ?_
     refine hK19 _ _ ?_
     apply wp_seq_k; intro K20 hK20
     apply wp_region_lit
     refine sm _ rfl hk rfl rfl rfl fun a hk => ?_
     refine sm _ rfl hk rfl rfl rfl fun a hk => ?_
     refine sm _ rfl hk rfl rfl rfl fun a hk => ?_
     rcases ite_some H with ⟨c21, H⟩ | ⟨_, H⟩
     rotate_left
     ·cases H
     obtain ⟨b22, q23, hAc21⟩ := (v0_).some_ u6 c21.1 c21.2
     refine si rfl hk rfl rfl rfl rfl un59 sz9 c21.1 c21.2 hAc21 fun a hk => ?_
     obtain ⟨_, rfl, e24⟩ := (v0_).at_ ByteArray.empty u6 c21.1 c21.2
     refine sl (v := (.string (l0.getD u6.toNat ByteArray.empty))) rfl hk rfl rfl rfl ag9 ((e24 0 _ rfl).cell (hs.hasD (k := 1) rfl)) fun a hk => ?_
     obtain ⟨y25, h26, H⟩ := bind_some H
     refine scv (vs := ([(.string (l0.getD u6.toNat ByteArray.empty))] : List Value) ++ c1_) rfl rfl e1_ hk rfl rfl rfl (t1_ _ (hs.hasD (k := 2) rfl) (l0.getD u6.toNat ByteArray.empty) _ h26) ?_
     rintro _ w ⟨rfl, hG⟩ a hk
     have hs := hs.call0 hG
     show wpList _ _ _ [] _ _
     refine wpList_nil ?_
     refine hK20 _ _ ?_
     rcases cond_some H with ⟨c27, H⟩ | ⟨c27, H⟩
     ·have hk := hk.lit 16 c27 rfl
      refine cnd_true hk rfl rfl ?_
      apply wp_seq_k; intro K28 hK28
      apply wp_region_lit
      refine sm _ rfl hk rfl rfl rfl fun a hk => ?_
      refine sa _ rfl hk rfl rfl rfl fun a hk => ?_
      show wpList _ _ _ [] _ _
      refine wpList_nil ?_
      refine hK28 _ _ ?_
      refine wp_ret ?_
      obtain rfl := Option.some.inj H
      have ho7 := h14
      try dsimp only at ho7
      subst ho7
      have H := HL9
      try dsimp only at H
      obtain rfl := Option.some.inj H
      exact fin hk _ [(.int .i64 u6)] rfl ⟨rfl, trivial⟩ ⟨rfl, (hs.pick [] rfl).dnil⟩
     ·have hk := hk.lit 16 c27 rfl
      refine cnd_false hk rfl rfl ?_
      refine wp_skip ?_
      refine hK18 _ _ ?_
      apply wp_region_lit
      refine sv (.int .i64 (w64 (u6 + 1))) hk rfl rfl rfl fun a hk => ?_
      refine sm _ rfl hk rfl rfl rfl fun a hk => ?_
      show wpList _ _ _ [] _ _
      refine wpList_nil ?_
      obtain rfl := Option.some.inj H
      obtain ⟨m29, hmm29, h14⟩ := h14
      show ∃ n', n' < _ ∧ I11 n' _ _
      refine ⟨m29, hmm29, ?_⟩
      rw [hI11]
      exact ⟨(w64 (u6 + 1)), h14, (hk.c 0 rfl (hk.c 1 rfl (hk.c 7 rfl (hk.c 8 rfl hk.k)))), (hs.pick [] rfl)⟩
    ·have hk := hk.lit 9 c17 rfl
     refine cnd_false hk rfl rfl ?_
     refine wp_exit ?_
     obtain rfl := Option.some.inj H
     show R10 _ _
     rw [hR10]
     exact ⟨h14.symm, hk.k, (hs.pick [] rfl)⟩
  ·intro a w hR0
   rw [hR10] at hR0
   obtain ⟨rfl, hk, hs⟩ := hR0
   have H := HL9
   try dsimp only at H
   refine hK2 _ _ ?_
   apply wp_seq_k; intro K30 hK30
   apply wp_region_lit
   refine sa _ rfl hk rfl rfl rfl fun a hk => ?_
   show wpList _ _ _ [] _ _
   refine wpList_nil ?_
   refine hK30 _ _ ?_
   have hs := hs.pick [] rfl
   refine wp_ret ?_
   obtain rfl := Option.some.inj H
   exact fin hk _ [(.int .i64 (-1))] rfl ⟨rfl, trivial⟩ ⟨rfl, (hs.pick [] rfl).dnil⟩

noncomputable def slices_ContainsFunc_string_string.f (l0 : List ByteArray) (q1 : ByteArray → Option (Bool)) : Option (Bool) :=
  ((slices_IndexFunc_string_string.f l0 q1).bind fun y3 => (some (decide (y3 ≥ 0))))
set_option maxRecDepth 100000 in
set_option maxHeartbeats 0 in
theorem slices_ContainsFunc_string_string_t (w0 : World) (A0_ : Option Addr) (p0_ : Nat) (l0 : List ByteArray) (k0_ : Chunk) (v0_ : View Lay.str A0_ p0_ l0 k0_) (w0_ : Has w0 k0_) (f1_ : FuncId) (c1_ : List Value) (e1_ : Enters Tryz.prog f1_) (q1 : ByteArray → Option (Bool)) (k1_ : Chunk) (t1_ : ∀ w, Has w k1_ → ∀ (z0 : ByteArray) (r : Bool), q1 z0 = some r → Calls Tryz.prog f1_ (([.string z0] : List Value) ++ c1_).toArray w (Ret (fun v w2 => v = .bool r ∧ Sat [] w w2 [] []))) (w1_ : Has w0 k1_) (r : Bool) (H : slices_ContainsFunc_string_string.f l0 q1 = some r) :
    Calls Tryz.prog 67 #[.slice A0_ l0.length p0_, .func (.func f1_) #[] c1_.toArray] w0 (Ret (fun v w => v = .bool r ∧ Sat [] w0 w [] [])) := by
  have hs : Sat [] w0 w0 [(1, k0_), (2, k1_)] [] := Sat.init w0 [(1, k0_), (2, k1_)] [] (by simp only [List.mem_cons, List.not_mem_nil, or_false]; rintro x (rfl | rfl) <;> assumption) (by simp) List.nodup_nil (by simp [blks])
  unfold slices_ContainsFunc_string_string.f at H
  refine enter Tryz.func67 rfl Tryz.ntmps67 rfl fun a hk => ?_
  apply wp_seq_k; intro K1 hK1
  apply wp_region_lit
  refine sa _ rfl hk rfl rfl rfl fun a hk => ?_
  show wpList _ _ _ [] _ _
  refine wpList_nil ?_
  refine hK1 _ _ ?_
  apply wp_seq_k; intro K2 hK2
  apply wp_region_lit
  refine sm _ rfl hk rfl rfl rfl fun a hk => ?_
  refine sm _ rfl hk rfl rfl rfl fun a hk => ?_
  obtain ⟨y3, h4, H⟩ := bind_some H
  refine sc rfl en84 hk rfl rfl rfl (slices_IndexFunc_string_string_t _ A0_ p0_ l0 _ v0_ (hs.hasD (k := 1) rfl) f1_ c1_ e1_ q1 k1_ t1_ (hs.hasD (k := 2) rfl) _ h4) ?_
  rintro _ w ⟨rfl, hG⟩ a hk
  have hs := hs.call0 hG
  refine sv (.bool (decide (y3 ≥ 0))) hk rfl rfl rfl fun a hk => ?_
  refine sa _ rfl hk rfl rfl rfl fun a hk => ?_
  show wpList _ _ _ [] _ _
  refine wpList_nil ?_
  refine hK2 _ _ ?_
  refine wp_ret ?_
  obtain rfl := Option.some.inj H
  exact fin hk _ [(.bool (decide (y3 ≥ 0)))] rfl ⟨rfl, trivial⟩ ⟨rfl, (hs.pick [] rfl).dnil⟩

noncomputable def impl_areAll_string__c1.f (x0 : ByteArray) (q1 : ByteArray → Option (Bool)) : Option (Bool) :=
  ((q1 x0).bind fun y3 => (some (!y3)))
set_option maxRecDepth 100000 in
set_option maxHeartbeats 0 in
theorem impl_areAll_string__c1_t (w0 : World) (x0 : ByteArray) (b1_ : Nat) (f1_ : FuncId) (c1_ : List Value) (e1_ : Enters Tryz.prog f1_) (q1 : ByteArray → Option (Bool)) (k1_ : Chunk) (t1_ : ∀ w, Has w k1_ → ∀ (z0 : ByteArray) (r : Bool), q1 z0 = some r → Calls Tryz.prog f1_ (([.string z0] : List Value) ++ c1_).toArray w (Ret (fun v w2 => v = .bool r ∧ Sat [] w w2 [] []))) (w1_ : Has w0 k1_) (h1_ : Has w0 [(b1_, .cells #[.func (.func f1_) #[] c1_.toArray] 27 (0, 0))]) (r : Bool) (H : impl_areAll_string__c1.f x0 q1 = some r) :
    Calls Tryz.prog 68 #[.string x0, .pointer (some ⟨b1_, 0, none⟩)] w0 (Ret (fun v w => v = .bool r ∧ Sat [] w0 w [] [])) := by
  have hs : Sat [] w0 w0 [(2, k1_), (1, [(b1_, .cells #[.func (.func f1_) #[] c1_.toArray] 27 (0, 0))])] [] := Sat.init w0 [(2, k1_), (1, [(b1_, .cells #[.func (.func f1_) #[] c1_.toArray] 27 (0, 0))])] [] (by simp only [List.mem_cons, List.not_mem_nil, or_false]; rintro x (rfl | rfl) <;> assumption) (by simp) List.nodup_nil (by simp [blks])
  unfold impl_areAll_string__c1.f at H
  refine enter Tryz.func68 rfl Tryz.ntmps68 rfl fun a hk => ?_
  apply wp_seq_k; intro K1 hK1
  apply wp_region_lit
  refine sa _ rfl hk rfl rfl rfl fun a hk => ?_
  show wpList _ _ _ [] _ _
  refine wpList_nil ?_
  refine hK1 _ _ ?_
  apply wp_seq_k; intro K2 hK2
  apply wp_region_lit
  refine sl rfl hk rfl rfl rfl ag27 (box_cellD hs (k := 1) rfl rfl) fun a hk => ?_
  refine sm _ rfl hk rfl rfl rfl fun a hk => ?_
  obtain ⟨y3, h4, H⟩ := bind_some H
  refine scv (vs := ([(.string x0)] : List Value) ++ c1_) rfl rfl e1_ hk rfl rfl rfl (t1_ _ (hs.hasD (k := 2) rfl) x0 _ h4) ?_
  rintro _ w ⟨rfl, hG⟩ a hk
  have hs := hs.call0 hG
  refine sv (.bool (!y3)) hk rfl rfl rfl fun a hk => ?_
  refine sa _ rfl hk rfl rfl rfl fun a hk => ?_
  show wpList _ _ _ [] _ _
  refine wpList_nil ?_
  refine hK2 _ _ ?_
  refine wp_ret ?_
  obtain rfl := Option.some.inj H
  exact fin hk _ [(.bool (!y3))] rfl ⟨rfl, trivial⟩ ⟨rfl, (hs.pick [] rfl).dnil⟩

noncomputable def impl_areAll_string.f (l0 : List ByteArray) (q1 : ByteArray → Option (Bool)) : Option (Bool) :=
  ((slices_ContainsFunc_string_string.f l0 (fun z0 => impl_areAll_string__c1.f z0 q1)).bind fun y4 => (some (!y4)))
set_option maxRecDepth 100000 in
set_option maxHeartbeats 0 in
theorem impl_areAll_string_t (w0 : World) (A0_ : Option Addr) (p0_ : Nat) (l0 : List ByteArray) (k0_ : Chunk) (v0_ : View Lay.str A0_ p0_ l0 k0_) (w0_ : Has w0 k0_) (f1_ : FuncId) (c1_ : List Value) (e1_ : Enters Tryz.prog f1_) (q1 : ByteArray → Option (Bool)) (k1_ : Chunk) (t1_ : ∀ w, Has w k1_ → ∀ (z0 : ByteArray) (r : Bool), q1 z0 = some r → Calls Tryz.prog f1_ (([.string z0] : List Value) ++ c1_).toArray w (Ret (fun v w2 => v = .bool r ∧ Sat [] w w2 [] []))) (w1_ : Has w0 k1_) (r : Bool) (H : impl_areAll_string.f l0 q1 = some r) :
    Calls Tryz.prog 40 #[.slice A0_ l0.length p0_, .func (.func f1_) #[] c1_.toArray] w0 (Ret (fun v w => v = .bool r ∧ Sat [] w0 w [] [])) := by
  have hs : Sat [] w0 w0 [(1, k0_), (2, k1_)] [] := Sat.init w0 [(1, k0_), (2, k1_)] [] (by simp only [List.mem_cons, List.not_mem_nil, or_false]; rintro x (rfl | rfl) <;> assumption) (by simp) List.nodup_nil (by simp [blks])
  unfold impl_areAll_string.f at H
  refine enter Tryz.func40 rfl Tryz.ntmps40 rfl fun a hk => ?_
  apply wp_seq_k; intro K1 hK1
  apply wp_region_lit
  refine sbx 3 hs rfl hk rfl rfl rfl rfl fun b2 w a hk hs => ?_
  refine sa _ rfl hk rfl rfl rfl fun a hk => ?_
  show wpList _ _ _ [] _ _
  refine wpList_nil ?_
  refine hK1 _ _ ?_
  apply wp_seq_k; intro K3 hK3
  apply wp_region_lit
  refine sm _ rfl hk rfl rfl rfl fun a hk => ?_
  refine smf (cs := [.pointer (some ⟨b2, 0, none⟩)]) rfl hk rfl rfl rfl fun a hk => ?_
  obtain ⟨y4, h5, H⟩ := bind_some H
  refine sc rfl en67 hk rfl rfl rfl (slices_ContainsFunc_string_string_t _ A0_ p0_ l0 _ v0_ (hs.hasD (k := 1) rfl) 68 [.pointer (some ⟨b2, 0, none⟩)] en68 (fun z0 => impl_areAll_string__c1.f z0 q1) ([(b2, .cells #[.func (.func f1_) #[] c1_.toArray] 27 (0, 0))] ++ k1_) (fun w hz z0 r h => impl_areAll_string__c1_t w z0 _ f1_ c1_ e1_ q1 k1_ t1_ (Has.right hz) (Has.left hz) r h) (Has.app (hs.hasG (k := 3) rfl) (hs.hasD (k := 2) rfl)) _ h5) ?_
  rintro _ w ⟨rfl, hG⟩ a hk
  have hs := hs.call0 hG
  refine sv (.bool (!y4)) hk rfl rfl rfl fun a hk => ?_
  refine sa _ rfl hk rfl rfl rfl fun a hk => ?_
  show wpList _ _ _ [] _ _
  refine wpList_nil ?_
  refine hK3 _ _ ?_
  refine wp_ret ?_
  obtain rfl := Option.some.inj H
  exact fin hk _ [(.bool (!y4))] rfl ⟨rfl, trivial⟩ ⟨rfl, (hs.pick [] rfl).dnil⟩

noncomputable def impl_areShort_c1.f (x0 : ByteArray) : Option (Bool) :=
  (some (decide ((x0.size : Int) ≤ 65536)))
set_option maxRecDepth 100000 in
set_option maxHeartbeats 0 in
theorem impl_areShort_c1_t (w0 : World) (x0 : ByteArray) (r : Bool) (H : impl_areShort_c1.f x0 = some r) :
    Calls Tryz.prog 41 #[.string x0] w0 (Ret (fun v w => v = .bool r ∧ Sat [] w0 w [] [])) := by
  have hs : Sat [] w0 w0 [] [] := Sat.init w0 [] [] (by simp) (by simp) List.nodup_nil (by simp [blks])
  unfold impl_areShort_c1.f at H
  refine enter Tryz.func41 rfl Tryz.ntmps41 rfl fun a hk => ?_
  apply wp_seq_k; intro K1 hK1
  apply wp_region_lit
  refine sa _ rfl hk rfl rfl rfl fun a hk => ?_
  show wpList _ _ _ [] _ _
  refine wpList_nil ?_
  refine hK1 _ _ ?_
  apply wp_seq_k; intro K2 hK2
  apply wp_region_lit
  refine sm _ rfl hk rfl rfl rfl fun a hk => ?_
  refine sles rfl hk rfl rfl rfl un9 fun a hk => ?_
  refine sv (.bool (decide ((x0.size : Int) ≤ 65536))) hk rfl rfl rfl fun a hk => ?_
  refine sa _ rfl hk rfl rfl rfl fun a hk => ?_
  show wpList _ _ _ [] _ _
  refine wpList_nil ?_
  refine hK2 _ _ ?_
  refine wp_ret ?_
  obtain rfl := Option.some.inj H
  exact fin hk _ [(.bool (decide ((x0.size : Int) ≤ 65536)))] rfl ⟨rfl, trivial⟩ ⟨rfl, (hs.pick [] rfl).dnil⟩

noncomputable def impl_areShort.f (l0 : List ByteArray) : Option (Bool) :=
  ((impl_areAll_string.f l0 impl_areShort_c1.f).bind fun y3 => (some y3))
set_option maxRecDepth 100000 in
set_option maxHeartbeats 0 in
theorem impl_areShort_t (w0 : World) (A0_ : Option Addr) (p0_ : Nat) (l0 : List ByteArray) (k0_ : Chunk) (v0_ : View Lay.str A0_ p0_ l0 k0_) (w0_ : Has w0 k0_) (r : Bool) (H : impl_areShort.f l0 = some r) :
    Calls Tryz.prog 19 #[.slice A0_ l0.length p0_] w0 (Ret (fun v w => v = .bool r ∧ Sat [] w0 w [] [])) := by
  have hs : Sat [] w0 w0 [(1, k0_)] [] := Sat.init w0 [(1, k0_)] [] (by simp only [List.mem_cons, List.not_mem_nil, or_false]; rintro x (rfl) <;> assumption) (by simp) List.nodup_nil (by simp [blks])
  unfold impl_areShort.f at H
  refine enter Tryz.func19 rfl Tryz.ntmps19 rfl fun a hk => ?_
  apply wp_seq_k; intro K1 hK1
  apply wp_region_lit
  refine sa _ rfl hk rfl rfl rfl fun a hk => ?_
  show wpList _ _ _ [] _ _
  refine wpList_nil ?_
  refine hK1 _ _ ?_
  apply wp_seq_k; intro K2 hK2
  apply wp_region_lit
  refine sm _ rfl hk rfl rfl rfl fun a hk => ?_
  obtain ⟨y3, h4, H⟩ := bind_some H
  refine sc rfl en40 hk rfl rfl rfl (impl_areAll_string_t _ A0_ p0_ l0 _ v0_ (hs.hasD (k := 1) rfl) 41 [] en41 impl_areShort_c1.f [] (fun w _ z0 r h => impl_areShort_c1_t w z0 r h) (Has.nil _) _ h4) ?_
  rintro _ w ⟨rfl, hG⟩ a hk
  have hs := hs.call0 hG
  refine sa _ rfl hk rfl rfl rfl fun a hk => ?_
  show wpList _ _ _ [] _ _
  refine wpList_nil ?_
  refine hK2 _ _ ?_
  refine wp_ret ?_
  obtain rfl := Option.some.inj H
  exact fin hk _ [(.bool y3)] rfl ⟨rfl, trivial⟩ ⟨rfl, (hs.pick [] rfl).dnil⟩

noncomputable def impl_within.f (x0 : Int) (x1 : Int) (x2 : Int) : Option (Bool) :=
  (((bif (decide (x1 ≤ x0)) then (some (decide (x0 ≤ x2))) else (some false)) : Option (Bool)).bind fun u4 => (some u4))
set_option maxRecDepth 100000 in
set_option maxHeartbeats 0 in
theorem impl_within_t (w0 : World) (x0 : Int) (x1 : Int) (x2 : Int) (r : Bool) (H : impl_within.f x0 x1 x2 = some r) :
    Calls Tryz.prog 32 #[.int .i64 x0, .int .i64 x1, .int .i64 x2] w0 (Ret (fun v w => v = .bool r ∧ Sat [] w0 w [] [])) := by
  have hs : Sat [] w0 w0 [] [] := Sat.init w0 [] [] (by simp) (by simp) List.nodup_nil (by simp [blks])
  unfold impl_within.f at H
  refine enter Tryz.func32 rfl Tryz.ntmps32 rfl fun a hk => ?_
  apply wp_seq_k; intro K1 hK1
  apply wp_region_lit
  refine sa _ rfl hk rfl rfl rfl fun a hk => ?_
  show wpList _ _ _ [] _ _
  refine wpList_nil ?_
  refine hK1 _ _ ?_
  apply wp_seq_k; intro K2 hK2
  obtain ⟨o5, h6, HL7⟩ := bind_some H
  clear H
  obtain ⟨R8, hR8⟩ : ∃ R : Act → World → Prop, R = fun a w => ∃ (u4 : Bool), u4 = o5 ∧ Kn [(6, (.bool u4))] 15 a ∧ Sat [] w0 w [] [] := ⟨_, rfl⟩
  refine wp_cutq R8 ?_ ?_
  ·have H := h6
   apply wp_region_lit
   refine sm _ rfl hk rfl rfl rfl fun a hk => ?_
   refine sm _ rfl hk rfl rfl rfl fun a hk => ?_
   refine sv (.bool (decide (x1 ≤ x0))) hk rfl rfl rfl fun a hk => ?_
   refine sm _ rfl hk rfl rfl rfl fun a hk => ?_
   rcases cond_some H with ⟨c9, H⟩ | ⟨c9, H⟩
   ·have hk := hk.lit 10 c9 rfl
    refine sm _ rfl hk rfl rfl rfl fun a hk => ?_
    refine sm _ rfl hk rfl rfl rfl fun a hk => ?_
    refine sv (.bool (decide (x0 ≤ x2))) hk rfl rfl rfl fun a hk => ?_
    refine sv (.bool (decide (x0 ≤ x2))) hk rfl rfl rfl fun a hk => ?_
    refine sa _ rfl hk rfl rfl rfl fun a hk => ?_
    show wpList _ _ _ [] _ _
    refine wpList_nil ?_
    obtain rfl := Option.some.inj H
    show R8 _ _
    rw [hR8]
    exact ⟨(decide (x0 ≤ x2)), rfl, (hk.c 6 rfl hk.k), (hs.pick [] rfl)⟩
   ·have hk := hk.lit 10 c9 rfl
    refine sk hk rfl rfl rfl fun a hk => ?_
    refine sk hk rfl rfl rfl fun a hk => ?_
    refine sk hk rfl rfl rfl fun a hk => ?_
    refine sv (.bool false) hk rfl rfl rfl fun a hk => ?_
    refine sa _ rfl hk rfl rfl rfl fun a hk => ?_
    show wpList _ _ _ [] _ _
    refine wpList_nil ?_
    obtain rfl := Option.some.inj H
    show R8 _ _
    rw [hR8]
    exact ⟨false, rfl, (hk.c 6 rfl hk.k), (hs.pick [] rfl)⟩
  ·intro a w hR0
   rw [hR8] at hR0
   obtain ⟨u4, rfl, hk, hs⟩ := hR0
   have H := HL7
   try dsimp only at H
   refine hK2 _ _ ?_
   refine wp_ret ?_
   obtain rfl := Option.some.inj H
   exact fin hk _ [(.bool u4)] rfl ⟨rfl, trivial⟩ ⟨rfl, (hs.pick [] rfl).dnil⟩

noncomputable def slices_IndexFunc_impl_Txn_impl_Txn.s0 (l0 : List S_Txn) (q1 : S_Txn → Option (Bool)) (u6 : Int) : Option ((Int) ⊕ Ex (Unit) (Int)) :=
  (bif (decide (u6 < (l0.length : Int))) then (if 0 ≤ u6 ∧ u6 < (l0.length : Int) then ((q1 (l0.getD u6.toNat z_Txn)).bind fun y28 => (bif y28 then (some (.inr (.ret u6))) else (some (.inl (w64 (u6 + 1)))))) else none) else (some (.inr (.out ()))))
noncomputable def slices_IndexFunc_impl_Txn_impl_Txn.f (l0 : List S_Txn) (q1 : S_Txn → Option (Bool)) : Option (Int) :=
  ((loopO (fun s => slices_IndexFunc_impl_Txn_impl_Txn.s0 l0 q1 s) 0).bind fun o => match o with | .out _ => (some (-1)) | .ret r => (some r))
set_option maxRecDepth 100000 in
set_option maxHeartbeats 0 in
theorem slices_IndexFunc_impl_Txn_impl_Txn_t (w0 : World) (A0_ : Option Addr) (p0_ : Nat) (l0 : List S_Txn) (k0_ : Chunk) (v0_ : View L_impl_Txn A0_ p0_ l0 k0_) (w0_ : Has w0 k0_) (f1_ : FuncId) (c1_ : List Value) (e1_ : Enters Tryz.prog f1_) (q1 : S_Txn → Option (Bool)) (k1_ : Chunk) (t1_ : ∀ w, Has w k1_ → ∀ (z0 : S_Txn) (z0A0 : Option Addr) (z0p0 : Nat) (z0k0 : Chunk) (z0v0 : View L_Op z0A0 z0p0 z0.Ops z0k0) (z0w0 : Has w z0k0) (r : Bool), q1 z0 = some r → Calls Tryz.prog f1_ (([.agg #[.slice z0A0 z0.Ops.length z0p0]] : List Value) ++ c1_).toArray w (Ret (fun v w2 => v = .bool r ∧ Sat [] w w2 [] []))) (w1_ : Has w0 k1_) (r : Int) (H : slices_IndexFunc_impl_Txn_impl_Txn.f l0 q1 = some r) :
    Calls Tryz.prog 80 #[.slice A0_ l0.length p0_, .func (.func f1_) #[] c1_.toArray] w0 (Ret (fun v w => v = .int .i64 r ∧ Sat [] w0 w [] [])) := by
  have hs : Sat [] w0 w0 [(1, k0_), (2, k1_)] [] := Sat.init w0 [(1, k0_), (2, k1_)] [] (by simp only [List.mem_cons, List.not_mem_nil, or_false]; rintro x (rfl | rfl) <;> assumption) (by simp) List.nodup_nil (by simp [blks])
  unfold slices_IndexFunc_impl_Txn_impl_Txn.f at H
  refine enter Tryz.func80 rfl Tryz.ntmps80 rfl fun a hk => ?_
  apply wp_seq_k; intro K1 hK1
  apply wp_region_lit
  refine sa _ rfl hk rfl rfl rfl fun a hk => ?_
  show wpList _ _ _ [] _ _
  refine wpList_nil ?_
  refine hK1 _ _ ?_
  apply wp_seq_k; intro K2 hK2
  apply wp_seq_k; intro K3 hK3
  apply wp_region_lit
  refine sm _ rfl hk rfl rfl rfl fun a hk => ?_
  refine sle rfl hk rfl rfl rfl un22 fun a hk => ?_
  refine sm _ rfl hk rfl rfl rfl fun a hk => ?_
  show wpList _ _ _ [] _ _
  refine wpList_nil ?_
  refine hK3 _ _ ?_
  obtain ⟨o7, h8, HL9⟩ := bind_some H
  clear H
  obtain ⟨R10, hR10⟩ : ∃ R : Act → World → Prop, R = fun a w => o7 = .out () ∧ Kn [] 19 a ∧ Sat [] w0 w [(1, k0_), (2, k1_)] [] := ⟨_, rfl⟩
  refine wp_cutq R10 ?_ ?_
  ·refine wp_block ?_
   obtain ⟨fu12, h8⟩ := loopO_some h8
   obtain ⟨I11, hI11⟩ : ∃ I : Nat → Act → World → Prop, I = fun fu a w => ∃ (u6 : Int), loopN (fun s => slices_IndexFunc_impl_Txn_impl_Txn.s0 l0 q1 s) fu u6 = some o7 ∧ Kn [(0, (.slice A0_ l0.length p0_)), (1, (.func (.func f1_) #[] c1_.toArray)), (7, (.int .i64 (l0.length : Int))), (8, (.int .i64 u6))] 19 a ∧ Sat [] w0 w [(1, k0_), (2, k1_)] [] := ⟨_, rfl⟩
   refine wp_loop_ghost I11 fu12 ?_ ?_
   ·rw [hI11]
    exact ⟨0, h8, (hk.c 0 rfl (hk.c 1 rfl (hk.c 7 rfl (hk.c 8 rfl hk.k)))), (hs.pick [] rfl)⟩
   ·clear h8 hk hs
    intro fu12 a w hI0
    rw [hI11] at hI0
    obtain ⟨u6, hi, hk, hs⟩ := hI0
    obtain ⟨x13, H, h14⟩ := loop_round hi
    try dsimp only at H
    unfold slices_IndexFunc_impl_Txn_impl_Txn.s0 at H
    apply wp_seq_k; intro K15 hK15
    apply wp_region_lit
    refine sv (.bool (decide (u6 < (l0.length : Int)))) hk rfl rfl rfl fun a hk => ?_
    show wpList _ _ _ [] _ _
    refine wpList_nil ?_
    refine hK15 _ _ ?_
    apply wp_seq_k; intro K16 hK16
    rcases cond_some H with ⟨c17, H⟩ | ⟨c17, H⟩
    ·have hk := hk.lit 9 c17 rfl
     refine cnd_true hk rfl rfl ?_
     refine wp_skip ?_
     refine hK16 _ _ ?_
     have hs := hs.pick [] rfl
     apply wp_seq_k; intro K18 hK18
     refine wp_block ?_
     apply wp_seq_k; intro K19 hK19
     apply wp_region_lit
     refine sm _ rfl hk rfl rfl rfl fun a hk => ?_
     refine sa _ rfl hk rfl rfl rfl fun a hk => ?_
     show wpList _ _ _ [] _ _
     refine wpList_nil ?_
     refine hK19 _ _ ?_
     apply wp_seq_k; intro K20 hK20
     apply wp_region_lit
     refine sm _ rfl hk rfl rfl rfl fun a hk => ?_
     refine sm _ rfl hk rfl rfl rfl fun a hk => ?_
     refine sm _ rfl hk rfl rfl rfl fun a hk => ?_
     rcases ite_some H with ⟨c21, H⟩ | ⟨_, H⟩
     rotate_left
     ·cases H
     obtain ⟨b22, q23, hAc21⟩ := (v0_).some_ u6 c21.1 c21.2
     refine si rfl hk rfl rfl rfl rfl un22 sz36 c21.1 c21.2 hAc21 fun a hk => ?_
     obtain ⟨_, ⟨_, rfl, A25, p26, rfl, v27⟩, e24⟩ := (v0_).at_ z_Txn u6 c21.1 c21.2
     refine sln [.slice A25 ((l0.getD u6.toNat z_Txn).Ops).length p26] rfl hk rfl rfl rfl ag36 sz36 (cells_at e24 (hs.hasD (k := 1) rfl)) fun a hk => ?_
     obtain ⟨y28, h29, H⟩ := bind_some H
     refine scv (vs := ([(.agg #[.slice A25 ((l0.getD u6.toNat z_Txn).Ops).length p26])] : List Value) ++ c1_) rfl rfl e1_ hk rfl rfl rfl (t1_ _ (hs.hasD (k := 2) rfl) (l0.getD u6.toNat z_Txn) A25 p26 _ v27 (hs.hasD (k := 1) rfl) _ h29) ?_
     rintro _ w ⟨rfl, hG⟩ a hk
     have hs := hs.call0 hG
     show wpList _ _ _ [] _ _
     refine wpList_nil ?_
     refine hK20 _ _ ?_
     rcases cond_some H with ⟨c30, H⟩ | ⟨c30, H⟩
     ·have hk := hk.lit 16 c30 rfl
      refine cnd_true hk rfl rfl ?_
      apply wp_seq_k; intro K31 hK31
      apply wp_region_lit
      refine sm _ rfl hk rfl rfl rfl fun a hk => ?_
      refine sa _ rfl hk rfl rfl rfl fun a hk => ?_
      show wpList _ _ _ [] _ _
      refine wpList_nil ?_
      refine hK31 _ _ ?_
      refine wp_ret ?_
      obtain rfl := Option.some.inj H
      have ho7 := h14
      try dsimp only at ho7
      subst ho7
      have H := HL9
      try dsimp only at H
      obtain rfl := Option.some.inj H
      exact fin hk _ [(.int .i64 u6)] rfl ⟨rfl, trivial⟩ ⟨rfl, (hs.pick [] rfl).dnil⟩
     ·have hk := hk.lit 16 c30 rfl
      refine cnd_false hk rfl rfl ?_
      refine wp_skip ?_
      refine hK18 _ _ ?_
      apply wp_region_lit
      refine sv (.int .i64 (w64 (u6 + 1))) hk rfl rfl rfl fun a hk => ?_
      refine sm _ rfl hk rfl rfl rfl fun a hk => ?_
      show wpList _ _ _ [] _ _
      refine wpList_nil ?_
      obtain rfl := Option.some.inj H
      obtain ⟨m32, hmm32, h14⟩ := h14
      show ∃ n', n' < _ ∧ I11 n' _ _
      refine ⟨m32, hmm32, ?_⟩
      rw [hI11]
      exact ⟨(w64 (u6 + 1)), h14, (hk.c 0 rfl (hk.c 1 rfl (hk.c 7 rfl (hk.c 8 rfl hk.k)))), (hs.pick [] rfl)⟩
    ·have hk := hk.lit 9 c17 rfl
     refine cnd_false hk rfl rfl ?_
     refine wp_exit ?_
     obtain rfl := Option.some.inj H
     show R10 _ _
     rw [hR10]
     exact ⟨h14.symm, hk.k, (hs.pick [] rfl)⟩
  ·intro a w hR0
   rw [hR10] at hR0
   obtain ⟨rfl, hk, hs⟩ := hR0
   have H := HL9
   try dsimp only at H
   refine hK2 _ _ ?_
   apply wp_seq_k; intro K33 hK33
   apply wp_region_lit
   refine sa _ rfl hk rfl rfl rfl fun a hk => ?_
   show wpList _ _ _ [] _ _
   refine wpList_nil ?_
   refine hK33 _ _ ?_
   have hs := hs.pick [] rfl
   refine wp_ret ?_
   obtain rfl := Option.some.inj H
   exact fin hk _ [(.int .i64 (-1))] rfl ⟨rfl, trivial⟩ ⟨rfl, (hs.pick [] rfl).dnil⟩

noncomputable def slices_ContainsFunc_impl_Txn_impl_Txn.f (l0 : List S_Txn) (q1 : S_Txn → Option (Bool)) : Option (Bool) :=
  ((slices_IndexFunc_impl_Txn_impl_Txn.f l0 q1).bind fun y3 => (some (decide (y3 ≥ 0))))
set_option maxRecDepth 100000 in
set_option maxHeartbeats 0 in
theorem slices_ContainsFunc_impl_Txn_impl_Txn_t (w0 : World) (A0_ : Option Addr) (p0_ : Nat) (l0 : List S_Txn) (k0_ : Chunk) (v0_ : View L_impl_Txn A0_ p0_ l0 k0_) (w0_ : Has w0 k0_) (f1_ : FuncId) (c1_ : List Value) (e1_ : Enters Tryz.prog f1_) (q1 : S_Txn → Option (Bool)) (k1_ : Chunk) (t1_ : ∀ w, Has w k1_ → ∀ (z0 : S_Txn) (z0A0 : Option Addr) (z0p0 : Nat) (z0k0 : Chunk) (z0v0 : View L_Op z0A0 z0p0 z0.Ops z0k0) (z0w0 : Has w z0k0) (r : Bool), q1 z0 = some r → Calls Tryz.prog f1_ (([.agg #[.slice z0A0 z0.Ops.length z0p0]] : List Value) ++ c1_).toArray w (Ret (fun v w2 => v = .bool r ∧ Sat [] w w2 [] []))) (w1_ : Has w0 k1_) (r : Bool) (H : slices_ContainsFunc_impl_Txn_impl_Txn.f l0 q1 = some r) :
    Calls Tryz.prog 59 #[.slice A0_ l0.length p0_, .func (.func f1_) #[] c1_.toArray] w0 (Ret (fun v w => v = .bool r ∧ Sat [] w0 w [] [])) := by
  have hs : Sat [] w0 w0 [(1, k0_), (2, k1_)] [] := Sat.init w0 [(1, k0_), (2, k1_)] [] (by simp only [List.mem_cons, List.not_mem_nil, or_false]; rintro x (rfl | rfl) <;> assumption) (by simp) List.nodup_nil (by simp [blks])
  unfold slices_ContainsFunc_impl_Txn_impl_Txn.f at H
  refine enter Tryz.func59 rfl Tryz.ntmps59 rfl fun a hk => ?_
  apply wp_seq_k; intro K1 hK1
  apply wp_region_lit
  refine sa _ rfl hk rfl rfl rfl fun a hk => ?_
  show wpList _ _ _ [] _ _
  refine wpList_nil ?_
  refine hK1 _ _ ?_
  apply wp_seq_k; intro K2 hK2
  apply wp_region_lit
  refine sm _ rfl hk rfl rfl rfl fun a hk => ?_
  refine sm _ rfl hk rfl rfl rfl fun a hk => ?_
  obtain ⟨y3, h4, H⟩ := bind_some H
  refine sc rfl en80 hk rfl rfl rfl (slices_IndexFunc_impl_Txn_impl_Txn_t _ A0_ p0_ l0 _ v0_ (hs.hasD (k := 1) rfl) f1_ c1_ e1_ q1 k1_ t1_ (hs.hasD (k := 2) rfl) _ h4) ?_
  rintro _ w ⟨rfl, hG⟩ a hk
  have hs := hs.call0 hG
  refine sv (.bool (decide (y3 ≥ 0))) hk rfl rfl rfl fun a hk => ?_
  refine sa _ rfl hk rfl rfl rfl fun a hk => ?_
  show wpList _ _ _ [] _ _
  refine wpList_nil ?_
  refine hK2 _ _ ?_
  refine wp_ret ?_
  obtain rfl := Option.some.inj H
  exact fin hk _ [(.bool (decide (y3 ≥ 0)))] rfl ⟨rfl, trivial⟩ ⟨rfl, (hs.pick [] rfl).dnil⟩

noncomputable def impl_areAll_impl_Txn__c1.f (x0 : S_Txn) (q1 : S_Txn → Option (Bool)) : Option (Bool) :=
  ((q1 x0).bind fun y4 => (some (!y4)))
set_option maxRecDepth 100000 in
set_option maxHeartbeats 0 in
theorem impl_areAll_impl_Txn__c1_t (w0 : World) (x0 : S_Txn) (A0_0 : Option Addr) (p0_0 : Nat) (k0_0 : Chunk) (v0_0 : View L_Op A0_0 p0_0 x0.Ops k0_0) (w0_0 : Has w0 k0_0) (b1_ : Nat) (f1_ : FuncId) (c1_ : List Value) (e1_ : Enters Tryz.prog f1_) (q1 : S_Txn → Option (Bool)) (k1_ : Chunk) (t1_ : ∀ w, Has w k1_ → ∀ (z0 : S_Txn) (z0A0 : Option Addr) (z0p0 : Nat) (z0k0 : Chunk) (z0v0 : View L_Op z0A0 z0p0 z0.Ops z0k0) (z0w0 : Has w z0k0) (r : Bool), q1 z0 = some r → Calls Tryz.prog f1_ (([.agg #[.slice z0A0 z0.Ops.length z0p0]] : List Value) ++ c1_).toArray w (Ret (fun v w2 => v = .bool r ∧ Sat [] w w2 [] []))) (w1_ : Has w0 k1_) (h1_ : Has w0 [(b1_, .cells #[.func (.func f1_) #[] c1_.toArray] 58 (0, 0))]) (r : Bool) (H : impl_areAll_impl_Txn__c1.f x0 q1 = some r) :
    Calls Tryz.prog 60 #[.agg #[.slice A0_0 x0.Ops.length p0_0], .pointer (some ⟨b1_, 0, none⟩)] w0 (Ret (fun v w => v = .bool r ∧ Sat [] w0 w [] [])) := by
  have hs : Sat [] w0 w0 [(1, k0_0), (3, k1_), (2, [(b1_, .cells #[.func (.func f1_) #[] c1_.toArray] 58 (0, 0))])] [] := Sat.init w0 [(1, k0_0), (3, k1_), (2, [(b1_, .cells #[.func (.func f1_) #[] c1_.toArray] 58 (0, 0))])] [] (by simp only [List.mem_cons, List.not_mem_nil, or_false]; rintro x (rfl | rfl | rfl) <;> assumption) (by simp) List.nodup_nil (by simp [blks])
  unfold impl_areAll_impl_Txn__c1.f at H
  refine enter Tryz.func60 rfl Tryz.ntmps60 rfl fun a hk => ?_
  apply wp_seq_k; intro K1 hK1
  apply wp_region_lit
  refine sbx 4 hs rfl hk rfl rfl rfl rfl fun b2 w a hk hs => ?_
  refine sa _ rfl hk rfl rfl rfl fun a hk => ?_
  show wpList _ _ _ [] _ _
  refine wpList_nil ?_
  refine hK1 _ _ ?_
  apply wp_seq_k; intro K3 hK3
  apply wp_region_lit
  refine sl rfl hk rfl rfl rfl ag58 (box_cellD hs (k := 2) rfl rfl) fun a hk => ?_
  refine sln [.slice A0_0 x0.Ops.length p0_0] rfl hk rfl rfl rfl ag36 sz36 (box_cells hs (k := 4) rfl) fun a hk => ?_
  obtain ⟨y4, h5, H⟩ := bind_some H
  refine scv (vs := ([(.agg #[.slice A0_0 x0.Ops.length p0_0])] : List Value) ++ c1_) rfl rfl e1_ hk rfl rfl rfl (t1_ _ (hs.hasD (k := 3) rfl) x0 A0_0 p0_0 _ v0_0 (hs.hasD (k := 1) rfl) _ h5) ?_
  rintro _ w ⟨rfl, hG⟩ a hk
  have hs := hs.call0 hG
  refine sv (.bool (!y4)) hk rfl rfl rfl fun a hk => ?_
  refine sa _ rfl hk rfl rfl rfl fun a hk => ?_
  show wpList _ _ _ [] _ _
  refine wpList_nil ?_
  refine hK3 _ _ ?_
  refine wp_ret ?_
  obtain rfl := Option.some.inj H
  exact fin hk _ [(.bool (!y4))] rfl ⟨rfl, trivial⟩ ⟨rfl, (hs.pick [] rfl).dnil⟩

noncomputable def impl_areAll_impl_Txn.f (l0 : List S_Txn) (q1 : S_Txn → Option (Bool)) : Option (Bool) :=
  ((slices_ContainsFunc_impl_Txn_impl_Txn.f l0 (fun z0 => impl_areAll_impl_Txn__c1.f z0 q1)).bind fun y4 => (some (!y4)))
set_option maxRecDepth 100000 in
set_option maxHeartbeats 0 in
theorem impl_areAll_impl_Txn_t (w0 : World) (A0_ : Option Addr) (p0_ : Nat) (l0 : List S_Txn) (k0_ : Chunk) (v0_ : View L_impl_Txn A0_ p0_ l0 k0_) (w0_ : Has w0 k0_) (f1_ : FuncId) (c1_ : List Value) (e1_ : Enters Tryz.prog f1_) (q1 : S_Txn → Option (Bool)) (k1_ : Chunk) (t1_ : ∀ w, Has w k1_ → ∀ (z0 : S_Txn) (z0A0 : Option Addr) (z0p0 : Nat) (z0k0 : Chunk) (z0v0 : View L_Op z0A0 z0p0 z0.Ops z0k0) (z0w0 : Has w z0k0) (r : Bool), q1 z0 = some r → Calls Tryz.prog f1_ (([.agg #[.slice z0A0 z0.Ops.length z0p0]] : List Value) ++ c1_).toArray w (Ret (fun v w2 => v = .bool r ∧ Sat [] w w2 [] []))) (w1_ : Has w0 k1_) (r : Bool) (H : impl_areAll_impl_Txn.f l0 q1 = some r) :
    Calls Tryz.prog 36 #[.slice A0_ l0.length p0_, .func (.func f1_) #[] c1_.toArray] w0 (Ret (fun v w => v = .bool r ∧ Sat [] w0 w [] [])) := by
  have hs : Sat [] w0 w0 [(1, k0_), (2, k1_)] [] := Sat.init w0 [(1, k0_), (2, k1_)] [] (by simp only [List.mem_cons, List.not_mem_nil, or_false]; rintro x (rfl | rfl) <;> assumption) (by simp) List.nodup_nil (by simp [blks])
  unfold impl_areAll_impl_Txn.f at H
  refine enter Tryz.func36 rfl Tryz.ntmps36 rfl fun a hk => ?_
  apply wp_seq_k; intro K1 hK1
  apply wp_region_lit
  refine sbx 3 hs rfl hk rfl rfl rfl rfl fun b2 w a hk hs => ?_
  refine sa _ rfl hk rfl rfl rfl fun a hk => ?_
  show wpList _ _ _ [] _ _
  refine wpList_nil ?_
  refine hK1 _ _ ?_
  apply wp_seq_k; intro K3 hK3
  apply wp_region_lit
  refine sm _ rfl hk rfl rfl rfl fun a hk => ?_
  refine smf (cs := [.pointer (some ⟨b2, 0, none⟩)]) rfl hk rfl rfl rfl fun a hk => ?_
  obtain ⟨y4, h5, H⟩ := bind_some H
  refine sc rfl en59 hk rfl rfl rfl (slices_ContainsFunc_impl_Txn_impl_Txn_t _ A0_ p0_ l0 _ v0_ (hs.hasD (k := 1) rfl) 60 [.pointer (some ⟨b2, 0, none⟩)] en60 (fun z0 => impl_areAll_impl_Txn__c1.f z0 q1) ([(b2, .cells #[.func (.func f1_) #[] c1_.toArray] 58 (0, 0))] ++ k1_) (fun w hz z0 z0A0 z0p0 z0k0 z0v0 z0w0 r h => impl_areAll_impl_Txn__c1_t w z0 z0A0 z0p0 z0k0 z0v0 z0w0 _ f1_ c1_ e1_ q1 k1_ t1_ (Has.right hz) (Has.left hz) r h) (Has.app (hs.hasG (k := 3) rfl) (hs.hasD (k := 2) rfl)) _ h5) ?_
  rintro _ w ⟨rfl, hG⟩ a hk
  have hs := hs.call0 hG
  refine sv (.bool (!y4)) hk rfl rfl rfl fun a hk => ?_
  refine sa _ rfl hk rfl rfl rfl fun a hk => ?_
  show wpList _ _ _ [] _ _
  refine wpList_nil ?_
  refine hK3 _ _ ?_
  refine wp_ret ?_
  obtain rfl := Option.some.inj H
  exact fin hk _ [(.bool (!y4))] rfl ⟨rfl, trivial⟩ ⟨rfl, (hs.pick [] rfl).dnil⟩

noncomputable def impl_isKey.f (x0 : Int) : Option (Bool) :=
  ((impl_within.f x0 1 9999).bind fun y3 => (some y3))
set_option maxRecDepth 100000 in
set_option maxHeartbeats 0 in
theorem impl_isKey_t (w0 : World) (x0 : Int) (r : Bool) (H : impl_isKey.f x0 = some r) :
    Calls Tryz.prog 33 #[.int .i64 x0] w0 (Ret (fun v w => v = .bool r ∧ Sat [] w0 w [] [])) := by
  have hs : Sat [] w0 w0 [] [] := Sat.init w0 [] [] (by simp) (by simp) List.nodup_nil (by simp [blks])
  unfold impl_isKey.f at H
  refine enter Tryz.func33 rfl Tryz.ntmps33 rfl fun a hk => ?_
  apply wp_seq_k; intro K1 hK1
  apply wp_region_lit
  refine sa _ rfl hk rfl rfl rfl fun a hk => ?_
  show wpList _ _ _ [] _ _
  refine wpList_nil ?_
  refine hK1 _ _ ?_
  apply wp_seq_k; intro K2 hK2
  apply wp_region_lit
  refine sm _ rfl hk rfl rfl rfl fun a hk => ?_
  obtain ⟨y3, h4, H⟩ := bind_some H
  refine sc rfl en32 hk rfl rfl rfl (impl_within_t _ x0 1 9999 _ h4) ?_
  rintro _ w ⟨rfl, hG⟩ a hk
  have hs := hs.call0 hG
  refine sa _ rfl hk rfl rfl rfl fun a hk => ?_
  show wpList _ _ _ [] _ _
  refine wpList_nil ?_
  refine hK2 _ _ ?_
  refine wp_ret ?_
  obtain rfl := Option.some.inj H
  exact fin hk _ [(.bool y3)] rfl ⟨rfl, trivial⟩ ⟨rfl, (hs.pick [] rfl).dnil⟩

noncomputable def impl_isBare.f (x0 : Int) : Option (Bool) :=
  (((bif (x0 == 1) then (some true) else (some (x0 == 3))) : Option (Bool)).bind fun u4 => (some u4))
set_option maxRecDepth 100000 in
set_option maxHeartbeats 0 in
theorem impl_isBare_t (w0 : World) (x0 : Int) (r : Bool) (H : impl_isBare.f x0 = some r) :
    Calls Tryz.prog 34 #[.int .i64 x0] w0 (Ret (fun v w => v = .bool r ∧ Sat [] w0 w [] [])) := by
  have hs : Sat [] w0 w0 [] [] := Sat.init w0 [] [] (by simp) (by simp) List.nodup_nil (by simp [blks])
  unfold impl_isBare.f at H
  refine enter Tryz.func34 rfl Tryz.ntmps34 rfl fun a hk => ?_
  apply wp_seq_k; intro K1 hK1
  apply wp_region_lit
  refine sa _ rfl hk rfl rfl rfl fun a hk => ?_
  show wpList _ _ _ [] _ _
  refine wpList_nil ?_
  refine hK1 _ _ ?_
  apply wp_seq_k; intro K2 hK2
  obtain ⟨o5, h6, HL7⟩ := bind_some H
  clear H
  obtain ⟨R8, hR8⟩ : ∃ R : Act → World → Prop, R = fun a w => ∃ (u4 : Bool), u4 = o5 ∧ Kn [(2, (.bool u4))] 9 a ∧ Sat [] w0 w [] [] := ⟨_, rfl⟩
  refine wp_cutq R8 ?_ ?_
  ·have H := h6
   apply wp_region_lit
   refine sm _ rfl hk rfl rfl rfl fun a hk => ?_
   refine sv (.bool (x0 == 1)) hk rfl rfl rfl fun a hk => ?_
   refine sm _ rfl hk rfl rfl rfl fun a hk => ?_
   rcases cond_some H with ⟨c9, H⟩ | ⟨c9, H⟩
   ·have hk := hk.lit 5 c9 rfl
    refine sk hk rfl rfl rfl fun a hk => ?_
    refine sk hk rfl rfl rfl fun a hk => ?_
    refine sv (.bool true) hk rfl rfl rfl fun a hk => ?_
    refine sa _ rfl hk rfl rfl rfl fun a hk => ?_
    show wpList _ _ _ [] _ _
    refine wpList_nil ?_
    obtain rfl := Option.some.inj H
    show R8 _ _
    rw [hR8]
    exact ⟨true, rfl, (hk.c 2 rfl hk.k), (hs.pick [] rfl)⟩
   ·have hk := hk.lit 5 c9 rfl
    refine sm _ rfl hk rfl rfl rfl fun a hk => ?_
    refine sv (.bool (x0 == 3)) hk rfl rfl rfl fun a hk => ?_
    refine sv (.bool (x0 == 3)) hk rfl rfl rfl fun a hk => ?_
    refine sa _ rfl hk rfl rfl rfl fun a hk => ?_
    show wpList _ _ _ [] _ _
    refine wpList_nil ?_
    obtain rfl := Option.some.inj H
    show R8 _ _
    rw [hR8]
    exact ⟨(x0 == 3), rfl, (hk.c 2 rfl hk.k), (hs.pick [] rfl)⟩
  ·intro a w hR0
   rw [hR8] at hR0
   obtain ⟨u4, rfl, hk, hs⟩ := hR0
   have H := HL7
   try dsimp only at H
   refine hK2 _ _ ?_
   refine wp_ret ?_
   obtain rfl := Option.some.inj H
   exact fin hk _ [(.bool u4)] rfl ⟨rfl, trivial⟩ ⟨rfl, (hs.pick [] rfl).dnil⟩

noncomputable def impl_isValue.f (x0 : Int) : Option (Bool) :=
  ((impl_within.f x0 0 999999).bind fun y3 => (some y3))
set_option maxRecDepth 100000 in
set_option maxHeartbeats 0 in
theorem impl_isValue_t (w0 : World) (x0 : Int) (r : Bool) (H : impl_isValue.f x0 = some r) :
    Calls Tryz.prog 35 #[.int .i64 x0] w0 (Ret (fun v w => v = .bool r ∧ Sat [] w0 w [] [])) := by
  have hs : Sat [] w0 w0 [] [] := Sat.init w0 [] [] (by simp) (by simp) List.nodup_nil (by simp [blks])
  unfold impl_isValue.f at H
  refine enter Tryz.func35 rfl Tryz.ntmps35 rfl fun a hk => ?_
  apply wp_seq_k; intro K1 hK1
  apply wp_region_lit
  refine sa _ rfl hk rfl rfl rfl fun a hk => ?_
  show wpList _ _ _ [] _ _
  refine wpList_nil ?_
  refine hK1 _ _ ?_
  apply wp_seq_k; intro K2 hK2
  apply wp_region_lit
  refine sm _ rfl hk rfl rfl rfl fun a hk => ?_
  obtain ⟨y3, h4, H⟩ := bind_some H
  refine sc rfl en32 hk rfl rfl rfl (impl_within_t _ x0 0 999999 _ h4) ?_
  rintro _ w ⟨rfl, hG⟩ a hk
  have hs := hs.call0 hG
  refine sa _ rfl hk rfl rfl rfl fun a hk => ?_
  show wpList _ _ _ [] _ _
  refine wpList_nil ?_
  refine hK2 _ _ ?_
  refine wp_ret ?_
  obtain rfl := Option.some.inj H
  exact fin hk _ [(.bool y3)] rfl ⟨rfl, trivial⟩ ⟨rfl, (hs.pick [] rfl).dnil⟩

noncomputable def impl_OpOK.f (x0 : S_Op) : Option (Bool) :=
  ((((impl_within.f x0.Kind 1 6).bind fun y11 => (bif (!y11) then (some true) else ((impl_isKey.f x0.Key).bind fun y14 => (some (!y14))))) : Option (Bool)).bind fun u6 => (bif u6 then (some false) else ((impl_isBare.f x0.Kind).bind fun y20 => (bif y20 then (some (x0.Value == 0)) else (bif (x0.Kind == 6) then ((impl_within.f x0.Value 1 4).bind fun y27 => (some y27)) else ((impl_isValue.f x0.Value).bind fun y30 => (some y30)))))))
set_option maxRecDepth 100000 in
set_option maxHeartbeats 0 in
theorem impl_OpOK_t (w0 : World) (x0 : S_Op) (r : Bool) (H : impl_OpOK.f x0 = some r) :
    Calls Tryz.prog 16 #[.agg #[.int .i64 x0.Kind, .int .i64 x0.Key, .int .i64 x0.Value]] w0 (Ret (fun v w => v = .bool r ∧ Sat [] w0 w [] [])) := by
  have hs : Sat [] w0 w0 [] [] := Sat.init w0 [] [] (by simp) (by simp) List.nodup_nil (by simp [blks])
  unfold impl_OpOK.f at H
  refine enter Tryz.func16 rfl Tryz.ntmps16 rfl fun a hk => ?_
  apply wp_seq_k; intro K1 hK1
  apply wp_region_lit
  refine sbx 1 hs rfl hk rfl rfl rfl rfl fun b2 w a hk hs => ?_
  refine sa _ rfl hk rfl rfl rfl fun a hk => ?_
  show wpList _ _ _ [] _ _
  refine wpList_nil ?_
  refine hK1 _ _ ?_
  apply wp_seq_k; intro K3 hK3
  apply wp_seq_k; intro K4 hK4
  obtain ⟨o7, h8, HL9⟩ := bind_some H
  clear H
  obtain ⟨R10, hR10⟩ : ∃ R : Act → World → Prop, R = fun a w => ∃ (u6 : Bool), u6 = o7 ∧ Kn [(1, (.pointer (some ⟨b2, 0, none⟩))), (12, (.bool u6))] 30 a ∧ Sat [] w0 w [] [(1, [(b2, .cells #[.int .i64 x0.Kind, .int .i64 x0.Key, .int .i64 x0.Value] 33 (0, 0))])] := ⟨_, rfl⟩
  refine wp_cutq R10 ?_ ?_
  ·have H := h8
   apply wp_region_lit
   refine sf ⟨b2, 0, none⟩ rfl hk rfl rfl rfl fd33_0 rfl fun a hk => ?_
   refine sl rfl hk rfl rfl rfl ag3 (box_cell hs (k := 1) rfl rfl) fun a hk => ?_
   obtain ⟨y11, h12, H⟩ := bind_some H
   refine sc rfl en32 hk rfl rfl rfl (impl_within_t _ x0.Kind 1 6 _ h12) ?_
   rintro _ w ⟨rfl, hG⟩ a hk
   have hs := hs.call0 hG
   refine sv (.bool (!y11)) hk rfl rfl rfl fun a hk => ?_
   refine sm _ rfl hk rfl rfl rfl fun a hk => ?_
   rcases cond_some H with ⟨c13, H⟩ | ⟨c13, H⟩
   ·have hk := hk.lit 7 c13 rfl
    refine sk hk rfl rfl rfl fun a hk => ?_
    refine sk hk rfl rfl rfl fun a hk => ?_
    refine sk hk rfl rfl rfl fun a hk => ?_
    refine sk hk rfl rfl rfl fun a hk => ?_
    refine sv (.bool true) hk rfl rfl rfl fun a hk => ?_
    show wpList _ _ _ [] _ _
    refine wpList_nil ?_
    obtain rfl := Option.some.inj H
    show R10 _ _
    rw [hR10]
    exact ⟨true, rfl, (hk.c 1 rfl (hk.c 12 rfl hk.k)), (hs.pick [(1, 1)] rfl)⟩
   ·have hk := hk.lit 7 c13 rfl
    refine sf ⟨b2, 1, none⟩ rfl hk rfl rfl rfl fd33_1 rfl fun a hk => ?_
    refine sl rfl hk rfl rfl rfl ag3 (box_cell hs (k := 1) rfl rfl) fun a hk => ?_
    obtain ⟨y14, h15, H⟩ := bind_some H
    refine sc rfl en33 hk rfl rfl rfl (impl_isKey_t _ x0.Key _ h15) ?_
    rintro _ w ⟨rfl, hG⟩ a hk
    have hs := hs.call0 hG
    refine sv (.bool (!y14)) hk rfl rfl rfl fun a hk => ?_
    refine sv (.bool (!y14)) hk rfl rfl rfl fun a hk => ?_
    show wpList _ _ _ [] _ _
    refine wpList_nil ?_
    obtain rfl := Option.some.inj H
    show R10 _ _
    rw [hR10]
    exact ⟨(!y14), rfl, (hk.c 1 rfl (hk.c 12 rfl hk.k)), (hs.pick [(1, 1)] rfl)⟩
  ·intro a w hR0
   rw [hR10] at hR0
   obtain ⟨u6, rfl, hk, hs⟩ := hR0
   have H := HL9
   try dsimp only at H
   refine hK4 _ _ ?_
   rcases cond_some H with ⟨c16, H⟩ | ⟨c16, H⟩
   ·have hk := hk.lit 12 c16 rfl
    refine cnd_true hk rfl rfl ?_
    apply wp_seq_k; intro K17 hK17
    apply wp_region_lit
    refine sa _ rfl hk rfl rfl rfl fun a hk => ?_
    show wpList _ _ _ [] _ _
    refine wpList_nil ?_
    refine hK17 _ _ ?_
    refine wp_ret ?_
    obtain rfl := Option.some.inj H
    exact fin hk _ [(.bool false)] rfl ⟨rfl, trivial⟩ ⟨rfl, (hs.pick [] rfl).dnil⟩
   ·have hk := hk.lit 12 c16 rfl
    refine cnd_false hk rfl rfl ?_
    refine wp_skip ?_
    refine hK3 _ _ ?_
    apply wp_seq_k; intro K18 hK18
    refine wp_block ?_
    apply wp_seq_k; intro K19 hK19
    apply wp_region_lit
    refine sf ⟨b2, 0, none⟩ rfl hk rfl rfl rfl fd33_0 rfl fun a hk => ?_
    refine sl rfl hk rfl rfl rfl ag3 (box_cell hs (k := 1) rfl rfl) fun a hk => ?_
    obtain ⟨y20, h21, H⟩ := bind_some H
    refine sc rfl en34 hk rfl rfl rfl (impl_isBare_t _ x0.Kind _ h21) ?_
    rintro _ w ⟨rfl, hG⟩ a hk
    have hs := hs.call0 hG
    refine sa _ rfl hk rfl rfl rfl fun a hk => ?_
    show wpList _ _ _ [] _ _
    refine wpList_nil ?_
    refine hK19 _ _ ?_
    have hs := hs.pick [(1, 1)] rfl
    rcases cond_some H with ⟨c22, H⟩ | ⟨c22, H⟩
    ·have hk := hk.lit 13 c22 rfl
     refine cnd_true hk rfl rfl ?_
     apply wp_seq_k; intro K23 hK23
     apply wp_region_lit
     refine sf ⟨b2, 2, none⟩ rfl hk rfl rfl rfl fd33_2 rfl fun a hk => ?_
     refine sl rfl hk rfl rfl rfl ag3 (box_cell hs (k := 1) rfl rfl) fun a hk => ?_
     refine sv (.bool (x0.Value == 0)) hk rfl rfl rfl fun a hk => ?_
     refine sa _ rfl hk rfl rfl rfl fun a hk => ?_
     show wpList _ _ _ [] _ _
     refine wpList_nil ?_
     refine hK23 _ _ ?_
     refine wp_ret ?_
     obtain rfl := Option.some.inj H
     exact fin hk _ [(.bool (x0.Value == 0))] rfl ⟨rfl, trivial⟩ ⟨rfl, (hs.pick [] rfl).dnil⟩
    ·have hk := hk.lit 13 c22 rfl
     refine cnd_false hk rfl rfl ?_
     apply wp_seq_k; intro K24 hK24
     apply wp_region_lit
     refine sf ⟨b2, 0, none⟩ rfl hk rfl rfl rfl fd33_0 rfl fun a hk => ?_
     refine sl rfl hk rfl rfl rfl ag3 (box_cell hs (k := 1) rfl rfl) fun a hk => ?_
     refine sv (.bool (x0.Kind == 6)) hk rfl rfl rfl fun a hk => ?_
     refine sa _ rfl hk rfl rfl rfl fun a hk => ?_
     show wpList _ _ _ [] _ _
     refine wpList_nil ?_
     refine hK24 _ _ ?_
     rcases cond_some H with ⟨c25, H⟩ | ⟨c25, H⟩
     ·have hk := hk.lit 20 c25 rfl
      refine cnd_true hk rfl rfl ?_
      apply wp_seq_k; intro K26 hK26
      apply wp_region_lit
      refine sf ⟨b2, 2, none⟩ rfl hk rfl rfl rfl fd33_2 rfl fun a hk => ?_
      refine sl rfl hk rfl rfl rfl ag3 (box_cell hs (k := 1) rfl rfl) fun a hk => ?_
      obtain ⟨y27, h28, H⟩ := bind_some H
      refine sc rfl en32 hk rfl rfl rfl (impl_within_t _ x0.Value 1 4 _ h28) ?_
      rintro _ w ⟨rfl, hG⟩ a hk
      have hs := hs.call0 hG
      refine sa _ rfl hk rfl rfl rfl fun a hk => ?_
      show wpList _ _ _ [] _ _
      refine wpList_nil ?_
      refine hK26 _ _ ?_
      refine wp_ret ?_
      obtain rfl := Option.some.inj H
      exact fin hk _ [(.bool y27)] rfl ⟨rfl, trivial⟩ ⟨rfl, (hs.pick [] rfl).dnil⟩
     ·have hk := hk.lit 20 c25 rfl
      refine cnd_false hk rfl rfl ?_
      refine wp_skip ?_
      refine hK18 _ _ ?_
      apply wp_seq_k; intro K29 hK29
      apply wp_region_lit
      refine sf ⟨b2, 2, none⟩ rfl hk rfl rfl rfl fd33_2 rfl fun a hk => ?_
      refine sl rfl hk rfl rfl rfl ag3 (box_cell hs (k := 1) rfl rfl) fun a hk => ?_
      obtain ⟨y30, h31, H⟩ := bind_some H
      refine sc rfl en35 hk rfl rfl rfl (impl_isValue_t _ x0.Value _ h31) ?_
      rintro _ w ⟨rfl, hG⟩ a hk
      have hs := hs.call0 hG
      refine sa _ rfl hk rfl rfl rfl fun a hk => ?_
      show wpList _ _ _ [] _ _
      refine wpList_nil ?_
      refine hK29 _ _ ?_
      refine wp_ret ?_
      obtain rfl := Option.some.inj H
      exact fin hk _ [(.bool y30)] rfl ⟨rfl, trivial⟩ ⟨rfl, (hs.pick [] rfl).dnil⟩

noncomputable def slices_IndexFunc_impl_Op_impl_Op.s0 (l0 : List S_Op) (q1 : S_Op → Option (Bool)) (u6 : Int) : Option ((Int) ⊕ Ex (Unit) (Int)) :=
  (bif (decide (u6 < (l0.length : Int))) then (if 0 ≤ u6 ∧ u6 < (l0.length : Int) then ((q1 (l0.getD u6.toNat z_Op)).bind fun y25 => (bif y25 then (some (.inr (.ret u6))) else (some (.inl (w64 (u6 + 1)))))) else none) else (some (.inr (.out ()))))
noncomputable def slices_IndexFunc_impl_Op_impl_Op.f (l0 : List S_Op) (q1 : S_Op → Option (Bool)) : Option (Int) :=
  ((loopO (fun s => slices_IndexFunc_impl_Op_impl_Op.s0 l0 q1 s) 0).bind fun o => match o with | .out _ => (some (-1)) | .ret r => (some r))
set_option maxRecDepth 100000 in
set_option maxHeartbeats 0 in
theorem slices_IndexFunc_impl_Op_impl_Op_t (w0 : World) (A0_ : Option Addr) (p0_ : Nat) (l0 : List S_Op) (k0_ : Chunk) (v0_ : View L_Op A0_ p0_ l0 k0_) (w0_ : Has w0 k0_) (f1_ : FuncId) (c1_ : List Value) (e1_ : Enters Tryz.prog f1_) (q1 : S_Op → Option (Bool)) (k1_ : Chunk) (t1_ : ∀ w, Has w k1_ → ∀ (z0 : S_Op) (r : Bool), q1 z0 = some r → Calls Tryz.prog f1_ (([.agg #[.int .i64 z0.Kind, .int .i64 z0.Key, .int .i64 z0.Value]] : List Value) ++ c1_).toArray w (Ret (fun v w2 => v = .bool r ∧ Sat [] w w2 [] []))) (w1_ : Has w0 k1_) (r : Int) (H : slices_IndexFunc_impl_Op_impl_Op.f l0 q1 = some r) :
    Calls Tryz.prog 93 #[.slice A0_ l0.length p0_, .func (.func f1_) #[] c1_.toArray] w0 (Ret (fun v w => v = .int .i64 r ∧ Sat [] w0 w [] [])) := by
  have hs : Sat [] w0 w0 [(1, k0_), (2, k1_)] [] := Sat.init w0 [(1, k0_), (2, k1_)] [] (by simp only [List.mem_cons, List.not_mem_nil, or_false]; rintro x (rfl | rfl) <;> assumption) (by simp) List.nodup_nil (by simp [blks])
  unfold slices_IndexFunc_impl_Op_impl_Op.f at H
  refine enter Tryz.func93 rfl Tryz.ntmps93 rfl fun a hk => ?_
  apply wp_seq_k; intro K1 hK1
  apply wp_region_lit
  refine sa _ rfl hk rfl rfl rfl fun a hk => ?_
  show wpList _ _ _ [] _ _
  refine wpList_nil ?_
  refine hK1 _ _ ?_
  apply wp_seq_k; intro K2 hK2
  apply wp_seq_k; intro K3 hK3
  apply wp_region_lit
  refine sm _ rfl hk rfl rfl rfl fun a hk => ?_
  refine sle rfl hk rfl rfl rfl un34 fun a hk => ?_
  refine sm _ rfl hk rfl rfl rfl fun a hk => ?_
  show wpList _ _ _ [] _ _
  refine wpList_nil ?_
  refine hK3 _ _ ?_
  obtain ⟨o7, h8, HL9⟩ := bind_some H
  clear H
  obtain ⟨R10, hR10⟩ : ∃ R : Act → World → Prop, R = fun a w => o7 = .out () ∧ Kn [] 19 a ∧ Sat [] w0 w [(1, k0_), (2, k1_)] [] := ⟨_, rfl⟩
  refine wp_cutq R10 ?_ ?_
  ·refine wp_block ?_
   obtain ⟨fu12, h8⟩ := loopO_some h8
   obtain ⟨I11, hI11⟩ : ∃ I : Nat → Act → World → Prop, I = fun fu a w => ∃ (u6 : Int), loopN (fun s => slices_IndexFunc_impl_Op_impl_Op.s0 l0 q1 s) fu u6 = some o7 ∧ Kn [(0, (.slice A0_ l0.length p0_)), (1, (.func (.func f1_) #[] c1_.toArray)), (7, (.int .i64 (l0.length : Int))), (8, (.int .i64 u6))] 19 a ∧ Sat [] w0 w [(1, k0_), (2, k1_)] [] := ⟨_, rfl⟩
   refine wp_loop_ghost I11 fu12 ?_ ?_
   ·rw [hI11]
    exact ⟨0, h8, (hk.c 0 rfl (hk.c 1 rfl (hk.c 7 rfl (hk.c 8 rfl hk.k)))), (hs.pick [] rfl)⟩
   ·clear h8 hk hs
    intro fu12 a w hI0
    rw [hI11] at hI0
    obtain ⟨u6, hi, hk, hs⟩ := hI0
    obtain ⟨x13, H, h14⟩ := loop_round hi
    try dsimp only at H
    unfold slices_IndexFunc_impl_Op_impl_Op.s0 at H
    apply wp_seq_k; intro K15 hK15
    apply wp_region_lit
    refine sv (.bool (decide (u6 < (l0.length : Int)))) hk rfl rfl rfl fun a hk => ?_
    show wpList _ _ _ [] _ _
    refine wpList_nil ?_
    refine hK15 _ _ ?_
    apply wp_seq_k; intro K16 hK16
    rcases cond_some H with ⟨c17, H⟩ | ⟨c17, H⟩
    ·have hk := hk.lit 9 c17 rfl
     refine cnd_true hk rfl rfl ?_
     refine wp_skip ?_
     refine hK16 _ _ ?_
     have hs := hs.pick [] rfl
     apply wp_seq_k; intro K18 hK18
     refine wp_block ?_
     apply wp_seq_k; intro K19 hK19
     apply wp_region_lit
     refine sm _ rfl hk rfl rfl rfl fun a hk => ?_
     refine sa _ rfl hk rfl rfl rfl fun a hk => ?_
     show wpList _ _ _ [] _ _
     refine wpList_nil ?_
     refine hK19 _ _ ?_
     apply wp_seq_k; intro K20 hK20
     apply wp_region_lit
     refine sm _ rfl hk rfl rfl rfl fun a hk => ?_
     refine sm _ rfl hk rfl rfl rfl fun a hk => ?_
     refine sm _ rfl hk rfl rfl rfl fun a hk => ?_
     rcases ite_some H with ⟨c21, H⟩ | ⟨_, H⟩
     rotate_left
     ·cases H
     obtain ⟨b22, q23, hAc21⟩ := (v0_).some_ u6 c21.1 c21.2
     refine si rfl hk rfl rfl rfl rfl un34 sz33 c21.1 c21.2 hAc21 fun a hk => ?_
     obtain ⟨_, rfl, e24⟩ := (v0_).at_ z_Op u6 c21.1 c21.2
     refine sln [.int .i64 ((l0.getD u6.toNat z_Op).Kind), .int .i64 ((l0.getD u6.toNat z_Op).Key), .int .i64 ((l0.getD u6.toNat z_Op).Value)] rfl hk rfl rfl rfl ag33 sz33 (cells_at e24 (hs.hasD (k := 1) rfl)) fun a hk => ?_
     obtain ⟨y25, h26, H⟩ := bind_some H
     refine scv (vs := ([(.agg #[.int .i64 ((l0.getD u6.toNat z_Op).Kind), .int .i64 ((l0.getD u6.toNat z_Op).Key), .int .i64 ((l0.getD u6.toNat z_Op).Value)])] : List Value) ++ c1_) rfl rfl e1_ hk rfl rfl rfl (t1_ _ (hs.hasD (k := 2) rfl) (l0.getD u6.toNat z_Op) _ h26) ?_
     rintro _ w ⟨rfl, hG⟩ a hk
     have hs := hs.call0 hG
     show wpList _ _ _ [] _ _
     refine wpList_nil ?_
     refine hK20 _ _ ?_
     rcases cond_some H with ⟨c27, H⟩ | ⟨c27, H⟩
     ·have hk := hk.lit 16 c27 rfl
      refine cnd_true hk rfl rfl ?_
      apply wp_seq_k; intro K28 hK28
      apply wp_region_lit
      refine sm _ rfl hk rfl rfl rfl fun a hk => ?_
      refine sa _ rfl hk rfl rfl rfl fun a hk => ?_
      show wpList _ _ _ [] _ _
      refine wpList_nil ?_
      refine hK28 _ _ ?_
      refine wp_ret ?_
      obtain rfl := Option.some.inj H
      have ho7 := h14
      try dsimp only at ho7
      subst ho7
      have H := HL9
      try dsimp only at H
      obtain rfl := Option.some.inj H
      exact fin hk _ [(.int .i64 u6)] rfl ⟨rfl, trivial⟩ ⟨rfl, (hs.pick [] rfl).dnil⟩
     ·have hk := hk.lit 16 c27 rfl
      refine cnd_false hk rfl rfl ?_
      refine wp_skip ?_
      refine hK18 _ _ ?_
      apply wp_region_lit
      refine sv (.int .i64 (w64 (u6 + 1))) hk rfl rfl rfl fun a hk => ?_
      refine sm _ rfl hk rfl rfl rfl fun a hk => ?_
      show wpList _ _ _ [] _ _
      refine wpList_nil ?_
      obtain rfl := Option.some.inj H
      obtain ⟨m29, hmm29, h14⟩ := h14
      show ∃ n', n' < _ ∧ I11 n' _ _
      refine ⟨m29, hmm29, ?_⟩
      rw [hI11]
      exact ⟨(w64 (u6 + 1)), h14, (hk.c 0 rfl (hk.c 1 rfl (hk.c 7 rfl (hk.c 8 rfl hk.k)))), (hs.pick [] rfl)⟩
    ·have hk := hk.lit 9 c17 rfl
     refine cnd_false hk rfl rfl ?_
     refine wp_exit ?_
     obtain rfl := Option.some.inj H
     show R10 _ _
     rw [hR10]
     exact ⟨h14.symm, hk.k, (hs.pick [] rfl)⟩
  ·intro a w hR0
   rw [hR10] at hR0
   obtain ⟨rfl, hk, hs⟩ := hR0
   have H := HL9
   try dsimp only at H
   refine hK2 _ _ ?_
   apply wp_seq_k; intro K30 hK30
   apply wp_region_lit
   refine sa _ rfl hk rfl rfl rfl fun a hk => ?_
   show wpList _ _ _ [] _ _
   refine wpList_nil ?_
   refine hK30 _ _ ?_
   have hs := hs.pick [] rfl
   refine wp_ret ?_
   obtain rfl := Option.some.inj H
   exact fin hk _ [(.int .i64 (-1))] rfl ⟨rfl, trivial⟩ ⟨rfl, (hs.pick [] rfl).dnil⟩

noncomputable def slices_ContainsFunc_impl_Op_impl_Op.f (l0 : List S_Op) (q1 : S_Op → Option (Bool)) : Option (Bool) :=
  ((slices_IndexFunc_impl_Op_impl_Op.f l0 q1).bind fun y3 => (some (decide (y3 ≥ 0))))
set_option maxRecDepth 100000 in
set_option maxHeartbeats 0 in
theorem slices_ContainsFunc_impl_Op_impl_Op_t (w0 : World) (A0_ : Option Addr) (p0_ : Nat) (l0 : List S_Op) (k0_ : Chunk) (v0_ : View L_Op A0_ p0_ l0 k0_) (w0_ : Has w0 k0_) (f1_ : FuncId) (c1_ : List Value) (e1_ : Enters Tryz.prog f1_) (q1 : S_Op → Option (Bool)) (k1_ : Chunk) (t1_ : ∀ w, Has w k1_ → ∀ (z0 : S_Op) (r : Bool), q1 z0 = some r → Calls Tryz.prog f1_ (([.agg #[.int .i64 z0.Kind, .int .i64 z0.Key, .int .i64 z0.Value]] : List Value) ++ c1_).toArray w (Ret (fun v w2 => v = .bool r ∧ Sat [] w w2 [] []))) (w1_ : Has w0 k1_) (r : Bool) (H : slices_ContainsFunc_impl_Op_impl_Op.f l0 q1 = some r) :
    Calls Tryz.prog 81 #[.slice A0_ l0.length p0_, .func (.func f1_) #[] c1_.toArray] w0 (Ret (fun v w => v = .bool r ∧ Sat [] w0 w [] [])) := by
  have hs : Sat [] w0 w0 [(1, k0_), (2, k1_)] [] := Sat.init w0 [(1, k0_), (2, k1_)] [] (by simp only [List.mem_cons, List.not_mem_nil, or_false]; rintro x (rfl | rfl) <;> assumption) (by simp) List.nodup_nil (by simp [blks])
  unfold slices_ContainsFunc_impl_Op_impl_Op.f at H
  refine enter Tryz.func81 rfl Tryz.ntmps81 rfl fun a hk => ?_
  apply wp_seq_k; intro K1 hK1
  apply wp_region_lit
  refine sa _ rfl hk rfl rfl rfl fun a hk => ?_
  show wpList _ _ _ [] _ _
  refine wpList_nil ?_
  refine hK1 _ _ ?_
  apply wp_seq_k; intro K2 hK2
  apply wp_region_lit
  refine sm _ rfl hk rfl rfl rfl fun a hk => ?_
  refine sm _ rfl hk rfl rfl rfl fun a hk => ?_
  obtain ⟨y3, h4, H⟩ := bind_some H
  refine sc rfl en93 hk rfl rfl rfl (slices_IndexFunc_impl_Op_impl_Op_t _ A0_ p0_ l0 _ v0_ (hs.hasD (k := 1) rfl) f1_ c1_ e1_ q1 k1_ t1_ (hs.hasD (k := 2) rfl) _ h4) ?_
  rintro _ w ⟨rfl, hG⟩ a hk
  have hs := hs.call0 hG
  refine sv (.bool (decide (y3 ≥ 0))) hk rfl rfl rfl fun a hk => ?_
  refine sa _ rfl hk rfl rfl rfl fun a hk => ?_
  show wpList _ _ _ [] _ _
  refine wpList_nil ?_
  refine hK2 _ _ ?_
  refine wp_ret ?_
  obtain rfl := Option.some.inj H
  exact fin hk _ [(.bool (decide (y3 ≥ 0)))] rfl ⟨rfl, trivial⟩ ⟨rfl, (hs.pick [] rfl).dnil⟩

noncomputable def impl_areAll_impl_Op__c1.f (x0 : S_Op) (q1 : S_Op → Option (Bool)) : Option (Bool) :=
  ((q1 x0).bind fun y4 => (some (!y4)))
set_option maxRecDepth 100000 in
set_option maxHeartbeats 0 in
theorem impl_areAll_impl_Op__c1_t (w0 : World) (x0 : S_Op) (b1_ : Nat) (f1_ : FuncId) (c1_ : List Value) (e1_ : Enters Tryz.prog f1_) (q1 : S_Op → Option (Bool)) (k1_ : Chunk) (t1_ : ∀ w, Has w k1_ → ∀ (z0 : S_Op) (r : Bool), q1 z0 = some r → Calls Tryz.prog f1_ (([.agg #[.int .i64 z0.Kind, .int .i64 z0.Key, .int .i64 z0.Value]] : List Value) ++ c1_).toArray w (Ret (fun v w2 => v = .bool r ∧ Sat [] w w2 [] []))) (w1_ : Has w0 k1_) (h1_ : Has w0 [(b1_, .cells #[.func (.func f1_) #[] c1_.toArray] 40 (0, 0))]) (r : Bool) (H : impl_areAll_impl_Op__c1.f x0 q1 = some r) :
    Calls Tryz.prog 82 #[.agg #[.int .i64 x0.Kind, .int .i64 x0.Key, .int .i64 x0.Value], .pointer (some ⟨b1_, 0, none⟩)] w0 (Ret (fun v w => v = .bool r ∧ Sat [] w0 w [] [])) := by
  have hs : Sat [] w0 w0 [(2, k1_), (1, [(b1_, .cells #[.func (.func f1_) #[] c1_.toArray] 40 (0, 0))])] [] := Sat.init w0 [(2, k1_), (1, [(b1_, .cells #[.func (.func f1_) #[] c1_.toArray] 40 (0, 0))])] [] (by simp only [List.mem_cons, List.not_mem_nil, or_false]; rintro x (rfl | rfl) <;> assumption) (by simp) List.nodup_nil (by simp [blks])
  unfold impl_areAll_impl_Op__c1.f at H
  refine enter Tryz.func82 rfl Tryz.ntmps82 rfl fun a hk => ?_
  apply wp_seq_k; intro K1 hK1
  apply wp_region_lit
  refine sbx 3 hs rfl hk rfl rfl rfl rfl fun b2 w a hk hs => ?_
  refine sa _ rfl hk rfl rfl rfl fun a hk => ?_
  show wpList _ _ _ [] _ _
  refine wpList_nil ?_
  refine hK1 _ _ ?_
  apply wp_seq_k; intro K3 hK3
  apply wp_region_lit
  refine sl rfl hk rfl rfl rfl ag40 (box_cellD hs (k := 1) rfl rfl) fun a hk => ?_
  refine sln [.int .i64 x0.Kind, .int .i64 x0.Key, .int .i64 x0.Value] rfl hk rfl rfl rfl ag33 sz33 (box_cells hs (k := 3) rfl) fun a hk => ?_
  obtain ⟨y4, h5, H⟩ := bind_some H
  refine scv (vs := ([(.agg #[.int .i64 x0.Kind, .int .i64 x0.Key, .int .i64 x0.Value])] : List Value) ++ c1_) rfl rfl e1_ hk rfl rfl rfl (t1_ _ (hs.hasD (k := 2) rfl) x0 _ h5) ?_
  rintro _ w ⟨rfl, hG⟩ a hk
  have hs := hs.call0 hG
  refine sv (.bool (!y4)) hk rfl rfl rfl fun a hk => ?_
  refine sa _ rfl hk rfl rfl rfl fun a hk => ?_
  show wpList _ _ _ [] _ _
  refine wpList_nil ?_
  refine hK3 _ _ ?_
  refine wp_ret ?_
  obtain rfl := Option.some.inj H
  exact fin hk _ [(.bool (!y4))] rfl ⟨rfl, trivial⟩ ⟨rfl, (hs.pick [] rfl).dnil⟩

noncomputable def impl_areAll_impl_Op.f (l0 : List S_Op) (q1 : S_Op → Option (Bool)) : Option (Bool) :=
  ((slices_ContainsFunc_impl_Op_impl_Op.f l0 (fun z0 => impl_areAll_impl_Op__c1.f z0 q1)).bind fun y4 => (some (!y4)))
set_option maxRecDepth 100000 in
set_option maxHeartbeats 0 in
theorem impl_areAll_impl_Op_t (w0 : World) (A0_ : Option Addr) (p0_ : Nat) (l0 : List S_Op) (k0_ : Chunk) (v0_ : View L_Op A0_ p0_ l0 k0_) (w0_ : Has w0 k0_) (f1_ : FuncId) (c1_ : List Value) (e1_ : Enters Tryz.prog f1_) (q1 : S_Op → Option (Bool)) (k1_ : Chunk) (t1_ : ∀ w, Has w k1_ → ∀ (z0 : S_Op) (r : Bool), q1 z0 = some r → Calls Tryz.prog f1_ (([.agg #[.int .i64 z0.Kind, .int .i64 z0.Key, .int .i64 z0.Value]] : List Value) ++ c1_).toArray w (Ret (fun v w2 => v = .bool r ∧ Sat [] w w2 [] []))) (w1_ : Has w0 k1_) (r : Bool) (H : impl_areAll_impl_Op.f l0 q1 = some r) :
    Calls Tryz.prog 61 #[.slice A0_ l0.length p0_, .func (.func f1_) #[] c1_.toArray] w0 (Ret (fun v w => v = .bool r ∧ Sat [] w0 w [] [])) := by
  have hs : Sat [] w0 w0 [(1, k0_), (2, k1_)] [] := Sat.init w0 [(1, k0_), (2, k1_)] [] (by simp only [List.mem_cons, List.not_mem_nil, or_false]; rintro x (rfl | rfl) <;> assumption) (by simp) List.nodup_nil (by simp [blks])
  unfold impl_areAll_impl_Op.f at H
  refine enter Tryz.func61 rfl Tryz.ntmps61 rfl fun a hk => ?_
  apply wp_seq_k; intro K1 hK1
  apply wp_region_lit
  refine sbx 3 hs rfl hk rfl rfl rfl rfl fun b2 w a hk hs => ?_
  refine sa _ rfl hk rfl rfl rfl fun a hk => ?_
  show wpList _ _ _ [] _ _
  refine wpList_nil ?_
  refine hK1 _ _ ?_
  apply wp_seq_k; intro K3 hK3
  apply wp_region_lit
  refine sm _ rfl hk rfl rfl rfl fun a hk => ?_
  refine smf (cs := [.pointer (some ⟨b2, 0, none⟩)]) rfl hk rfl rfl rfl fun a hk => ?_
  obtain ⟨y4, h5, H⟩ := bind_some H
  refine sc rfl en81 hk rfl rfl rfl (slices_ContainsFunc_impl_Op_impl_Op_t _ A0_ p0_ l0 _ v0_ (hs.hasD (k := 1) rfl) 82 [.pointer (some ⟨b2, 0, none⟩)] en82 (fun z0 => impl_areAll_impl_Op__c1.f z0 q1) ([(b2, .cells #[.func (.func f1_) #[] c1_.toArray] 40 (0, 0))] ++ k1_) (fun w hz z0 r h => impl_areAll_impl_Op__c1_t w z0 _ f1_ c1_ e1_ q1 k1_ t1_ (Has.right hz) (Has.left hz) r h) (Has.app (hs.hasG (k := 3) rfl) (hs.hasD (k := 2) rfl)) _ h5) ?_
  rintro _ w ⟨rfl, hG⟩ a hk
  have hs := hs.call0 hG
  refine sv (.bool (!y4)) hk rfl rfl rfl fun a hk => ?_
  refine sa _ rfl hk rfl rfl rfl fun a hk => ?_
  show wpList _ _ _ [] _ _
  refine wpList_nil ?_
  refine hK3 _ _ ?_
  refine wp_ret ?_
  obtain rfl := Option.some.inj H
  exact fin hk _ [(.bool (!y4))] rfl ⟨rfl, trivial⟩ ⟨rfl, (hs.pick [] rfl).dnil⟩

noncomputable def impl_isTxn.f (x0 : S_Txn) : Option (Bool) :=
  ((((impl_within.f (x0.Ops.length : Int) 1 4).bind fun y10 => (bif y10 then ((impl_areAll_impl_Op.f x0.Ops impl_OpOK.f).bind fun y13 => (some y13)) else (some false))) : Option (Bool)).bind fun u5 => (some u5))
set_option maxRecDepth 100000 in
set_option maxHeartbeats 0 in
theorem impl_isTxn_t (w0 : World) (x0 : S_Txn) (A0_0 : Option Addr) (p0_0 : Nat) (k0_0 : Chunk) (v0_0 : View L_Op A0_0 p0_0 x0.Ops k0_0) (w0_0 : Has w0 k0_0) (r : Bool) (H : impl_isTxn.f x0 = some r) :
    Calls Tryz.prog 37 #[.agg #[.slice A0_0 x0.Ops.length p0_0]] w0 (Ret (fun v w => v = .bool r ∧ Sat [] w0 w [] [])) := by
  have hs : Sat [] w0 w0 [(1, k0_0)] [] := Sat.init w0 [(1, k0_0)] [] (by simp only [List.mem_cons, List.not_mem_nil, or_false]; rintro x (rfl) <;> assumption) (by simp) List.nodup_nil (by simp [blks])
  unfold impl_isTxn.f at H
  refine enter Tryz.func37 rfl Tryz.ntmps37 rfl fun a hk => ?_
  apply wp_seq_k; intro K1 hK1
  apply wp_region_lit
  refine sbx 2 hs rfl hk rfl rfl rfl rfl fun b2 w a hk hs => ?_
  refine sa _ rfl hk rfl rfl rfl fun a hk => ?_
  show wpList _ _ _ [] _ _
  refine wpList_nil ?_
  refine hK1 _ _ ?_
  apply wp_seq_k; intro K3 hK3
  obtain ⟨o6, h7, HL8⟩ := bind_some H
  clear H
  obtain ⟨R9, hR9⟩ : ∃ R : Act → World → Prop, R = fun a w => ∃ (u5 : Bool), u5 = o6 ∧ Kn [(2, (.bool u5))] 12 a ∧ Sat [] w0 w [(1, k0_0)] [] := ⟨_, rfl⟩
  refine wp_cutq R9 ?_ ?_
  ·have H := h7
   apply wp_region_lit
   refine sf ⟨b2, 0, none⟩ rfl hk rfl rfl rfl fd36_0 rfl fun a hk => ?_
   refine sl rfl hk rfl rfl rfl ag34 (box_cell hs (k := 2) rfl rfl) fun a hk => ?_
   refine sle rfl hk rfl rfl rfl un34 fun a hk => ?_
   obtain ⟨y10, h11, H⟩ := bind_some H
   refine sc rfl en32 hk rfl rfl rfl (impl_within_t _ (x0.Ops.length : Int) 1 4 _ h11) ?_
   rintro _ w ⟨rfl, hG⟩ a hk
   have hs := hs.call0 hG
   refine sm _ rfl hk rfl rfl rfl fun a hk => ?_
   rcases cond_some H with ⟨c12, H⟩ | ⟨c12, H⟩
   ·have hk := hk.lit 7 c12 rfl
    refine sf ⟨b2, 0, none⟩ rfl hk rfl rfl rfl fd36_0 rfl fun a hk => ?_
    refine sl rfl hk rfl rfl rfl ag34 (box_cell hs (k := 2) rfl rfl) fun a hk => ?_
    obtain ⟨y13, h14, H⟩ := bind_some H
    refine sc rfl en61 hk rfl rfl rfl (impl_areAll_impl_Op_t _ A0_0 p0_0 x0.Ops _ v0_0 (hs.hasD (k := 1) rfl) 16 [] en16 impl_OpOK.f [] (fun w _ z0 r h => impl_OpOK_t w z0 r h) (Has.nil _) _ h14) ?_
    rintro _ w ⟨rfl, hG⟩ a hk
    have hs := hs.call0 hG
    refine sv (.bool y13) hk rfl rfl rfl fun a hk => ?_
    refine sa _ rfl hk rfl rfl rfl fun a hk => ?_
    show wpList _ _ _ [] _ _
    refine wpList_nil ?_
    obtain rfl := Option.some.inj H
    show R9 _ _
    rw [hR9]
    exact ⟨y13, rfl, (hk.c 2 rfl hk.k), (hs.pick [] rfl)⟩
   ·have hk := hk.lit 7 c12 rfl
    refine sk hk rfl rfl rfl fun a hk => ?_
    refine sk hk rfl rfl rfl fun a hk => ?_
    refine sk hk rfl rfl rfl fun a hk => ?_
    refine sv (.bool false) hk rfl rfl rfl fun a hk => ?_
    refine sa _ rfl hk rfl rfl rfl fun a hk => ?_
    show wpList _ _ _ [] _ _
    refine wpList_nil ?_
    obtain rfl := Option.some.inj H
    show R9 _ _
    rw [hR9]
    exact ⟨false, rfl, (hk.c 2 rfl hk.k), (hs.pick [] rfl)⟩
  ·intro a w hR0
   rw [hR9] at hR0
   obtain ⟨u5, rfl, hk, hs⟩ := hR0
   have H := HL8
   try dsimp only at H
   refine hK3 _ _ ?_
   refine wp_ret ?_
   obtain rfl := Option.some.inj H
   exact fin hk _ [(.bool u5)] rfl ⟨rfl, trivial⟩ ⟨rfl, (hs.pick [] rfl).dnil⟩

noncomputable def impl_BatchOK.f (l0 : List S_Txn) : Option (Bool) :=
  ((((impl_within.f (l0.length : Int) 1 2).bind fun y9 => (bif y9 then ((impl_areAll_impl_Txn.f l0 impl_isTxn.f).bind fun y12 => (some y12)) else (some false))) : Option (Bool)).bind fun u4 => (some u4))
set_option maxRecDepth 100000 in
set_option maxHeartbeats 0 in
theorem impl_BatchOK_t (w0 : World) (A0_ : Option Addr) (p0_ : Nat) (l0 : List S_Txn) (k0_ : Chunk) (v0_ : View L_impl_Txn A0_ p0_ l0 k0_) (w0_ : Has w0 k0_) (r : Bool) (H : impl_BatchOK.f l0 = some r) :
    Calls Tryz.prog 17 #[.slice A0_ l0.length p0_] w0 (Ret (fun v w => v = .bool r ∧ Sat [] w0 w [] [])) := by
  have hs : Sat [] w0 w0 [(1, k0_)] [] := Sat.init w0 [(1, k0_)] [] (by simp only [List.mem_cons, List.not_mem_nil, or_false]; rintro x (rfl) <;> assumption) (by simp) List.nodup_nil (by simp [blks])
  unfold impl_BatchOK.f at H
  refine enter Tryz.func17 rfl Tryz.ntmps17 rfl fun a hk => ?_
  apply wp_seq_k; intro K1 hK1
  apply wp_region_lit
  refine sa _ rfl hk rfl rfl rfl fun a hk => ?_
  show wpList _ _ _ [] _ _
  refine wpList_nil ?_
  refine hK1 _ _ ?_
  apply wp_seq_k; intro K2 hK2
  obtain ⟨o5, h6, HL7⟩ := bind_some H
  clear H
  obtain ⟨R8, hR8⟩ : ∃ R : Act → World → Prop, R = fun a w => ∃ (u4 : Bool), u4 = o5 ∧ Kn [(2, (.bool u4))] 10 a ∧ Sat [] w0 w [(1, k0_)] [] := ⟨_, rfl⟩
  refine wp_cutq R8 ?_ ?_
  ·have H := h6
   apply wp_region_lit
   refine sm _ rfl hk rfl rfl rfl fun a hk => ?_
   refine sle rfl hk rfl rfl rfl un22 fun a hk => ?_
   obtain ⟨y9, h10, H⟩ := bind_some H
   refine sc rfl en32 hk rfl rfl rfl (impl_within_t _ (l0.length : Int) 1 2 _ h10) ?_
   rintro _ w ⟨rfl, hG⟩ a hk
   have hs := hs.call0 hG
   refine sm _ rfl hk rfl rfl rfl fun a hk => ?_
   rcases cond_some H with ⟨c11, H⟩ | ⟨c11, H⟩
   ·have hk := hk.lit 6 c11 rfl
    refine sm _ rfl hk rfl rfl rfl fun a hk => ?_
    obtain ⟨y12, h13, H⟩ := bind_some H
    refine sc rfl en36 hk rfl rfl rfl (impl_areAll_impl_Txn_t _ A0_ p0_ l0 _ v0_ (hs.hasD (k := 1) rfl) 37 [] en37 impl_isTxn.f [] (fun w _ z0 z0A0 z0p0 z0k0 z0v0 z0w0 r h => impl_isTxn_t w z0 z0A0 z0p0 z0k0 z0v0 z0w0 r h) (Has.nil _) _ h13) ?_
    rintro _ w ⟨rfl, hG⟩ a hk
    have hs := hs.call0 hG
    refine sv (.bool y12) hk rfl rfl rfl fun a hk => ?_
    refine sa _ rfl hk rfl rfl rfl fun a hk => ?_
    show wpList _ _ _ [] _ _
    refine wpList_nil ?_
    obtain rfl := Option.some.inj H
    show R8 _ _
    rw [hR8]
    exact ⟨y12, rfl, (hk.c 2 rfl hk.k), (hs.pick [] rfl)⟩
   ·have hk := hk.lit 6 c11 rfl
    refine sk hk rfl rfl rfl fun a hk => ?_
    refine sk hk rfl rfl rfl fun a hk => ?_
    refine sv (.bool false) hk rfl rfl rfl fun a hk => ?_
    refine sa _ rfl hk rfl rfl rfl fun a hk => ?_
    show wpList _ _ _ [] _ _
    refine wpList_nil ?_
    obtain rfl := Option.some.inj H
    show R8 _ _
    rw [hR8]
    exact ⟨false, rfl, (hk.c 2 rfl hk.k), (hs.pick [] rfl)⟩
  ·intro a w hR0
   rw [hR8] at hR0
   obtain ⟨u4, rfl, hk, hs⟩ := hR0
   have H := HL7
   try dsimp only at H
   refine hK2 _ _ ?_
   refine wp_ret ?_
   obtain rfl := Option.some.inj H
   exact fin hk _ [(.bool u4)] rfl ⟨rfl, trivial⟩ ⟨rfl, (hs.pick [] rfl).dnil⟩

noncomputable def impl_opWords.f  : Option ((List ByteArray)) :=
  (some ([(⟨#[]⟩ : ByteArray), (⟨#[103, 101, 116]⟩ : ByteArray), (⟨#[112, 117, 116]⟩ : ByteArray), (⟨#[100, 114, 111, 112]⟩ : ByteArray), (⟨#[99, 104, 101, 99, 107]⟩ : ByteArray), (⟨#[97, 100, 100]⟩ : ByteArray), (⟨#[115, 99, 97, 110]⟩ : ByteArray)]))
set_option maxRecDepth 100000 in
set_option maxHeartbeats 0 in
theorem impl_opWords_t (w0 : World)  (r : (List ByteArray)) (H : impl_opWords.f  = some r) :
    Calls Tryz.prog 51 #[] w0 (Ret (fun v w => ∃ (A0 : Option Addr) (p0 : Nat) (k0 : Chunk), v = .slice A0 r.length p0 ∧ Own Lay.str 9 A0 p0 r k0 ∧ Sat [] w0 w [] [(0, k0)])) := by
  have hs : Sat [] w0 w0 [] [] := Sat.init w0 [] [] (by simp) (by simp) List.nodup_nil (by simp [blks])
  unfold impl_opWords.f at H
  refine enter Tryz.func51 rfl Tryz.ntmps51 rfl fun a hk => ?_
  apply wp_seq_k; intro K1 hK1
  apply wp_region_lit
  refine sa _ rfl hk rfl rfl rfl fun a hk => ?_
  show wpList _ _ _ [] _ _
  refine wpList_nil ?_
  refine hK1 _ _ ?_
  apply wp_seq_k; intro K2 hK2
  apply wp_region_lit
  refine sbs (L := Lay.str) (pv := [(0, (.string (⟨#[]⟩ : ByteArray))), (1, (.string (⟨#[103, 101, 116]⟩ : ByteArray))), (2, (.string (⟨#[112, 117, 116]⟩ : ByteArray))), (3, (.string (⟨#[100, 114, 111, 112]⟩ : ByteArray))), (4, (.string (⟨#[99, 104, 101, 99, 107]⟩ : ByteArray))), (5, (.string (⟨#[97, 100, 100]⟩ : ByteArray))), (6, (.string (⟨#[115, 99, 97, 110]⟩ : ByteArray)))]) (xs := [(⟨#[]⟩ : ByteArray), (⟨#[103, 101, 116]⟩ : ByteArray), (⟨#[112, 117, 116]⟩ : ByteArray), (⟨#[100, 114, 111, 112]⟩ : ByteArray), (⟨#[99, 104, 101, 99, 107]⟩ : ByteArray), (⟨#[97, 100, 100]⟩ : ByteArray), (⟨#[115, 99, 97, 110]⟩ : ByteArray)]) (ess := [[.string (⟨#[]⟩ : ByteArray)], [.string (⟨#[103, 101, 116]⟩ : ByteArray)], [.string (⟨#[112, 117, 116]⟩ : ByteArray)], [.string (⟨#[100, 114, 111, 112]⟩ : ByteArray)], [.string (⟨#[99, 104, 101, 99, 107]⟩ : ByteArray)], [.string (⟨#[97, 100, 100]⟩ : ByteArray)], [.string (⟨#[115, 99, 97, 110]⟩ : ByteArray)]]) 1 hs rfl hk rfl rfl rfl un59 (bs9_1 (⟨#[]⟩ : ByteArray) (⟨#[103, 101, 116]⟩ : ByteArray) (⟨#[112, 117, 116]⟩ : ByteArray) (⟨#[100, 114, 111, 112]⟩ : ByteArray) (⟨#[99, 104, 101, 99, 107]⟩ : ByteArray) (⟨#[97, 100, 100]⟩ : ByteArray) (⟨#[115, 99, 97, 110]⟩ : ByteArray)) (AllOwn.cons0 ⟨rfl, rfl⟩ (AllOwn.cons0 ⟨rfl, rfl⟩ (AllOwn.cons0 ⟨rfl, rfl⟩ (AllOwn.cons0 ⟨rfl, rfl⟩ (AllOwn.cons0 ⟨rfl, rfl⟩ (AllOwn.cons0 ⟨rfl, rfl⟩ (AllOwn.cons0 ⟨rfl, rfl⟩ AllOwn.nil))))))) rfl rfl rfl fun b3 k4 w a hk o5 hs => ?_
  refine sa _ rfl hk rfl rfl rfl fun a hk => ?_
  show wpList _ _ _ [] _ _
  refine wpList_nil ?_
  refine hK2 _ _ ?_
  refine wp_ret ?_
  obtain rfl := Option.some.inj H
  exact fin hk _ [(.slice (some ⟨b3, 0, none⟩) 7 7)] rfl ⟨rfl, trivial⟩ ⟨(some ⟨b3, 0, none⟩), 7, _, rfl, o5, (hs.pick [(0, 1)] rfl).dnil⟩

def split_ren : Go.Shelf.Ren := ⟨fun | 146 => 42 | 221 => 69 | 268 => 85 | 138 => 86 | 143 => 87 | 195 => 94 | 197 => 95 | 218 => 96 | 219 => 97 | 260 => 107 | 217 => 108 | 225 => 109 | 224 => 110 | 267 => 111 | 266 => 123 | 314 => 124 | n => n, fun | 9 => 9 | 31 => 59 | 3 => 3 | 4 => 4 | 0 => 0 | 105 => 103 | 21 => 21 | 5 => 5 | 46 => 116 | 119 => 128 | 139 => 131 | 138 => 130 | 146 => 132 | 51 => 118 | n => n, fun | 1 => 0 | 3 => 2 | 4 => 3 | n => n⟩
theorem split_lays : Go.Proofs.Lays.n146 Tryz.prog split_ren := {
  mixed := by kernel_rfl
  f138 := Tryz.func86.trans (congrArg some (by kernel_rfl))
  f143 := Tryz.func87.trans (congrArg some (by kernel_rfl))
  f146 := Tryz.func42.trans (congrArg some (by kernel_rfl))
  f195 := Tryz.func94.trans (congrArg some (by kernel_rfl))
  f197 := Tryz.func95.trans (congrArg some (by kernel_rfl))
  f217 := Tryz.func108.trans (congrArg some (by kernel_rfl))
  f218 := Tryz.func96.trans (congrArg some (by kernel_rfl))
  f219 := Tryz.func97.trans (congrArg some (by kernel_rfl))
  f221 := Tryz.func69.trans (congrArg some (by kernel_rfl))
  f224 := Tryz.func110.trans (congrArg some (by kernel_rfl))
  f225 := Tryz.func109.trans (congrArg some (by kernel_rfl))
  f260 := Tryz.func107.trans (congrArg some (by kernel_rfl))
  f266 := Tryz.func123.trans (congrArg some (by kernel_rfl))
  f267 := Tryz.func111.trans (congrArg some (by kernel_rfl))
  f268 := Tryz.func85.trans (congrArg some (by kernel_rfl))
  f314 := Tryz.func124.trans (congrArg some (by kernel_rfl))
  t0 := Tryz.underlying0
  a0 := Tryz.isAgg0
  z0 := Tryz.sizeOf0
  v0 := Tryz.zeroValue0
  t3 := Tryz.underlying3
  a3 := Tryz.isAgg3
  z3 := Tryz.sizeOf3
  v3 := Tryz.zeroValue3
  t4 := Tryz.underlying4
  a4 := Tryz.isAgg4
  z4 := Tryz.sizeOf4
  v4 := Tryz.zeroValue4
  t5 := Tryz.underlying5
  a5 := Tryz.isAgg5
  z5 := Tryz.sizeOf5
  v5 := Tryz.zeroValue5
  t9 := Tryz.underlying9
  a9 := Tryz.isAgg9
  z9 := Tryz.sizeOf9
  v9 := Tryz.zeroValue9
  t21 := Tryz.underlying21
  a21 := Tryz.isAgg21
  z21 := Tryz.sizeOf21
  v21 := Tryz.zeroValue21
  t31 := Tryz.underlying59
  a31 := Tryz.isAgg59
  z31 := Tryz.sizeOf59
  v31 := Tryz.zeroValue59
  t46 := Tryz.underlying116
  a46 := Tryz.isAgg116
  z46 := Tryz.sizeOf116
  v46 := Tryz.zeroValue116
  t51 := Tryz.underlying118
  a51 := Tryz.isAgg118
  z51 := Tryz.sizeOf118
  v51 := Tryz.zeroValue118
  t105 := Tryz.underlying103
  a105 := Tryz.isAgg103
  z105 := Tryz.sizeOf103
  v105 := Tryz.zeroValue103
  t119 := Tryz.underlying128
  a119 := Tryz.isAgg128
  z119 := Tryz.sizeOf128
  t138 := Tryz.underlying130
  a138 := Tryz.isAgg130
  z138 := Tryz.sizeOf130
  v138 := Tryz.zeroValue130
  t139 := Tryz.underlying131
  a139 := Tryz.isAgg131
  z139 := Tryz.sizeOf131
  v139 := Tryz.zeroValue131
  t146 := Tryz.underlying132
  a146 := Tryz.isAgg132
  z146 := Tryz.sizeOf132
  v146 := Tryz.zeroValue132
  g1 := by kernel_rfl
  g3 := by kernel_rfl
  g4 := by kernel_rfl }
open Go.RowKit Go.Lib in
theorem split_shelf (s sep : ByteArray) (m : Int) (w : World) (hs : s.size < 4294967281) (hm : w.cell? ⟨0, 0, none⟩ = some (.int .i64 m)) (h1 : 1 ≤ sep.size) :
    Calls Tryz.prog 42 #[.string s, .string sep] w fun e w' =>
      e = .returned (.slice (some ⟨w.heap.size, 0, none⟩) (Lib.countB s sep + 1) (Lib.countB s sep + 1)) ∧ w' = w.alloc (.cells ((Lib.splitB sep 0 (Lib.countB s sep) s).map Value.string).toArray 9) := Any.strings_Split split_lays (by kernel_rfl) s sep m w hs hm h1
noncomputable def strings_Split.f (x0 x1 : ByteArray) : Option (List ByteArray) := if x0.size < 4294967281 ∧ 1 ≤ x1.size then some (Lib.splitB x1 0 (Lib.countB x0 x1) x0) else none
theorem gMaxLen : Tryz.prog.globalNamed "internal/bytealg.MaxLen" = some 0 := by kernel_rfl
theorem strings_Split_t (w0 : World) (x0 x1 : ByteArray) (kT : Chunk) (tT : TabR Tryz.prog kT) (wT : Has w0 kT) (r : List ByteArray) (H : strings_Split.f x0 x1 = some r) :
    Calls Tryz.prog 42 #[.string x0, .string x1] w0 (Ret (fun v w => ∃ (A0 : Option Addr) (p0 : Nat) (k0 : Chunk), v = .slice A0 r.length p0 ∧ Own Lay.str 9 A0 p0 r k0 ∧ Sat [] w0 w [] [(0, k0)])) := by
  unfold strings_Split.f at H
  rcases ite_some H with ⟨⟨h1, h2⟩, H⟩ | ⟨_, H⟩
  rotate_left
  · cases H
  obtain rfl := Option.some.inj H
  obtain ⟨v, hv, m, hm0⟩ := tT.mx w0 wT
  have hm : w0.cell? ⟨0, 0, none⟩ = some (.int .i64 m) := (World.var?_cell gMaxLen hv 0).trans hm0
  have hl := Lib.splitB_all x1 h2 0 (Lib.countB x0 x1) x0 rfl
  have hc := Lib.countB_le x1 h2 x0.size x0 (Nat.le_refl _)
  refine (split_shelf x0 x1 m w0 h1 hm h2).mono ?_
  rintro e w' ⟨rfl, rfl⟩
  rw [← hl]
  exact ⟨_, rfl, _, _, _, rfl, own_strs _ (by rw [hl]; have : maxLen = 9223372036854775807 := rfl; omega), (F.refl w0 : Sat [] w0 w0 [] []).alloc 0 _⟩

noncomputable def slices_DeleteFunc_string_string.s0 (l0 : List ByteArray) (q1 : ByteArray → Option (Bool)) (u13 : List ByteArray) (u17 : Int) (u18 : Int) : Option (((List ByteArray) × Int × Int) ⊕ Ex ((List ByteArray) × Int) ((List ByteArray))) :=
  (bif (decide (u18 < (l0.length : Int))) then (if 0 ≤ u18 ∧ u18 < (l0.length : Int) then ((q1 (u13.getD u18.toNat ByteArray.empty)).bind fun y42 => (((bif (!y42) then (if 0 ≤ u17 ∧ u17 < (l0.length : Int) then (some ((u13.set u17.toNat (u13.getD u18.toNat ByteArray.empty)), (w64 (u17 + 1)))) else none) else (some (u13, u17))) : Option ((List ByteArray) × Int)).bind fun o => match o with | (u45, u49) => (some (.inl (u45, u49, (w64 (u18 + 1))))))) else none) else (some (.inr (.out (u13, u17)))))
noncomputable def slices_DeleteFunc_string_string.f (l0 : List ByteArray) (q1 : ByteArray → Option (Bool)) : Option ((List ByteArray)) :=
  ((slices_IndexFunc_string_string.f l0 q1).bind fun y3 => (bif (y3 == (-1)) then (some l0) else ((loopO (fun s => slices_DeleteFunc_string_string.s0 l0 q1 s.1 s.2.1 s.2.2) (l0, y3, (w64 (y3 + 1)))).bind fun o => match o with | .out (u19, u23) => (if 0 ≤ u23 ∧ u23 ≤ (l0.length : Int) then (if 0 ≤ u23 ∧ u23 ≤ (l0.length : Int) then (some ((clrL u19 u23.toNat ByteArray.empty).take u23.toNat)) else none) else none) | .ret r => (some r))))
set_option maxRecDepth 100000 in
set_option maxHeartbeats 0 in
theorem slices_DeleteFunc_string_string_t (w0 : World) (A0_ : Option Addr) (p0_ : Nat) (l0 : List ByteArray) (k0_ : Chunk) (v0_ : Own Lay.str 9 A0_ p0_ l0 k0_) (f1_ : FuncId) (c1_ : List Value) (e1_ : Enters Tryz.prog f1_) (q1 : ByteArray → Option (Bool)) (k1_ : Chunk) (t1_ : ∀ w, Has w k1_ → ∀ (z0 : ByteArray) (r : Bool), q1 z0 = some r → Calls Tryz.prog f1_ (([.string z0] : List Value) ++ c1_).toArray w (Ret (fun v w2 => v = .bool r ∧ Sat [] w w2 [] []))) (w1_ : Has w0 k1_) (hs0 : Sat (blks [(1, k0_)]) w0 w0 [(2, k1_)] [(1, k0_)]) (r : (List ByteArray)) (H : slices_DeleteFunc_string_string.f l0 q1 = some r) :
    Calls Tryz.prog 77 #[.slice A0_ l0.length p0_, .func (.func f1_) #[] c1_.toArray] w0 (Ret (fun v w => ∃ (A0 : Option Addr) (p0 : Nat) (k0 : Chunk), v = .slice A0 r.length p0 ∧ Own Lay.str 9 A0 p0 r k0 ∧ Sat (blks [(1, k0_)]) w0 w [] [(0, k0)])) := by
  have hs := hs0
  unfold slices_DeleteFunc_string_string.f at H
  refine enter Tryz.func77 rfl Tryz.ntmps77 rfl fun a hk => ?_
  apply wp_seq_k; intro K1 hK1
  apply wp_region_lit
  refine sa _ rfl hk rfl rfl rfl fun a hk => ?_
  show wpList _ _ _ [] _ _
  refine wpList_nil ?_
  refine hK1 _ _ ?_
  apply wp_seq_k; intro K2 hK2
  apply wp_region_lit
  refine sm _ rfl hk rfl rfl rfl fun a hk => ?_
  refine sm _ rfl hk rfl rfl rfl fun a hk => ?_
  obtain ⟨y3, h4, H⟩ := bind_some H
  refine sc rfl en84 hk rfl rfl rfl (slices_IndexFunc_string_string_t _ A0_ p0_ l0 _ v0_.view (hs.hasG (k := 1) rfl) f1_ c1_ e1_ q1 k1_ t1_ (hs.hasD (k := 2) rfl) _ h4) ?_
  rintro _ w ⟨rfl, hG⟩ a hk
  have hs := hs.call0 hG
  refine sa _ rfl hk rfl rfl rfl fun a hk => ?_
  show wpList _ _ _ [] _ _
  refine wpList_nil ?_
  refine hK2 _ _ ?_
  apply wp_seq_k; intro K5 hK5
  apply wp_seq_k; intro K6 hK6
  apply wp_region_lit
  refine sm _ rfl hk rfl rfl rfl fun a hk => ?_
  refine sv (.bool (y3 == (-1))) hk rfl rfl rfl fun a hk => ?_
  show wpList _ _ _ [] _ _
  refine wpList_nil ?_
  refine hK6 _ _ ?_
  rcases cond_some H with ⟨c7, H⟩ | ⟨c7, H⟩
  ·have hk := hk.lit 12 c7 rfl
   refine cnd_true hk rfl rfl ?_
   apply wp_seq_k; intro K8 hK8
   apply wp_region_lit
   refine sm _ rfl hk rfl rfl rfl fun a hk => ?_
   refine sa _ rfl hk rfl rfl rfl fun a hk => ?_
   show wpList _ _ _ [] _ _
   refine wpList_nil ?_
   refine hK8 _ _ ?_
   have hs := hs.pick [(1, 1)] rfl
   refine wp_ret ?_
   obtain rfl := Option.some.inj H
   exact fin hk _ [(.slice A0_ l0.length p0_)] rfl ⟨rfl, trivial⟩ ⟨A0_, p0_, _, rfl, v0_, (hs.pick [(0, 1)] rfl).dnil⟩
  ·have hk := hk.lit 12 c7 rfl
   refine cnd_false hk rfl rfl ?_
   refine wp_skip ?_
   refine hK5 _ _ ?_
   have hs := hs.pick [(1, 1)] rfl
   apply wp_seq_k; intro K9 hK9
   apply wp_seq_k; intro K10 hK10
   apply wp_region_lit
   refine sm _ rfl hk rfl rfl rfl fun a hk => ?_
   refine sv (.int .i64 (w64 (y3 + 1))) hk rfl rfl rfl fun a hk => ?_
   refine sa _ rfl hk rfl rfl rfl fun a hk => ?_
   show wpList _ _ _ [] _ _
   refine wpList_nil ?_
   refine hK10 _ _ ?_
   obtain ⟨o24, h25, HL26⟩ := bind_some H
   clear H
   obtain ⟨R27, hR27⟩ : ∃ R : Act → World → Prop, R = fun a w => ∃ (u19 : List ByteArray) (u23 : Int) (k20 : Chunk), o24 = .out (u19, u23) ∧ Kn [(0, (.slice A0_ l0.length p0_)), (5, (.int .i64 u23))] 42 a ∧ Sat (blks [(1, k0_)]) w0 w [(2, k1_)] [(1, k20)] ∧ Own Lay.str 9 A0_ p0_ u19 k20 ∧ u19.length = l0.length := ⟨_, rfl⟩
   refine wp_cutq R27 ?_ ?_
   ·refine wp_block ?_
    obtain ⟨fu29, h25⟩ := loopO_some h25
    obtain ⟨I28, hI28⟩ : ∃ I : Nat → Act → World → Prop, I = fun fu a w => ∃ (u13 : List ByteArray) (u17 : Int) (u18 : Int) (k14 : Chunk), loopN (fun s => slices_DeleteFunc_string_string.s0 l0 q1 s.1 s.2.1 s.2.2) fu (u13, u17, u18) = some o24 ∧ Kn [(0, (.slice A0_ l0.length p0_)), (1, (.func (.func f1_) #[] c1_.toArray)), (5, (.int .i64 u17)), (6, (.int .i64 u18))] 42 a ∧ Sat (blks [(1, k0_)]) w0 w [(2, k1_)] [(1, k14)] ∧ Own Lay.str 9 A0_ p0_ u13 k14 ∧ u13.length = l0.length := ⟨_, rfl⟩
    refine wp_loop_ghost I28 fu29 ?_ ?_
    ·rw [hI28]
     exact ⟨l0, y3, (w64 (y3 + 1)), _, h25, (hk.c 0 rfl (hk.c 1 rfl (hk.c 5 rfl (hk.c 6 rfl hk.k)))), (hs.pick [(1, 1)] rfl), v0_, rfl⟩
    ·clear h25 hk hs
     intro fu29 a w hI0
     rw [hI28] at hI0
     obtain ⟨u13, u17, u18, k14, hi, hk, hs, o15, lh16⟩ := hI0
     obtain ⟨x30, H, h31⟩ := loop_round hi
     try dsimp only at H
     unfold slices_DeleteFunc_string_string.s0 at H
     apply wp_seq_k; intro K32 hK32
     apply wp_seq_k; intro K33 hK33
     apply wp_region_lit
     refine sm _ rfl hk rfl rfl rfl fun a hk => ?_
     refine sm _ rfl hk rfl rfl rfl fun a hk => ?_
     refine sle rfl hk rfl rfl rfl un59 fun a hk => ?_
     refine sv (.bool (decide (u18 < (l0.length : Int)))) hk rfl rfl rfl fun a hk => ?_
     show wpList _ _ _ [] _ _
     refine wpList_nil ?_
     refine hK33 _ _ ?_
     rcases cond_some H with ⟨c34, H⟩ | ⟨c34, H⟩
     ·have hk := hk.lit 19 c34 rfl
      refine cnd_true hk rfl rfl ?_
      refine wp_skip ?_
      refine hK32 _ _ ?_
      apply wp_seq_k; intro K35 hK35
      refine wp_block ?_
      apply wp_seq_k; intro K36 hK36
      apply wp_region_lit
      refine sm _ rfl hk rfl rfl rfl fun a hk => ?_
      refine sm _ rfl hk rfl rfl rfl fun a hk => ?_
      rcases ite_some H with ⟨c37, H⟩ | ⟨_, H⟩
      rotate_left
      ·cases H
      obtain ⟨b38, q39, hAc37⟩ := (o15.view).some_ u18 c37.1 (by rw [lh16]; exact c37.2)
      refine si rfl hk rfl rfl rfl rfl un59 sz9 c37.1 c37.2 hAc37 fun a hk => ?_
      obtain ⟨_, rfl, e40⟩ := (o15.view).at_ ByteArray.empty u18 c37.1 (by rw [lh16]; exact c37.2)
      refine sl (v := (.string (u13.getD u18.toNat ByteArray.empty))) rfl hk rfl rfl rfl ag9 ((e40 0 _ rfl).cell (hs.hasG (k := 1) rfl)) fun a hk => ?_
      refine sa _ rfl hk rfl rfl rfl fun a hk => ?_
      show wpList _ _ _ [] _ _
      refine wpList_nil ?_
      refine hK36 _ _ ?_
      have hs := hs.pick [(1, 1)] rfl
      apply wp_seq_k; intro K41 hK41
      apply wp_region_lit
      refine sm _ rfl hk rfl rfl rfl fun a hk => ?_
      refine sm _ rfl hk rfl rfl rfl fun a hk => ?_
      obtain ⟨y42, h43, H⟩ := bind_some H
      refine scv (vs := ([(.string (u13.getD u18.toNat ByteArray.empty))] : List Value) ++ c1_) rfl rfl e1_ hk rfl rfl rfl (t1_ _ (hs.hasD (k := 2) rfl) (u13.getD u18.toNat ByteArray.empty) _ h43) ?_
      rintro _ w ⟨rfl, hG⟩ a hk
      have hs := hs.call0 hG
      refine sv (.bool (!y42)) hk rfl rfl rfl fun a hk => ?_
      show wpList _ _ _ [] _ _
      refine wpList_nil ?_
      refine hK41 _ _ ?_
      obtain ⟨o50, h51, HL52⟩ := bind_some H
      clear H
      obtain ⟨R53, hR53⟩ : ∃ R : Act → World → Prop, R = fun a w => ∃ (u45 : List ByteArray) (u49 : Int) (k46 : Chunk), (u45, u49) = o50 ∧ Kn [(0, (.slice A0_ l0.length p0_)), (1, (.func (.func f1_) #[] c1_.toArray)), (5, (.int .i64 u49)), (6, (.int .i64 u18))] 42 a ∧ Sat (blks [(1, k0_)]) w0 w [(2, k1_)] [(1, k46)] ∧ Own Lay.str 9 A0_ p0_ u45 k46 ∧ u45.length = l0.length := ⟨_, rfl⟩
      refine wp_cutq R53 ?_ ?_
      ·have H := h51
       rcases cond_some H with ⟨c54, H⟩ | ⟨c54, H⟩
       ·have hk := hk.lit 29 c54 rfl
        refine cnd_true hk rfl rfl ?_
        apply wp_seq_k; intro K55 hK55
        apply wp_region_lit
        refine sm _ rfl hk rfl rfl rfl fun a hk => ?_
        refine sm _ rfl hk rfl rfl rfl fun a hk => ?_
        refine sm _ rfl hk rfl rfl rfl fun a hk => ?_
        rcases ite_some H with ⟨c56, H⟩ | ⟨_, H⟩
        rotate_left
        ·cases H
        obtain ⟨b57, q58, hAc56⟩ := (o15.view).some_ u17 c56.1 (by rw [lh16]; exact c56.2)
        refine si rfl hk rfl rfl rfl rfl un59 sz9 c56.1 c56.2 hAc56 fun a hk => ?_
        refine so (j := 0) 1 ByteArray.empty (u13.getD u18.toNat ByteArray.empty) hs rfl o15 c56.1 (by rw [lh16]; exact c56.2) rfl hk rfl rfl rfl rfl rfl sz9 (by simp [Value.cells, Value.oneCell']) (Nat.le_of_ble_eq_true rfl) (fun _ _ h => ⟨by rw [h.1]; rfl, h.2⟩) fun k59 w a hk o60 hs => ?_
        have lh61 : (u13.set u17.toNat (u13.getD u18.toNat ByteArray.empty)).length = l0.length := by rw [List.length_set]; exact lh16
        show wpList _ _ _ [] _ _
        refine wpList_nil ?_
        refine hK55 _ _ ?_
        apply wp_region_lit
        refine sm _ rfl hk rfl rfl rfl fun a hk => ?_
        refine sv (.int .i64 (w64 (u17 + 1))) hk rfl rfl rfl fun a hk => ?_
        refine sa _ rfl hk rfl rfl rfl fun a hk => ?_
        show wpList _ _ _ [] _ _
        refine wpList_nil ?_
        obtain rfl := Option.some.inj H
        show R53 _ _
        rw [hR53]
        exact ⟨(u13.set u17.toNat (u13.getD u18.toNat ByteArray.empty)), (w64 (u17 + 1)), _, rfl, (hk.c 0 rfl (hk.c 1 rfl (hk.c 5 rfl (hk.c 6 rfl hk.k)))), (hs.pick [(1, 1)] rfl), o60, lh61⟩
       ·have hk := hk.lit 29 c54 rfl
        refine cnd_false hk rfl rfl ?_
        refine wp_skip ?_
        obtain rfl := Option.some.inj H
        show R53 _ _
        rw [hR53]
        exact ⟨u13, u17, _, rfl, (hk.c 0 rfl (hk.c 1 rfl (hk.c 5 rfl (hk.c 6 rfl hk.k)))), (hs.pick [(1, 1)] rfl), o15, lh16⟩
      ·intro a w hR0
       rw [hR53] at hR0
       obtain ⟨u45, u49, k46, rfl, hk, hs, o47, lh48⟩ := hR0
       have H := HL52
       try dsimp only at H
       refine hK35 _ _ ?_
       apply wp_region_lit
       refine sm _ rfl hk rfl rfl rfl fun a hk => ?_
       refine sv (.int .i64 (w64 (u18 + 1))) hk rfl rfl rfl fun a hk => ?_
       refine sa _ rfl hk rfl rfl rfl fun a hk => ?_
       show wpList _ _ _ [] _ _
       refine wpList_nil ?_
       obtain rfl := Option.some.inj H
       obtain ⟨m62, hmm62, h31⟩ := h31
       show ∃ n', n' < _ ∧ I28 n' _ _
       refine ⟨m62, hmm62, ?_⟩
       rw [hI28]
       exact ⟨u45, u49, (w64 (u18 + 1)), _, h31, (hk.c 0 rfl (hk.c 1 rfl (hk.c 5 rfl (hk.c 6 rfl hk.k)))), (hs.pick [(1, 1)] rfl), o47, lh48⟩
     ·have hk := hk.lit 19 c34 rfl
      refine cnd_false hk rfl rfl ?_
      refine wp_exit ?_
      obtain rfl := Option.some.inj H
      show R27 _ _
      rw [hR27]
      exact ⟨u13, u17, _, h31.symm, (hk.c 0 rfl (hk.c 5 rfl hk.k)), (hs.pick [(1, 1)] rfl), o15, lh16⟩
   ·intro a w hR0
    rw [hR27] at hR0
    obtain ⟨u19, u23, k20, rfl, hk, hs, o21, lh22⟩ := hR0
    have H := HL26
    try dsimp only at H
    refine hK9 _ _ ?_
    apply wp_seq_k; intro K63 hK63
    apply wp_region_lit
    refine sm _ rfl hk rfl rfl rfl fun a hk => ?_
    refine sm _ rfl hk rfl rfl rfl fun a hk => ?_
    rcases ite_some H with ⟨c64, H⟩ | ⟨_, H⟩
    rotate_left
    ·cases H
    refine sll_l rfl hk rfl rfl rfl rfl un59 sz9 c64.1 c64.2 fun a hk => ?_
    have v65 : View Lay.str (if p0_ = u23.toNat then A0_ else (A0_ : Option Addr).map (·.add (u23.toNat * 1))) (p0_ - u23.toNat) (u19.drop u23.toNat) k20 := (o21.view).dropv u23.toNat (by have := lh22; omega)
    have lh66 : (u19.drop u23.toNat).length = (l0.length - u23.toNat) := (by rw [List.length_drop]; rw [lh22])
    refine sclr 1 (xs := u19) (z := ByteArray.empty) (flat_flat : (Lay.str).Flat) hs rfl o21 rfl hk rfl rfl (by rw [lh22]) rfl un59 ze9 rfl rfl rfl (by exact ⟨rfl, rfl⟩) (by have := lh22; omega) fun k67 w a hk o68 hs => ?_
    have lh69 : (clrL u19 u23.toNat ByteArray.empty).length = l0.length := by rw [clrL_len _ (by have := lh22; omega)]; exact lh22
    show wpList _ _ _ [] _ _
    refine wpList_nil ?_
    refine hK63 _ _ ?_
    apply wp_seq_k; intro K70 hK70
    apply wp_region_lit
    refine sm _ rfl hk rfl rfl rfl fun a hk => ?_
    refine sm _ rfl hk rfl rfl rfl fun a hk => ?_
    rcases ite_some H with ⟨c71, H⟩ | ⟨_, H⟩
    rotate_left
    ·cases H
    refine sll_h rfl hk rfl rfl rfl rfl un59 sz9 c71.1 (by have := (o68.view).le_cap; have := lh69; omega) fun a hk => ?_
    have v72 : View Lay.str (if p0_ = 0 then A0_ else (A0_ : Option Addr).map (·.add (0 * 1))) (p0_ - 0) ((clrL u19 u23.toNat ByteArray.empty).take u23.toNat) k67 := (o68.view).takev u23.toNat (by have := lh69; omega)
    have lh73 : ((clrL u19 u23.toNat ByteArray.empty).take u23.toNat).length = (u23.toNat - 0) := (by rw [List.length_take]; have := lh69; omega)
    refine sa _ rfl hk rfl rfl rfl fun a hk => ?_
    show wpList _ _ _ [] _ _
    refine wpList_nil ?_
    refine hK70 _ _ ?_
    have hs := hs.pick [(1, 1)] rfl
    refine wp_ret ?_
    obtain ⟨k74, o75, hs⟩ := hs.cutRow 1 1 u23.toNat (flat_flat : (Lay.str).Flat) rfl o68 (by have := lh69; omega)
    obtain rfl := Option.some.inj H
    exact fin hk _ [(.slice (if p0_ = 0 then A0_ else (A0_ : Option Addr).map (·.add (0 * 1))) (u23.toNat - 0) (p0_ - 0))] rfl ⟨rfl, trivial⟩ ⟨(if p0_ = 0 then A0_ else (A0_ : Option Addr).map (·.add (0 * 1))), (p0_ - 0), _, (by first | (rw [lh73]; done) | (rw [lh73]; rfl)), o75, (hs.pick [(0, 1)] rfl).dnil⟩

noncomputable def impl_wordsOf_c1.f (x0 : ByteArray) : Option (Bool) :=
  (some (x0.toList == (⟨#[]⟩ : ByteArray).toList))
set_option maxRecDepth 100000 in
set_option maxHeartbeats 0 in
theorem impl_wordsOf_c1_t (w0 : World) (x0 : ByteArray) (r : Bool) (H : impl_wordsOf_c1.f x0 = some r) :
    Calls Tryz.prog 78 #[.string x0] w0 (Ret (fun v w => v = .bool r ∧ Sat [] w0 w [] [])) := by
  have hs : Sat [] w0 w0 [] [] := Sat.init w0 [] [] (by simp) (by simp) List.nodup_nil (by simp [blks])
  unfold impl_wordsOf_c1.f at H
  refine enter Tryz.func78 rfl Tryz.ntmps78 rfl fun a hk => ?_
  apply wp_seq_k; intro K1 hK1
  apply wp_region_lit
  refine sa _ rfl hk rfl rfl rfl fun a hk => ?_
  show wpList _ _ _ [] _ _
  refine wpList_nil ?_
  refine hK1 _ _ ?_
  apply wp_seq_k; intro K2 hK2
  apply wp_region_lit
  refine sm _ rfl hk rfl rfl rfl fun a hk => ?_
  refine sv (.bool (x0.toList == (⟨#[]⟩ : ByteArray).toList)) hk rfl rfl rfl fun a hk => ?_
  refine sa _ rfl hk rfl rfl rfl fun a hk => ?_
  show wpList _ _ _ [] _ _
  refine wpList_nil ?_
  refine hK2 _ _ ?_
  refine wp_ret ?_
  obtain rfl := Option.some.inj H
  exact fin hk _ [(.bool (x0.toList == (⟨#[]⟩ : ByteArray).toList))] rfl ⟨rfl, trivial⟩ ⟨rfl, (hs.pick [] rfl).dnil⟩

noncomputable def impl_wordsOf.f (x0 : ByteArray) : Option ((List ByteArray)) :=
  ((strings_Split.f x0 (⟨#[32]⟩ : ByteArray)).bind fun y3 => ((slices_DeleteFunc_string_string.f y3 impl_wordsOf_c1.f).bind fun y9 => (some y9)))
set_option maxRecDepth 100000 in
set_option maxHeartbeats 0 in
theorem impl_wordsOf_t (w0 : World) (x0 : ByteArray) (kT : Chunk) (tT : TabR Tryz.prog kT) (wT : Has w0 kT) (r : (List ByteArray)) (H : impl_wordsOf.f x0 = some r) :
    Calls Tryz.prog 53 #[.string x0] w0 (Ret (fun v w => ∃ (A0 : Option Addr) (p0 : Nat) (k0 : Chunk), v = .slice A0 r.length p0 ∧ Own Lay.str 9 A0 p0 r k0 ∧ Sat [] w0 w [] [(0, k0)])) := by
  have hs : Sat [] w0 w0 [(1, kT)] [] := Sat.init w0 [(1, kT)] [] (by simp only [List.mem_cons, List.not_mem_nil, or_false]; rintro x (rfl) <;> assumption) (by simp) List.nodup_nil (by simp [blks])
  unfold impl_wordsOf.f at H
  refine enter Tryz.func53 rfl Tryz.ntmps53 rfl fun a hk => ?_
  apply wp_seq_k; intro K1 hK1
  apply wp_region_lit
  refine sa _ rfl hk rfl rfl rfl fun a hk => ?_
  show wpList _ _ _ [] _ _
  refine wpList_nil ?_
  refine hK1 _ _ ?_
  apply wp_seq_k; intro K2 hK2
  apply wp_region_lit
  refine sm _ rfl hk rfl rfl rfl fun a hk => ?_
  obtain ⟨y3, h4, H⟩ := bind_some H
  refine sc rfl en42 hk rfl rfl rfl (strings_Split_t _ x0 (⟨#[32]⟩ : ByteArray) kT tT (hs.hasD (k := 1) rfl) _ h4) ?_
  rintro _ w ⟨A5, p6, k7, rfl, o8, hG⟩ a hk
  have hs := hs.call0k hG [2] rfl
  obtain ⟨y9, h10, H⟩ := bind_some H
  refine sc rfl en77 hk rfl rfl rfl (slices_DeleteFunc_string_string_t _ A5 p6 y3 _ o8 78 [] en78 impl_wordsOf_c1.f [] (fun w _ z0 r h => impl_wordsOf_c1_t w z0 r h) (Has.nil _) (((hs.hand [(1, 2)] rfl).dnilk 2003).dpick [(2, 2003)] rfl) _ h10) ?_
  rintro _ w ⟨A11, p12, k13, rfl, o14, hG⟩ a hk
  have hs := hs.back [(1, 2)] rfl hG [4] rfl
  refine sa _ rfl hk rfl rfl rfl fun a hk => ?_
  show wpList _ _ _ [] _ _
  refine wpList_nil ?_
  refine hK2 _ _ ?_
  refine wp_ret ?_
  obtain rfl := Option.some.inj H
  exact fin hk _ [(.slice A11 y9.length p12)] rfl ⟨rfl, trivial⟩ ⟨A11, p12, _, rfl, o14, (hs.pick [(0, 4)] rfl).dnil⟩

def itoa_ren : Go.Shelf.Ren := ⟨fun | 171 => 52 | 243 => 76 | 246 => 90 | 283 => 100 | 284 => 101 | 285 => 102 | 286 => 103 | 129 => 113 | 317 => 112 | 318 => 114 | 319 => 115 | 320 => 116 | 337 => 125 | 338 => 126 | n => n, fun | 3 => 3 | 9 => 9 | 2 => 2 | 4 => 4 | 171 => 109 | 0 => 0 | 53 => 110 | 37 => 28 | 5 => 5 | 173 => 113 | 212 => 117 | 51 => 118 | 20 => 20 | 213 => 119 | 46 => 116 | 232 => 141 | 233 => 142 | n => n, fun | 17 => 1 | 18 => 6 | 19 => 7 | n => n⟩
theorem itoa_lays : Go.Proofs.LaysM.n171 Tryz.prog itoa_ren := {
  mixed := by kernel_rfl
  f129 := Tryz.func113.trans (congrArg some (by kernel_rfl))
  f171 := Tryz.func52.trans (congrArg some (by kernel_rfl))
  f243 := Tryz.func76.trans (congrArg some (by kernel_rfl))
  f246 := Tryz.func90.trans (congrArg some (by kernel_rfl))
  f283 := Tryz.func100.trans (congrArg some (by kernel_rfl))
  f284 := Tryz.func101.trans (congrArg some (by kernel_rfl))
  f285 := Tryz.func102.trans (congrArg some (by kernel_rfl))
  f286 := Tryz.func103.trans (congrArg some (by kernel_rfl))
  f317 := Tryz.func112.trans (congrArg some (by kernel_rfl))
  f318 := Tryz.func114.trans (congrArg some (by kernel_rfl))
  f319 := Tryz.func115.trans (congrArg some (by kernel_rfl))
  f320 := Tryz.func116.trans (congrArg some (by kernel_rfl))
  f337 := Tryz.func125.trans (congrArg some (by kernel_rfl))
  f338 := Tryz.func126.trans (congrArg some (by kernel_rfl))
  t0 := Tryz.underlying0
  a0 := Tryz.isAgg0
  z0 := Tryz.sizeOf0
  v0 := Tryz.zeroValue0
  t2 := Tryz.underlying2
  a2 := Tryz.isAgg2
  z2 := Tryz.sizeOf2
  v2 := Tryz.zeroValue2
  t3 := Tryz.underlying3
  a3 := Tryz.isAgg3
  z3 := Tryz.sizeOf3
  v3 := Tryz.zeroValue3
  t4 := Tryz.underlying4
  a4 := Tryz.isAgg4
  z4 := Tryz.sizeOf4
  v4 := Tryz.zeroValue4
  t5 := Tryz.underlying5
  a5 := Tryz.isAgg5
  z5 := Tryz.sizeOf5
  v5 := Tryz.zeroValue5
  t9 := Tryz.underlying9
  a9 := Tryz.isAgg9
  z9 := Tryz.sizeOf9
  v9 := Tryz.zeroValue9
  t20 := Tryz.underlying20
  a20 := Tryz.isAgg20
  z20 := Tryz.sizeOf20
  v20 := Tryz.zeroValue20
  t37 := Tryz.underlying28
  a37 := Tryz.isAgg28
  z37 := Tryz.sizeOf28
  v37 := Tryz.zeroValue28
  t46 := Tryz.underlying116
  a46 := Tryz.isAgg116
  z46 := Tryz.sizeOf116
  v46 := Tryz.zeroValue116
  t51 := Tryz.underlying118
  a51 := Tryz.isAgg118
  z51 := Tryz.sizeOf118
  v51 := Tryz.zeroValue118
  t53 := Tryz.underlying110
  a53 := Tryz.isAgg110
  z53 := Tryz.sizeOf110
  v53 := Tryz.zeroValue110
  t171 := Tryz.underlying109
  a171 := Tryz.isAgg109
  z171 := Tryz.sizeOf109
  v171 := Tryz.zeroValue109
  t173 := Tryz.underlying113
  a173 := Tryz.isAgg113
  z173 := Tryz.sizeOf113
  v173 := Tryz.zeroValue113
  t212 := Tryz.underlying117
  a212 := Tryz.isAgg117
  z212 := Tryz.sizeOf117
  v212 := Tryz.zeroValue117
  t213 := Tryz.underlying119
  a213 := Tryz.isAgg119
  z213 := Tryz.sizeOf119
  t232 := Tryz.underlying141
  a232 := Tryz.isAgg141
  z232 := Tryz.sizeOf141
  v232 := Tryz.zeroValue141
  t233 := Tryz.underlying142
  a233 := Tryz.isAgg142
  z233 := Tryz.sizeOf142
  v233 := Tryz.zeroValue142
  g17 := by kernel_rfl
  g18 := by kernel_rfl
  g19 := by kernel_rfl
  i0 := by kernel_rfl
  i2 := by kernel_rfl
  i3 := by kernel_rfl
  i4 := by kernel_rfl
  i5 := by kernel_rfl
  i9 := by kernel_rfl
  i20 := by kernel_rfl
  i37 := by kernel_rfl
  i46 := by kernel_rfl
  i51 := by kernel_rfl
  i53 := by kernel_rfl
  i171 := by kernel_rfl
  i173 := by kernel_rfl
  i212 := by kernel_rfl
  i232 := by kernel_rfl
  i233 := by kernel_rfl
  m17 := by kernel_rfl
  m18 := by kernel_rfl
  m19 := by kernel_rfl }
open Go.RowKit Go.Sort Go.Lib in
theorem itoa_shelf (n : Int) (h0 : -9223372036854775808 ≤ n) (h1 : n ≤ 9223372036854775807) (w : World) (htab : Lib.TabIs Tryz.prog w "internal/strconv.uint64pow10" .u64 Lib.pow10Tab) :
    Calls Tryz.prog 52 #[.int .i64 n] w fun e w' => e = .returned (.string ⟨(Lib.itoa n).toArray⟩) ∧ ∃ k os, w' = grow (w.drewN k) os := Any.strconv_Itoa itoa_lays n h0 h1 w htab
noncomputable def strconv_Itoa.f (x0 : Int) : Option ByteArray := if -9223372036854775808 ≤ x0 ∧ x0 ≤ 9223372036854775807 then some (itoaB x0) else none
theorem strconv_Itoa_t (w0 : World) (x0 : Int) (kT : Chunk) (tT : TabR Tryz.prog kT) (wT : Has w0 kT) (r : ByteArray) (H : strconv_Itoa.f x0 = some r) :
    Calls Tryz.prog 52 #[.int .i64 x0] w0 (Ret (fun v w => v = .string r ∧ Sat [] w0 w [] [])) := by
  unfold strconv_Itoa.f at H
  rcases ite_some H with ⟨h, H⟩ | ⟨_, H⟩
  rotate_left
  · cases H
  obtain rfl := Option.some.inj H
  refine (itoa_shelf x0 h.1 h.2 w0 (tT.pow _ wT)).mono ?_
  rintro e w' ⟨rfl, k, os, rfl⟩
  exact ⟨_, rfl, rfl, sat_grown _ _ _⟩

end Go.Proofs.YtfjhdkmdidadiaaGreatDoor
