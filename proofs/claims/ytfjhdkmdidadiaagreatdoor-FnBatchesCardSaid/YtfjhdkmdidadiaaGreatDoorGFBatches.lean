/- The functions that FnBatches reaches: for each a model and the walk that shows that the Go code comes to it. -/
import Derived.Test.YtfjhdkmdidadiaaGreatDoorT
namespace Go.Proofs.YtfjhdkmdidadiaaGreatDoor
open Go Go.Z Go.Proofs Go.MuLone Go.ChangeShapes Go.WideShapes Go.ChangeAt Go.RowKit
set_option linter.unusedVariables false
set_option linter.unusedSimpArgs false
noncomputable def slices_IndexFunc_string_string.s0 (l0 : List ByteArray) (q1 : ByteArray → Option (Bool)) (u6 : Int) : Option ((Int) ⊕ Ex (Unit) (Int)) :=
  (bif (decide (u6 < (l0.length : Int))) then (if 0 ≤ u6 ∧ u6 < (l0.length : Int) then ((q1 (l0.getD u6.toNat ByteArray.empty)).bind fun y25 => (bif y25 then (some (.inr (.ret u6))) else (some (.inl (w64 (u6 + 1)))))) else none) else (some (.inr (.out ()))))
noncomputable def slices_IndexFunc_string_string.f (l0 : List ByteArray) (q1 : ByteArray → Option (Bool)) : Option (Int) :=
  ((loopO (fun s => slices_IndexFunc_string_string.s0 l0 q1 s) 0).bind fun o => match o with | .out _ => (some (-1)) | .ret r => (some r))
set_option maxRecDepth 100000 in
set_option maxHeartbeats 0 in
theorem slices_IndexFunc_string_string_t (w0 : World) (A0_ : Option Addr) (p0_ : Nat) (l0 : List ByteArray) (k0_ : Chunk) (v0_ : View Lay.str A0_ p0_ l0 k0_) (w0_ : Has w0 k0_) (f1_ : FuncId) (c1_ : List Value) (e1_ : Enters Tryz.prog f1_) (q1 : ByteArray → Option (Bool)) (k1_ : Chunk) (t1_ : ∀ w, Has w k1_ → ∀ (z0 : ByteArray) (r : Bool), q1 z0 = some r → Calls Tryz.prog f1_ (([.string z0] : List Value) ++ c1_).toArray w (Ret (fun v w2 => v = .bool r ∧ Sat [] w w2 [] []))) (w1_ : Has w0 k1_) (r : Int) (H : slices_IndexFunc_string_string.f l0 q1 = some r) :
    Calls Tryz.prog 84 #[.slice A0_ l0.length p0_, .func (.func f1_) #[] c1_.toArray] w0 (Ret (fun v w => v = .int .i64 r ∧ Sat [] w0 w [] [])) := by
  have hs : Sat [] w0 w0 [(1, k0_), (2, k1_)] [] := Sat.init w0 [(1, k0_), (2, k1_)] [] (by simp only [List.mem_cons, List.not_mem_nil, or_false]; rintro x (rfl | rfl) <;> assumption) (by simp) List.nodup_nil (by simp [blks])
  unfold slices_IndexFunc_string_string.f at H
  refine enter Tryz.func84 rfl Tryz.ntmps84 rfl fun a hk => ?_
  apply wp_seq_k; intro K1 hK1
  apply wp_region_lit
  refine sa _ rfl hk rfl rfl rfl fun a hk => ?_
  show wpList _ _ _ [] _ _
  refine wpList_nil ?_
  refine hK1 _ _ ?_
  apply wp_seq_k; intro K2 hK2
  apply wp_seq_k; intro K3 hK3
  apply wp_region_lit
  refine sm _ rfl hk rfl rfl rfl fun a hk => ?_
  refine sle rfl hk rfl rfl rfl un59 fun a hk => ?_
  refine sm _ rfl hk rfl rfl rfl fun a hk => ?_
  show wpList _ _ _ [] _ _
  refine wpList_nil ?_
  refine hK3 _ _ ?_
  obtain ⟨o7, h8, HL9⟩ := bind_some H
  clear H
  obtain ⟨R10, hR10⟩ : ∃ R : Act → World → Prop, R = fun a w => o7 = .out () ∧ Kn [] 19 a ∧ Sat [] w0 w [(1, k0_), (2, k1_)] [] := ⟨_, rfl⟩
  refine wp_cutq R10 ?_ ?_
  ·refine wp_block ?_
   obtain ⟨fu12, h8⟩ := loopO_some h8
   obtain ⟨I11, hI11⟩ : ∃ I : Nat → Act → World → Prop, I = fun fu a w => ∃ (u6 : Int), loopN (fun s => slices_IndexFunc_string_string.s0 l0 q1 s) fu u6 = some o7 ∧ Kn [(0, (.slice A0_ l0.length p0_)), (1, (.func (.func f1_) #[] c1_.toArray)), (7, (.int .i64 (l0.length : Int))), (8, (.int .i64 u6))] 19 a ∧ Sat [] w0 w [(1, k0_), (2, k1_)] [] := ⟨_, rfl⟩
   refine wp_loop_ghost I11 fu12 ?_ ?_
   ·rw [hI11]
    exact ⟨0, h8, (hk.c 0 rfl (hk.c 1 rfl (hk.c 7 rfl (hk.c 8 rfl hk.k)))), (hs.pick [] rfl)⟩
   ·clear h8 hk hs
    intro fu12 a w hI0
    rw [hI11] at hI0
    obtain ⟨u6, hi, hk, hs⟩ := hI0
    obtain ⟨x13, H, h14⟩ := loop_round hi
    try dsimp only at H
    unfold slices_IndexFunc_string_string.s0 at H
    apply wp_seq_k; intro K15 hK15
    apply wp_region_lit
    refine sv (.bool (decide (u6 < (l0.length : Int)))) hk rfl rfl rfl fun a hk => ?_
    show wpList _ _ _ [] _ _
    refine wpList_nil ?_
    refine hK15 _ _ ?_
    apply wp_seq_k; intro K16 hK16
    rcases cond_some H with ⟨c17, H⟩ | ⟨c17, H⟩
    ·have hk := hk.lit 9 c17 rfl
     refine cnd_true hk rfl rfl ?_
     refine wp_skip ?_
     refine hK16 _ _ ?_
     have hs := hs.pick [] rfl
     apply wp_seq_k; intro K18 hK18
     refine wp_block ?_
     apply wp_seq_k; intro K19 hK19
     apply wp_region_lit
     refine sm _ rfl hk rfl rfl rfl fun a hk => ?_
     refine sa _ rfl hk rfl rfl rfl fun a hk => ?_
     show wpList _ _ _ [] _ _
     refine wpList_nil ?_
     refine hK19 _ _ ?_
     apply wp_seq_k; intro K20 hK20
     apply wp_region_lit
     refine sm _ rfl hk rfl rfl rfl fun a hk => ?_
     refine sm _ rfl hk rfl rfl rfl fun a hk => ?_
     refine sm _ rfl hk rfl rfl rfl fun a hk => ?_
     rcases ite_some H with ⟨c21, H⟩ | ⟨_, H⟩
     rotate_left
     ·cases H
     obtain ⟨b22, q23, hAc21⟩ := (v0_).some_ u6 c21.1 c21.2
     refine si rfl hk rfl rfl rfl rfl un59 sz9 c21.1 c21.2 hAc21 fun a hk => ?_
     obtain ⟨_, rfl, e24⟩ := (v0_).at_ ByteArray.empty u6 c21.1 c21.2
     refine sl (v := (.string (l0.getD u6.toNat ByteArray.empty))) rfl hk rfl rfl rfl ag9 ((e24 0 _ rfl).cell (hs.hasD (k := 1) rfl)) fun a hk => ?_
     obtain ⟨y25, h26, H⟩ := bind_some H
     refine scv (vs := ([(.string (l0.getD u6.toNat ByteArray.empty))] : List Value) ++ c1_) rfl rfl e1_ hk rfl rfl rfl (t1_ _ (hs.hasD (k := 2) rfl) (l0.getD u6.toNat ByteArray.empty) _ h26) ?_
     rintro _ w ⟨rfl, hG⟩ a hk
     have hs := hs.call0 hG
     show wpList _ _ _ [] _ _
     refine wpList_nil ?_
     refine hK20 _ _ ?_
     rcases cond_some H with ⟨c27, H⟩ | ⟨c27, H⟩
     ·have hk := hk.lit 16 c27 rfl
      refine cnd_true hk rfl rfl ?_
      apply wp_seq_k; intro K28 hK28
      apply wp_region_lit
      refine sm _ rfl hk rfl rfl rfl fun a hk => ?_
      refine sa _ rfl hk rfl rfl rfl fun a hk => ?_
      show wpList _ _ _ [] _ _
      refine wpList_nil ?_
      refine hK28 _ _ ?_
      refine wp_ret ?_
      obtain rfl := Option.some.inj H
      have ho7 := h14
      try dsimp only at ho7
      subst ho7
      have H := HL9
      try dsimp only at H
      obtain rfl := Option.some.inj H
      exact fin hk _ [(.int .i64 u6)] rfl ⟨rfl, trivial⟩ ⟨rfl, (hs.pick [] rfl).dnil⟩
     ·have hk := hk.lit 16 c27 rfl
      refine cnd_false hk rfl rfl ?_
      refine wp_skip ?_
      refine hK18 _ _ ?_
      apply wp_region_lit
      refine sv (.int .i64 (w64 (u6 + 1))) hk rfl rfl rfl fun a hk => ?_
      refine sm _ rfl hk rfl rfl rfl fun a hk => ?_
      show wpList _ _ _ [] _ _
      refine wpList_nil ?_
      obtain rfl := Option.some.inj H
      obtain ⟨m29, hmm29, h14⟩ := h14
      show ∃ n', n' < _ ∧ I11 n' _ _
      refine ⟨m29, hmm29, ?_⟩
      rw [hI11]
      exact ⟨(w64 (u6 + 1)), h14, (hk.c 0 rfl (hk.c 1 rfl (hk.c 7 rfl (hk.c 8 rfl hk.k)))), (hs.pick [] rfl)⟩
    ·have hk := hk.lit 9 c17 rfl
     refine cnd_false hk rfl rfl ?_
     refine wp_exit ?_
     obtain rfl := Option.some.inj H
     show R10 _ _
     rw [hR10]
     exact ⟨h14.symm, hk.k, (hs.pick [] rfl)⟩
  ·intro a w hR0
   rw [hR10] at hR0
   obtain ⟨rfl, hk, hs⟩ := hR0
   have H := HL9
   try dsimp only at H
   refine hK2 _ _ ?_
   apply wp_seq_k; intro K30 hK30
   apply wp_region_lit
   refine sa _ rfl hk rfl rfl rfl fun a hk => ?_
   show wpList _ _ _ [] _ _
   refine wpList_nil ?_
   refine hK30 _ _ ?_
   have hs := hs.pick [] rfl
   refine wp_ret ?_
   obtain rfl := Option.some.inj H
   exact fin hk _ [(.int .i64 (-1))] rfl ⟨rfl, trivial⟩ ⟨rfl, (hs.pick [] rfl).dnil⟩

noncomputable def slices_ContainsFunc_string_string.f (l0 : List ByteArray) (q1 : ByteArray → Option (Bool)) : Option (Bool) :=
  ((slices_IndexFunc_string_string.f l0 q1).bind fun y3 => (some (decide (y3 ≥ 0))))
set_option maxRecDepth 100000 in
set_option maxHeartbeats 0 in
theorem slices_ContainsFunc_string_string_t (w0 : World) (A0_ : Option Addr) (p0_ : Nat) (l0 : List ByteArray) (k0_ : Chunk) (v0_ : View Lay.str A0_ p0_ l0 k0_) (w0_ : Has w0 k0_) (f1_ : FuncId) (c1_ : List Value) (e1_ : Enters Tryz.prog f1_) (q1 : ByteArray → Option (Bool)) (k1_ : Chunk) (t1_ : ∀ w, Has w k1_ → ∀ (z0 : ByteArray) (r : Bool), q1 z0 = some r → Calls Tryz.prog f1_ (([.string z0] : List Value) ++ c1_).toArray w (Ret (fun v w2 => v = .bool r ∧ Sat [] w w2 [] []))) (w1_ : Has w0 k1_) (r : Bool) (H : slices_ContainsFunc_string_string.f l0 q1 = some r) :
    Calls Tryz.prog 67 #[.slice A0_ l0.length p0_, .func (.func f1_) #[] c1_.toArray] w0 (Ret (fun v w => v = .bool r ∧ Sat [] w0 w [] [])) := by
  have hs : Sat [] w0 w0 [(1, k0_), (2, k1_)] [] := Sat.init w0 [(1, k0_), (2, k1_)] [] (by simp only [List.mem_cons, List.not_mem_nil, or_false]; rintro x (rfl | rfl) <;> assumption) (by simp) List.nodup_nil (by simp [blks])
  unfold slices_ContainsFunc_string_string.f at H
  refine enter Tryz.func67 rfl Tryz.ntmps67 rfl fun a hk => ?_
  apply wp_seq_k; intro K1 hK1
  apply wp_region_lit
  refine sa _ rfl hk rfl rfl rfl fun a hk => ?_
  show wpList _ _ _ [] _ _
  refine wpList_nil ?_
  refine hK1 _ _ ?_
  apply wp_seq_k; intro K2 hK2
  apply wp_region_lit
  refine sm _ rfl hk rfl rfl rfl fun a hk => ?_
  refine sm _ rfl hk rfl rfl rfl fun a hk => ?_
  obtain ⟨y3, h4, H⟩ := bind_some H
  refine sc rfl en84 hk rfl rfl rfl (slices_IndexFunc_string_string_t _ A0_ p0_ l0 _ v0_ (hs.hasD (k := 1) rfl) f1_ c1_ e1_ q1 k1_ t1_ (hs.hasD (k := 2) rfl) _ h4) ?_
  rintro _ w ⟨rfl, hG⟩ a hk
  have hs := hs.call0 hG
  refine sv (.bool (decide (y3 ≥ 0))) hk rfl rfl rfl fun a hk => ?_
  refine sa _ rfl hk rfl rfl rfl fun a hk => ?_
  show wpList _ _ _ [] _ _
  refine wpList_nil ?_
  refine hK2 _ _ ?_
  refine wp_ret ?_
  obtain rfl := Option.some.inj H
  exact fin hk _ [(.bool (decide (y3 ≥ 0)))] rfl ⟨rfl, trivial⟩ ⟨rfl, (hs.pick [] rfl).dnil⟩

noncomputable def impl_areAll_string__c1.f (x0 : ByteArray) (q1 : ByteArray → Option (Bool)) : Option (Bool) :=
  ((q1 x0).bind fun y3 => (some (!y3)))
set_option maxRecDepth 100000 in
set_option maxHeartbeats 0 in
theorem impl_areAll_string__c1_t (w0 : World) (x0 : ByteArray) (b1_ : Nat) (f1_ : FuncId) (c1_ : List Value) (e1_ : Enters Tryz.prog f1_) (q1 : ByteArray → Option (Bool)) (k1_ : Chunk) (t1_ : ∀ w, Has w k1_ → ∀ (z0 : ByteArray) (r : Bool), q1 z0 = some r → Calls Tryz.prog f1_ (([.string z0] : List Value) ++ c1_).toArray w (Ret (fun v w2 => v = .bool r ∧ Sat [] w w2 [] []))) (w1_ : Has w0 k1_) (h1_ : Has w0 [(b1_, .cells #[.func (.func f1_) #[] c1_.toArray] 27 (0, 0))]) (r : Bool) (H : impl_areAll_string__c1.f x0 q1 = some r) :
    Calls Tryz.prog 68 #[.string x0, .pointer (some ⟨b1_, 0, none⟩)] w0 (Ret (fun v w => v = .bool r ∧ Sat [] w0 w [] [])) := by
  have hs : Sat [] w0 w0 [(2, k1_), (1, [(b1_, .cells #[.func (.func f1_) #[] c1_.toArray] 27 (0, 0))])] [] := Sat.init w0 [(2, k1_), (1, [(b1_, .cells #[.func (.func f1_) #[] c1_.toArray] 27 (0, 0))])] [] (by simp only [List.mem_cons, List.not_mem_nil, or_false]; rintro x (rfl | rfl) <;> assumption) (by simp) List.nodup_nil (by simp [blks])
  unfold impl_areAll_string__c1.f at H
  refine enter Tryz.func68 rfl Tryz.ntmps68 rfl fun a hk => ?_
  apply wp_seq_k; intro K1 hK1
  apply wp_region_lit
  refine sa _ rfl hk rfl rfl rfl fun a hk => ?_
  show wpList _ _ _ [] _ _
  refine wpList_nil ?_
  refine hK1 _ _ ?_
  apply wp_seq_k; intro K2 hK2
  apply wp_region_lit
  refine sl rfl hk rfl rfl rfl ag27 (box_cellD hs (k := 1) rfl rfl) fun a hk => ?_
  refine sm _ rfl hk rfl rfl rfl fun a hk => ?_
  obtain ⟨y3, h4, H⟩ := bind_some H
  refine scv (vs := ([(.string x0)] : List Value) ++ c1_) rfl rfl e1_ hk rfl rfl rfl (t1_ _ (hs.hasD (k := 2) rfl) x0 _ h4) ?_
  rintro _ w ⟨rfl, hG⟩ a hk
  have hs := hs.call0 hG
  refine sv (.bool (!y3)) hk rfl rfl rfl fun a hk => ?_
  refine sa _ rfl hk rfl rfl rfl fun a hk => ?_
  show wpList _ _ _ [] _ _
  refine wpList_nil ?_
  refine hK2 _ _ ?_
  refine wp_ret ?_
  obtain rfl := Option.some.inj H
  exact fin hk _ [(.bool (!y3))] rfl ⟨rfl, trivial⟩ ⟨rfl, (hs.pick [] rfl).dnil⟩

noncomputable def impl_areAll_string.f (l0 : List ByteArray) (q1 : ByteArray → Option (Bool)) : Option (Bool) :=
  ((slices_ContainsFunc_string_string.f l0 (fun z0 => impl_areAll_string__c1.f z0 q1)).bind fun y4 => (some (!y4)))
set_option maxRecDepth 100000 in
set_option maxHeartbeats 0 in
theorem impl_areAll_string_t (w0 : World) (A0_ : Option Addr) (p0_ : Nat) (l0 : List ByteArray) (k0_ : Chunk) (v0_ : View Lay.str A0_ p0_ l0 k0_) (w0_ : Has w0 k0_) (f1_ : FuncId) (c1_ : List Value) (e1_ : Enters Tryz.prog f1_) (q1 : ByteArray → Option (Bool)) (k1_ : Chunk) (t1_ : ∀ w, Has w k1_ → ∀ (z0 : ByteArray) (r : Bool), q1 z0 = some r → Calls Tryz.prog f1_ (([.string z0] : List Value) ++ c1_).toArray w (Ret (fun v w2 => v = .bool r ∧ Sat [] w w2 [] []))) (w1_ : Has w0 k1_) (r : Bool) (H : impl_areAll_string.f l0 q1 = some r) :
    Calls Tryz.prog 40 #[.slice A0_ l0.length p0_, .func (.func f1_) #[] c1_.toArray] w0 (Ret (fun v w => v = .bool r ∧ Sat [] w0 w [] [])) := by
  have hs : Sat [] w0 w0 [(1, k0_), (2, k1_)] [] := Sat.init w0 [(1, k0_), (2, k1_)] [] (by simp only [List.mem_cons, List.not_mem_nil, or_false]; rintro x (rfl | rfl) <;> assumption) (by simp) List.nodup_nil (by simp [blks])
  unfold impl_areAll_string.f at H
  refine enter Tryz.func40 rfl Tryz.ntmps40 rfl fun a hk => ?_
  apply wp_seq_k; intro K1 hK1
  apply wp_region_lit
  refine sbx 3 hs rfl hk rfl rfl rfl rfl fun b2 w a hk hs => ?_
  refine sa _ rfl hk rfl rfl rfl fun a hk => ?_
  show wpList _ _ _ [] _ _
  refine wpList_nil ?_
  refine hK1 _ _ ?_
  apply wp_seq_k; intro K3 hK3
  apply wp_region_lit
  refine sm _ rfl hk rfl rfl rfl fun a hk => ?_
  refine smf (cs := [.pointer (some ⟨b2, 0, none⟩)]) rfl hk rfl rfl rfl fun a hk => ?_
  obtain ⟨y4, h5, H⟩ := bind_some H
  refine sc rfl en67 hk rfl rfl rfl (slices_ContainsFunc_string_string_t _ A0_ p0_ l0 _ v0_ (hs.hasD (k := 1) rfl) 68 [.pointer (some ⟨b2, 0, none⟩)] en68 (fun z0 => impl_areAll_string__c1.f z0 q1) ([(b2, .cells #[.func (.func f1_) #[] c1_.toArray] 27 (0, 0))] ++ k1_) (fun w hz z0 r h => impl_areAll_string__c1_t w z0 _ f1_ c1_ e1_ q1 k1_ t1_ (Has.right hz) (Has.left hz) r h) (Has.app (hs.hasG (k := 3) rfl) (hs.hasD (k := 2) rfl)) _ h5) ?_
  rintro _ w ⟨rfl, hG⟩ a hk
  have hs := hs.call0 hG
  refine sv (.bool (!y4)) hk rfl rfl rfl fun a hk => ?_
  refine sa _ rfl hk rfl rfl rfl fun a hk => ?_
  show wpList _ _ _ [] _ _
  refine wpList_nil ?_
  refine hK3 _ _ ?_
  refine wp_ret ?_
  obtain rfl := Option.some.inj H
  exact fin hk _ [(.bool (!y4))] rfl ⟨rfl, trivial⟩ ⟨rfl, (hs.pick [] rfl).dnil⟩

noncomputable def impl_areShort_c1.f (x0 : ByteArray) : Option (Bool) :=
  (some (decide ((x0.size : Int) ≤ 65536)))
set_option maxRecDepth 100000 in
set_option maxHeartbeats 0 in
theorem impl_areShort_c1_t (w0 : World) (x0 : ByteArray) (r : Bool) (H : impl_areShort_c1.f x0 = some r) :
    Calls Tryz.prog 41 #[.string x0] w0 (Ret (fun v w => v = .bool r ∧ Sat [] w0 w [] [])) := by
  have hs : Sat [] w0 w0 [] [] := Sat.init w0 [] [] (by simp) (by simp) List.nodup_nil (by simp [blks])
  unfold impl_areShort_c1.f at H
  refine enter Tryz.func41 rfl Tryz.ntmps41 rfl fun a hk => ?_
  apply wp_seq_k; intro K1 hK1
  apply wp_region_lit
  refine sa _ rfl hk rfl rfl rfl fun a hk => ?_
  show wpList _ _ _ [] _ _
  refine wpList_nil ?_
  refine hK1 _ _ ?_
  apply wp_seq_k; intro K2 hK2
  apply wp_region_lit
  refine sm _ rfl hk rfl rfl rfl fun a hk => ?_
  refine sles rfl hk rfl rfl rfl un9 fun a hk => ?_
  refine sv (.bool (decide ((x0.size : Int) ≤ 65536))) hk rfl rfl rfl fun a hk => ?_
  refine sa _ rfl hk rfl rfl rfl fun a hk => ?_
  show wpList _ _ _ [] _ _
  refine wpList_nil ?_
  refine hK2 _ _ ?_
  refine wp_ret ?_
  obtain rfl := Option.some.inj H
  exact fin hk _ [(.bool (decide ((x0.size : Int) ≤ 65536)))] rfl ⟨rfl, trivial⟩ ⟨rfl, (hs.pick [] rfl).dnil⟩

noncomputable def impl_areShort.f (l0 : List ByteArray) : Option (Bool) :=
  ((impl_areAll_string.f l0 impl_areShort_c1.f).bind fun y3 => (some y3))
set_option maxRecDepth 100000 in
set_option maxHeartbeats 0 in
theorem impl_areShort_t (w0 : World) (A0_ : Option Addr) (p0_ : Nat) (l0 : List ByteArray) (k0_ : Chunk) (v0_ : View Lay.str A0_ p0_ l0 k0_) (w0_ : Has w0 k0_) (r : Bool) (H : impl_areShort.f l0 = some r) :
    Calls Tryz.prog 19 #[.slice A0_ l0.length p0_] w0 (Ret (fun v w => v = .bool r ∧ Sat [] w0 w [] [])) := by
  have hs : Sat [] w0 w0 [(1, k0_)] [] := Sat.init w0 [(1, k0_)] [] (by simp only [List.mem_cons, List.not_mem_nil, or_false]; rintro x (rfl) <;> assumption) (by simp) List.nodup_nil (by simp [blks])
  unfold impl_areShort.f at H
  refine enter Tryz.func19 rfl Tryz.ntmps19 rfl fun a hk => ?_
  apply wp_seq_k; intro K1 hK1
  apply wp_region_lit
  refine sa _ rfl hk rfl rfl rfl fun a hk => ?_
  show wpList _ _ _ [] _ _
  refine wpList_nil ?_
  refine hK1 _ _ ?_
  apply wp_seq_k; intro K2 hK2
  apply wp_region_lit
  refine sm _ rfl hk rfl rfl rfl fun a hk => ?_
  obtain ⟨y3, h4, H⟩ := bind_some H
  refine sc rfl en40 hk rfl rfl rfl (impl_areAll_string_t _ A0_ p0_ l0 _ v0_ (hs.hasD (k := 1) rfl) 41 [] en41 impl_areShort_c1.f [] (fun w _ z0 r h => impl_areShort_c1_t w z0 r h) (Has.nil _) _ h4) ?_
  rintro _ w ⟨rfl, hG⟩ a hk
  have hs := hs.call0 hG
  refine sa _ rfl hk rfl rfl rfl fun a hk => ?_
  show wpList _ _ _ [] _ _
  refine wpList_nil ?_
  refine hK2 _ _ ?_
  refine wp_ret ?_
  obtain rfl := Option.some.inj H
  exact fin hk _ [(.bool y3)] rfl ⟨rfl, trivial⟩ ⟨rfl, (hs.pick [] rfl).dnil⟩

noncomputable def impl_within.f (x0 : Int) (x1 : Int) (x2 : Int) : Option (Bool) :=
  (((bif (decide (x1 ≤ x0)) then (some (decide (x0 ≤ x2))) else (some false)) : Option (Bool)).bind fun u4 => (some u4))
set_option maxRecDepth 100000 in
set_option maxHeartbeats 0 in
theorem impl_within_t (w0 : World) (x0 : Int) (x1 : Int) (x2 : Int) (r : Bool) (H : impl_within.f x0 x1 x2 = some r) :
    Calls Tryz.prog 32 #[.int .i64 x0, .int .i64 x1, .int .i64 x2] w0 (Ret (fun v w => v = .bool r ∧ Sat [] w0 w [] [])) := by
  have hs : Sat [] w0 w0 [] [] := Sat.init w0 [] [] (by simp) (by simp) List.nodup_nil (by simp [blks])
  unfold impl_within.f at H
  refine enter Tryz.func32 rfl Tryz.ntmps32 rfl fun a hk => ?_
  apply wp_seq_k; intro K1 hK1
  apply wp_region_lit
  refine sa _ rfl hk rfl rfl rfl fun a hk => ?_
  show wpList _ _ _ [] _ _
  refine wpList_nil ?_
  refine hK1 _ _ ?_
  apply wp_seq_k; intro K2 hK2
  obtain ⟨o5, h6, HL7⟩ := bind_some H
  clear H
  obtain ⟨R8, hR8⟩ : ∃ R : Act → World → Prop, R = fun a w => ∃ (u4 : Bool), u4 = o5 ∧ Kn [(6, (.bool u4))] 15 a ∧ Sat [] w0 w [] [] := ⟨_, rfl⟩
  refine wp_cutq R8 ?_ ?_
  ·have H := h6
   apply wp_region_lit
   refine sm _ rfl hk rfl rfl rfl fun a hk => ?_
   refine sm _ rfl hk rfl rfl rfl fun a hk => ?_
   refine sv (.bool (decide (x1 ≤ x0))) hk rfl rfl rfl fun a hk => ?_
   refine sm _ rfl hk rfl rfl rfl fun a hk => ?_
   rcases cond_some H with ⟨c9, H⟩ | ⟨c9, H⟩
   ·have hk := hk.lit 10 c9 rfl
    refine sm _ rfl hk rfl rfl rfl fun a hk => ?_
    refine sm _ rfl hk rfl rfl rfl fun a hk => ?_
    refine sv (.bool (decide (x0 ≤ x2))) hk rfl rfl rfl fun a hk => ?_
    refine sv (.bool (decide (x0 ≤ x2))) hk rfl rfl rfl fun a hk => ?_
    refine sa _ rfl hk rfl rfl rfl fun a hk => ?_
    show wpList _ _ _ [] _ _
    refine wpList_nil ?_
    obtain rfl := Option.some.inj H
    show R8 _ _
    rw [hR8]
    exact ⟨(decide (x0 ≤ x2)), rfl, (hk.c 6 rfl hk.k), (hs.pick [] rfl)⟩
   ·have hk := hk.lit 10 c9 rfl
    refine sk hk rfl rfl rfl fun a hk => ?_
    refine sk hk rfl rfl rfl fun a hk => ?_
    refine sk hk rfl rfl rfl fun a hk => ?_
    refine sv (.bool false) hk rfl rfl rfl fun a hk => ?_
    refine sa _ rfl hk rfl rfl rfl fun a hk => ?_
    show wpList _ _ _ [] _ _
    refine wpList_nil ?_
    obtain rfl := Option.some.inj H
    show R8 _ _
    rw [hR8]
    exact ⟨false, rfl, (hk.c 6 rfl hk.k), (hs.pick [] rfl)⟩
  ·intro a w hR0
   rw [hR8] at hR0
   obtain ⟨u4, rfl, hk, hs⟩ := hR0
   have H := HL7
   try dsimp only at H
   refine hK2 _ _ ?_
   refine wp_ret ?_
   obtain rfl := Option.some.inj H
   exact fin hk _ [(.bool u4)] rfl ⟨rfl, trivial⟩ ⟨rfl, (hs.pick [] rfl).dnil⟩

noncomputable def slices_IndexFunc_impl_Txn_impl_Txn.s0 (l0 : List S_Txn) (q1 : S_Txn → Option (Bool)) (u6 : Int) : Option ((Int) ⊕ Ex (Unit) (Int)) :=
  (bif (decide (u6 < (l0.length : Int))) then (if 0 ≤ u6 ∧ u6 < (l0.length : Int) then ((q1 (l0.getD u6.toNat z_Txn)).bind fun y28 => (bif y28 then (some (.inr (.ret u6))) else (some (.inl (w64 (u6 + 1)))))) else none) else (some (.inr (.out ()))))
noncomputable def slices_IndexFunc_impl_Txn_impl_Txn.f (l0 : List S_Txn) (q1 : S_Txn → Option (Bool)) : Option (Int) :=
  ((loopO (fun s => slices_IndexFunc_impl_Txn_impl_Txn.s0 l0 q1 s) 0).bind fun o => match o with | .out _ => (some (-1)) | .ret r => (some r))
set_option maxRecDepth 100000 in
set_option maxHeartbeats 0 in
theorem slices_IndexFunc_impl_Txn_impl_Txn_t (w0 : World) (A0_ : Option Addr) (p0_ : Nat) (l0 : List S_Txn) (k0_ : Chunk) (v0_ : View L_impl_Txn A0_ p0_ l0 k0_) (w0_ : Has w0 k0_) (f1_ : FuncId) (c1_ : List Value) (e1_ : Enters Tryz.prog f1_) (q1 : S_Txn → Option (Bool)) (k1_ : Chunk) (t1_ : ∀ w, Has w k1_ → ∀ (z0 : S_Txn) (z0A0 : Option Addr) (z0p0 : Nat) (z0k0 : Chunk) (z0v0 : View L_Op z0A0 z0p0 z0.Ops z0k0) (z0w0 : Has w z0k0) (r : Bool), q1 z0 = some r → Calls Tryz.prog f1_ (([.agg #[.slice z0A0 z0.Ops.length z0p0]] : List Value) ++ c1_).toArray w (Ret (fun v w2 => v = .bool r ∧ Sat [] w w2 [] []))) (w1_ : Has w0 k1_) (r : Int) (H : slices_IndexFunc_impl_Txn_impl_Txn.f l0 q1 = some r) :
    Calls Tryz.prog 80 #[.slice A0_ l0.length p0_, .func (.func f1_) #[] c1_.toArray] w0 (Ret (fun v w => v = .int .i64 r ∧ Sat [] w0 w [] [])) := by
  have hs : Sat [] w0 w0 [(1, k0_), (2, k1_)] [] := Sat.init w0 [(1, k0_), (2, k1_)] [] (by simp only [List.mem_cons, List.not_mem_nil, or_false]; rintro x (rfl | rfl) <;> assumption) (by simp) List.nodup_nil (by simp [blks])
  unfold slices_IndexFunc_impl_Txn_impl_Txn.f at H
  refine enter Tryz.func80 rfl Tryz.ntmps80 rfl fun a hk => ?_
  apply wp_seq_k; intro K1 hK1
  apply wp_region_lit
  refine sa _ rfl hk rfl rfl rfl fun a hk => ?_
  show wpList _ _ _ [] _ _
  refine wpList_nil ?_
  refine hK1 _ _ ?_
  apply wp_seq_k; intro K2 hK2
  apply wp_seq_k; intro K3 hK3
  apply wp_region_lit
  refine sm _ rfl hk rfl rfl rfl fun a hk => ?_
  refine sle rfl hk rfl rfl rfl un22 fun a hk => ?_
  refine sm _ rfl hk rfl rfl rfl fun a hk => ?_
  show wpList _ _ _ [] _ _
  refine wpList_nil ?_
  refine hK3 _ _ ?_
  obtain ⟨o7, h8, HL9⟩ := bind_some H
  clear H
  obtain ⟨R10, hR10⟩ : ∃ R : Act → World → Prop, R = fun a w => o7 = .out () ∧ Kn [] 19 a ∧ Sat [] w0 w [(1, k0_), (2, k1_)] [] := ⟨_, rfl⟩
  refine wp_cutq R10 ?_ ?_
  ·refine wp_block ?_
   obtain ⟨fu12, h8⟩ := loopO_some h8
   obtain ⟨I11, hI11⟩ : ∃ I : Nat → Act → World → Prop, I = fun fu a w => ∃ (u6 : Int), loopN (fun s => slices_IndexFunc_impl_Txn_impl_Txn.s0 l0 q1 s) fu u6 = some o7 ∧ Kn [(0, (.slice A0_ l0.length p0_)), (1, (.func (.func f1_) #[] c1_.toArray)), (7, (.int .i64 (l0.length : Int))), (8, (.int .i64 u6))] 19 a ∧ Sat [] w0 w [(1, k0_), (2, k1_)] [] := ⟨_, rfl⟩
   refine wp_loop_ghost I11 fu12 ?_ ?_
   ·rw [hI11]
    exact ⟨0, h8, (hk.c 0 rfl (hk.c 1 rfl (hk.c 7 rfl (hk.c 8 rfl hk.k)))), (hs.pick [] rfl)⟩
   ·clear h8 hk hs
    intro fu12 a w hI0
    rw [hI11] at hI0
    obtain ⟨u6, hi, hk, hs⟩ := hI0
    obtain ⟨x13, H, h14⟩ := loop_round hi
    try dsimp only at H
    unfold slices_IndexFunc_impl_Txn_impl_Txn.s0 at H
    apply wp_seq_k; intro K15 hK15
    apply wp_region_lit
    refine sv (.bool (decide (u6 < (l0.length : Int)))) hk rfl rfl rfl fun a hk => ?_
    show wpList _ _ _ [] _ _
    refine wpList_nil ?_
    refine hK15 _ _ ?_
    apply wp_seq_k; intro K16 hK16
    rcases cond_some H with ⟨c17, H⟩ | ⟨c17, H⟩
    ·have hk := hk.lit 9 c17 rfl
     refine cnd_true hk rfl rfl ?_
     refine wp_skip ?_
     refine hK16 _ _ ?_
     have hs := hs.pick [] rfl
     apply wp_seq_k; intro K18 hK18
     refine wp_block ?_
     apply wp_seq_k; intro K19 hK19
     apply wp_region_lit
     refine sm _ rfl hk rfl rfl rfl fun a hk => ?_
     refine sa _ rfl hk rfl rfl rfl fun a hk => ?_
     show wpList _ _ _ [] _ _
     refine wpList_nil ?_
     refine hK19 _ _ ?_
     apply wp_seq_k; intro K20 hK20
     apply wp_region_lit
     refine sm _ rfl hk rfl rfl rfl fun a hk => ?_
     refine sm _ rfl hk rfl rfl rfl fun a hk => ?_
     refine sm _ rfl hk rfl rfl rfl fun a hk => ?_
     rcases ite_some H with ⟨c21, H⟩ | ⟨_, H⟩
     rotate_left
     ·cases H
     obtain ⟨b22, q23, hAc21⟩ := (v0_).some_ u6 c21.1 c21.2
     refine si rfl hk rfl rfl rfl rfl un22 sz36 c21.1 c21.2 hAc21 fun a hk => ?_
     obtain ⟨_, ⟨_, rfl, A25, p26, rfl, v27⟩, e24⟩ := (v0_).at_ z_Txn u6 c21.1 c21.2
     refine sln [.slice A25 ((l0.getD u6.toNat z_Txn).Ops).length p26] rfl hk rfl rfl rfl ag36 sz36 (cells_at e24 (hs.hasD (k := 1) rfl)) fun a hk => ?_
     obtain ⟨y28, h29, H⟩ := bind_some H
     refine scv (vs := ([(.agg #[.slice A25 ((l0.getD u6.toNat z_Txn).Ops).length p26])] : List Value) ++ c1_) rfl rfl e1_ hk rfl rfl rfl (t1_ _ (hs.hasD (k := 2) rfl) (l0.getD u6.toNat z_Txn) A25 p26 _ v27 (hs.hasD (k := 1) rfl) _ h29) ?_
     rintro _ w ⟨rfl, hG⟩ a hk
     have hs := hs.call0 hG
     show wpList _ _ _ [] _ _
     refine wpList_nil ?_
     refine hK20 _ _ ?_
     rcases cond_some H with ⟨c30, H⟩ | ⟨c30, H⟩
     ·have hk := hk.lit 16 c30 rfl
      refine cnd_true hk rfl rfl ?_
      apply wp_seq_k; intro K31 hK31
      apply wp_region_lit
      refine sm _ rfl hk rfl rfl rfl fun a hk => ?_
      refine sa _ rfl hk rfl rfl rfl fun a hk => ?_
      show wpList _ _ _ [] _ _
      refine wpList_nil ?_
      refine hK31 _ _ ?_
      refine wp_ret ?_
      obtain rfl := Option.some.inj H
      have ho7 := h14
      try dsimp only at ho7
      subst ho7
      have H := HL9
      try dsimp only at H
      obtain rfl := Option.some.inj H
      exact fin hk _ [(.int .i64 u6)] rfl ⟨rfl, trivial⟩ ⟨rfl, (hs.pick [] rfl).dnil⟩
     ·have hk := hk.lit 16 c30 rfl
      refine cnd_false hk rfl rfl ?_
      refine wp_skip ?_
      refine hK18 _ _ ?_
      apply wp_region_lit
      refine sv (.int .i64 (w64 (u6 + 1))) hk rfl rfl rfl fun a hk => ?_
      refine sm _ rfl hk rfl rfl rfl fun a hk => ?_
      show wpList _ _ _ [] _ _
      refine wpList_nil ?_
      obtain rfl := Option.some.inj H
      obtain ⟨m32, hmm32, h14⟩ := h14
      show ∃ n', n' < _ ∧ I11 n' _ _
      refine ⟨m32, hmm32, ?_⟩
      rw [hI11]
      exact ⟨(w64 (u6 + 1)), h14, (hk.c 0 rfl (hk.c 1 rfl (hk.c 7 rfl (hk.c 8 rfl hk.k)))), (hs.pick [] rfl)⟩
    ·have hk := hk.lit 9 c17 rfl
     refine cnd_false hk rfl rfl ?_
     refine wp_exit ?_
     obtain rfl := Option.some.inj H
     show R10 _ _
     rw [hR10]
     exact ⟨h14.symm, hk.k, (hs.pick [] rfl)⟩
  ·intro a w hR0
   rw [hR10] at hR0
   obtain ⟨rfl, hk, hs⟩ := hR0
   have H := HL9
   try dsimp only at H
   refine hK2 _ _ ?_
   apply wp_seq_k; intro K33 hK33
   apply wp_region_lit
   refine sa _ rfl hk rfl rfl rfl fun a hk => ?_
   show wpList _ _ _ [] _ _
   refine wpList_nil ?_
   refine hK33 _ _ ?_
   have hs := hs.pick [] rfl
   refine wp_ret ?_
   obtain rfl := Option.some.inj H
   exact fin hk _ [(.int .i64 (-1))] rfl ⟨rfl, trivial⟩ ⟨rfl, (hs.pick [] rfl).dnil⟩

noncomputable def slices_ContainsFunc_impl_Txn_impl_Txn.f (l0 : List S_Txn) (q1 : S_Txn → Option (Bool)) : Option (Bool) :=
  ((slices_IndexFunc_impl_Txn_impl_Txn.f l0 q1).bind fun y3 => (some (decide (y3 ≥ 0))))
set_option maxRecDepth 100000 in
set_option maxHeartbeats 0 in
theorem slices_ContainsFunc_impl_Txn_impl_Txn_t (w0 : World) (A0_ : Option Addr) (p0_ : Nat) (l0 : List S_Txn) (k0_ : Chunk) (v0_ : View L_impl_Txn A0_ p0_ l0 k0_) (w0_ : Has w0 k0_) (f1_ : FuncId) (c1_ : List Value) (e1_ : Enters Tryz.prog f1_) (q1 : S_Txn → Option (Bool)) (k1_ : Chunk) (t1_ : ∀ w, Has w k1_ → ∀ (z0 : S_Txn) (z0A0 : Option Addr) (z0p0 : Nat) (z0k0 : Chunk) (z0v0 : View L_Op z0A0 z0p0 z0.Ops z0k0) (z0w0 : Has w z0k0) (r : Bool), q1 z0 = some r → Calls Tryz.prog f1_ (([.agg #[.slice z0A0 z0.Ops.length z0p0]] : List Value) ++ c1_).toArray w (Ret (fun v w2 => v = .bool r ∧ Sat [] w w2 [] []))) (w1_ : Has w0 k1_) (r : Bool) (H : slices_ContainsFunc_impl_Txn_impl_Txn.f l0 q1 = some r) :
    Calls Tryz.prog 59 #[.slice A0_ l0.length p0_, .func (.func f1_) #[] c1_.toArray] w0 (Ret (fun v w => v = .bool r ∧ Sat [] w0 w [] [])) := by
  have hs : Sat [] w0 w0 [(1, k0_), (2, k1_)] [] := Sat.init w0 [(1, k0_), (2, k1_)] [] (by simp only [List.mem_cons, List.not_mem_nil, or_false]; rintro x (rfl | rfl) <;> assumption) (by simp) List.nodup_nil (by simp [blks])
  unfold slices_ContainsFunc_impl_Txn_impl_Txn.f at H
  refine enter Tryz.func59 rfl Tryz.ntmps59 rfl fun a hk => ?_
  apply wp_seq_k; intro K1 hK1
  apply wp_region_lit
  refine sa _ rfl hk rfl rfl rfl fun a hk => ?_
  show wpList _ _ _ [] _ _
  refine wpList_nil ?_
  refine hK1 _ _ ?_
  apply wp_seq_k; intro K2 hK2
  apply wp_region_lit
  refine sm _ rfl hk rfl rfl rfl fun a hk => ?_
  refine sm _ rfl hk rfl rfl rfl fun a hk => ?_
  obtain ⟨y3, h4, H⟩ := bind_some H
  refine sc rfl en80 hk rfl rfl rfl (slices_IndexFunc_impl_Txn_impl_Txn_t _ A0_ p0_ l0 _ v0_ (hs.hasD (k := 1) rfl) f1_ c1_ e1_ q1 k1_ t1_ (hs.hasD (k := 2) rfl) _ h4) ?_
  rintro _ w ⟨rfl, hG⟩ a hk
  have hs := hs.call0 hG
  refine sv (.bool (decide (y3 ≥ 0))) hk rfl rfl rfl fun a hk => ?_
  refine sa _ rfl hk rfl rfl rfl fun a hk => ?_
  show wpList _ _ _ [] _ _
  refine wpList_nil ?_
  refine hK2 _ _ ?_
  refine wp_ret ?_
  obtain rfl := Option.some.inj H
  exact fin hk _ [(.bool (decide (y3 ≥ 0)))] rfl ⟨rfl, trivial⟩ ⟨rfl, (hs.pick [] rfl).dnil⟩

noncomputable def impl_areAll_impl_Txn__c1.f (x0 : S_Txn) (q1 : S_Txn → Option (Bool)) : Option (Bool) :=
  ((q1 x0).bind fun y4 => (some (!y4)))
set_option maxRecDepth 100000 in
set_option maxHeartbeats 0 in
theorem impl_areAll_impl_Txn__c1_t (w0 : World) (x0 : S_Txn) (A0_0 : Option Addr) (p0_0 : Nat) (k0_0 : Chunk) (v0_0 : View L_Op A0_0 p0_0 x0.Ops k0_0) (w0_0 : Has w0 k0_0) (b1_ : Nat) (f1_ : FuncId) (c1_ : List Value) (e1_ : Enters Tryz.prog f1_) (q1 : S_Txn → Option (Bool)) (k1_ : Chunk) (t1_ : ∀ w, Has w k1_ → ∀ (z0 : S_Txn) (z0A0 : Option Addr) (z0p0 : Nat) (z0k0 : Chunk) (z0v0 : View L_Op z0A0 z0p0 z0.Ops z0k0) (z0w0 : Has w z0k0) (r : Bool), q1 z0 = some r → Calls Tryz.prog f1_ (([.agg #[.slice z0A0 z0.Ops.length z0p0]] : List Value) ++ c1_).toArray w (Ret (fun v w2 => v = .bool r ∧ Sat [] w w2 [] []))) (w1_ : Has w0 k1_) (h1_ : Has w0 [(b1_, .cells #[.func (.func f1_) #[] c1_.toArray] 58 (0, 0))]) (r : Bool) (H : impl_areAll_impl_Txn__c1.f x0 q1 = some r) :
    Calls Tryz.prog 60 #[.agg #[.slice A0_0 x0.Ops.length p0_0], .pointer (some ⟨b1_, 0, none⟩)] w0 (Ret (fun v w => v = .bool r ∧ Sat [] w0 w [] [])) := by
  have hs : Sat [] w0 w0 [(1, k0_0), (3, k1_), (2, [(b1_, .cells #[.func (.func f1_) #[] c1_.toArray] 58 (0, 0))])] [] := Sat.init w0 [(1, k0_0), (3, k1_), (2, [(b1_, .cells #[.func (.func f1_) #[] c1_.toArray] 58 (0, 0))])] [] (by simp only [List.mem_cons, List.not_mem_nil, or_false]; rintro x (rfl | rfl | rfl) <;> assumption) (by simp) List.nodup_nil (by simp [blks])
  unfold impl_areAll_impl_Txn__c1.f at H
  refine enter Tryz.func60 rfl Tryz.ntmps60 rfl fun a hk => ?_
  apply wp_seq_k; intro K1 hK1
  apply wp_region_lit
  refine sbx 4 hs rfl hk rfl rfl rfl rfl fun b2 w a hk hs => ?_
  refine sa _ rfl hk rfl rfl rfl fun a hk => ?_
  show wpList _ _ _ [] _ _
  refine wpList_nil ?_
  refine hK1 _ _ ?_
  apply wp_seq_k; intro K3 hK3
  apply wp_region_lit
  refine sl rfl hk rfl rfl rfl ag58 (box_cellD hs (k := 2) rfl rfl) fun a hk => ?_
  refine sln [.slice A0_0 x0.Ops.length p0_0] rfl hk rfl rfl rfl ag36 sz36 (box_cells hs (k := 4) rfl) fun a hk => ?_
  obtain ⟨y4, h5, H⟩ := bind_some H
  refine scv (vs := ([(.agg #[.slice A0_0 x0.Ops.length p0_0])] : List Value) ++ c1_) rfl rfl e1_ hk rfl rfl rfl (t1_ _ (hs.hasD (k := 3) rfl) x0 A0_0 p0_0 _ v0_0 (hs.hasD (k := 1) rfl) _ h5) ?_
  rintro _ w ⟨rfl, hG⟩ a hk
  have hs := hs.call0 hG
  refine sv (.bool (!y4)) hk rfl rfl rfl fun a hk => ?_
  refine sa _ rfl hk rfl rfl rfl fun a hk => ?_
  show wpList _ _ _ [] _ _
  refine wpList_nil ?_
  refine hK3 _ _ ?_
  refine wp_ret ?_
  obtain rfl := Option.some.inj H
  exact fin hk _ [(.bool (!y4))] rfl ⟨rfl, trivial⟩ ⟨rfl, (hs.pick [] rfl).dnil⟩

noncomputable def impl_areAll_impl_Txn.f (l0 : List S_Txn) (q1 : S_Txn → Option (Bool)) : Option (Bool) :=
  ((slices_ContainsFunc_impl_Txn_impl_Txn.f l0 (fun z0 => impl_areAll_impl_Txn__c1.f z0 q1)).bind fun y4 => (some (!y4)))
set_option maxRecDepth 100000 in
set_option maxHeartbeats 0 in
theorem impl_areAll_impl_Txn_t (w0 : World) (A0_ : Option Addr) (p0_ : Nat) (l0 : List S_Txn) (k0_ : Chunk) (v0_ : View L_impl_Txn A0_ p0_ l0 k0_) (w0_ : Has w0 k0_) (f1_ : FuncId) (c1_ : List Value) (e1_ : Enters Tryz.prog f1_) (q1 : S_Txn → Option (Bool)) (k1_ : Chunk) (t1_ : ∀ w, Has w k1_ → ∀ (z0 : S_Txn) (z0A0 : Option Addr) (z0p0 : Nat) (z0k0 : Chunk) (z0v0 : View L_Op z0A0 z0p0 z0.Ops z0k0) (z0w0 : Has w z0k0) (r : Bool), q1 z0 = some r → Calls Tryz.prog f1_ (([.agg #[.slice z0A0 z0.Ops.length z0p0]] : List Value) ++ c1_).toArray w (Ret (fun v w2 => v = .bool r ∧ Sat [] w w2 [] []))) (w1_ : Has w0 k1_) (r : Bool) (H : impl_areAll_impl_Txn.f l0 q1 = some r) :
    Calls Tryz.prog 36 #[.slice A0_ l0.length p0_, .func (.func f1_) #[] c1_.toArray] w0 (Ret (fun v w => v = .bool r ∧ Sat [] w0 w [] [])) := by
  have hs : Sat [] w0 w0 [(1, k0_), (2, k1_)] [] := Sat.init w0 [(1, k0_), (2, k1_)] [] (by simp only [List.mem_cons, List.not_mem_nil, or_false]; rintro x (rfl | rfl) <;> assumption) (by simp) List.nodup_nil (by simp [blks])
  unfold impl_areAll_impl_Txn.f at H
  refine enter Tryz.func36 rfl Tryz.ntmps36 rfl fun a hk => ?_
  apply wp_seq_k; intro K1 hK1
  apply wp_region_lit
  refine sbx 3 hs rfl hk rfl rfl rfl rfl fun b2 w a hk hs => ?_
  refine sa _ rfl hk rfl rfl rfl fun a hk => ?_
  show wpList _ _ _ [] _ _
  refine wpList_nil ?_
  refine hK1 _ _ ?_
  apply wp_seq_k; intro K3 hK3
  apply wp_region_lit
  refine sm _ rfl hk rfl rfl rfl fun a hk => ?_
  refine smf (cs := [.pointer (some ⟨b2, 0, none⟩)]) rfl hk rfl rfl rfl fun a hk => ?_
  obtain ⟨y4, h5, H⟩ := bind_some H
  refine sc rfl en59 hk rfl rfl rfl (slices_ContainsFunc_impl_Txn_impl_Txn_t _ A0_ p0_ l0 _ v0_ (hs.hasD (k := 1) rfl) 60 [.pointer (some ⟨b2, 0, none⟩)] en60 (fun z0 => impl_areAll_impl_Txn__c1.f z0 q1) ([(b2, .cells #[.func (.func f1_) #[] c1_.toArray] 58 (0, 0))] ++ k1_) (fun w hz z0 z0A0 z0p0 z0k0 z0v0 z0w0 r h => impl_areAll_impl_Txn__c1_t w z0 z0A0 z0p0 z0k0 z0v0 z0w0 _ f1_ c1_ e1_ q1 k1_ t1_ (Has.right hz) (Has.left hz) r h) (Has.app (hs.hasG (k := 3) rfl) (hs.hasD (k := 2) rfl)) _ h5) ?_
  rintro _ w ⟨rfl, hG⟩ a hk
  have hs := hs.call0 hG
  refine sv (.bool (!y4)) hk rfl rfl rfl fun a hk => ?_
  refine sa _ rfl hk rfl rfl rfl fun a hk => ?_
  show wpList _ _ _ [] _ _
  refine wpList_nil ?_
  refine hK3 _ _ ?_
  refine wp_ret ?_
  obtain rfl := Option.some.inj H
  exact fin hk _ [(.bool (!y4))] rfl ⟨rfl, trivial⟩ ⟨rfl, (hs.pick [] rfl).dnil⟩

noncomputable def impl_isKey.f (x0 : Int) : Option (Bool) :=
  ((impl_within.f x0 1 9999).bind fun y3 => (some y3))
set_option maxRecDepth 100000 in
set_option maxHeartbeats 0 in
theorem impl_isKey_t (w0 : World) (x0 : Int) (r : Bool) (H : impl_isKey.f x0 = some r) :
    Calls Tryz.prog 33 #[.int .i64 x0] w0 (Ret (fun v w => v = .bool r ∧ Sat [] w0 w [] [])) := by
  have hs : Sat [] w0 w0 [] [] := Sat.init w0 [] [] (by simp) (by simp) List.nodup_nil (by simp [blks])
  unfold impl_isKey.f at H
  refine enter Tryz.func33 rfl Tryz.ntmps33 rfl fun a hk => ?_
  apply wp_seq_k; intro K1 hK1
  apply wp_region_lit
  refine sa _ rfl hk rfl rfl rfl fun a hk => ?_
  show wpList _ _ _ [] _ _
  refine wpList_nil ?_
  refine hK1 _ _ ?_
  apply wp_seq_k; intro K2 hK2
  apply wp_region_lit
  refine sm _ rfl hk rfl rfl rfl fun a hk => ?_
  obtain ⟨y3, h4, H⟩ := bind_some H
  refine sc rfl en32 hk rfl rfl rfl (impl_within_t _ x0 1 9999 _ h4) ?_
  rintro _ w ⟨rfl, hG⟩ a hk
  have hs := hs.call0 hG
  refine sa _ rfl hk rfl rfl rfl fun a hk => ?_
  show wpList _ _ _ [] _ _
  refine wpList_nil ?_
  refine hK2 _ _ ?_
  refine wp_ret ?_
  obtain rfl := Option.some.inj H
  exact fin hk _ [(.bool y3)] rfl ⟨rfl, trivial⟩ ⟨rfl, (hs.pick [] rfl).dnil⟩

noncomputable def impl_isBare.f (x0 : Int) : Option (Bool) :=
  (((bif (x0 == 1) then (some true) else (some (x0 == 3))) : Option (Bool)).bind fun u4 => (some u4))
set_option maxRecDepth 100000 in
set_option maxHeartbeats 0 in
theorem impl_isBare_t (w0 : World) (x0 : Int) (r : Bool) (H : impl_isBare.f x0 = some r) :
    Calls Tryz.prog 34 #[.int .i64 x0] w0 (Ret (fun v w => v = .bool r ∧ Sat [] w0 w [] [])) := by
  have hs : Sat [] w0 w0 [] [] := Sat.init w0 [] [] (by simp) (by simp) List.nodup_nil (by simp [blks])
  unfold impl_isBare.f at H
  refine enter Tryz.func34 rfl Tryz.ntmps34 rfl fun a hk => ?_
  apply wp_seq_k; intro K1 hK1
  apply wp_region_lit
  refine sa _ rfl hk rfl rfl rfl fun a hk => ?_
  show wpList _ _ _ [] _ _
  refine wpList_nil ?_
  refine hK1 _ _ ?_
  apply wp_seq_k; intro K2 hK2
  obtain ⟨o5, h6, HL7⟩ := bind_some H
  clear H
  obtain ⟨R8, hR8⟩ : ∃ R : Act → World → Prop, R = fun a w => ∃ (u4 : Bool), u4 = o5 ∧ Kn [(2, (.bool u4))] 9 a ∧ Sat [] w0 w [] [] := ⟨_, rfl⟩
  refine wp_cutq R8 ?_ ?_
  ·have H := h6
   apply wp_region_lit
   refine sm _ rfl hk rfl rfl rfl fun a hk => ?_
   refine sv (.bool (x0 == 1)) hk rfl rfl rfl fun a hk => ?_
   refine sm _ rfl hk rfl rfl rfl fun a hk => ?_
   rcases cond_some H with ⟨c9, H⟩ | ⟨c9, H⟩
   ·have hk := hk.lit 5 c9 rfl
    refine sk hk rfl rfl rfl fun a hk => ?_
    refine sk hk rfl rfl rfl fun a hk => ?_
    refine sv (.bool true) hk rfl rfl rfl fun a hk => ?_
    refine sa _ rfl hk rfl rfl rfl fun a hk => ?_
    show wpList _ _ _ [] _ _
    refine wpList_nil ?_
    obtain rfl := Option.some.inj H
    show R8 _ _
    rw [hR8]
    exact ⟨true, rfl, (hk.c 2 rfl hk.k), (hs.pick [] rfl)⟩
   ·have hk := hk.lit 5 c9 rfl
    refine sm _ rfl hk rfl rfl rfl fun a hk => ?_
    refine sv (.bool (x0 == 3)) hk rfl rfl rfl fun a hk => ?_
    refine sv (.bool (x0 == 3)) hk rfl rfl rfl fun a hk => ?_
    refine sa _ rfl hk rfl rfl rfl fun a hk => ?_
    show wpList _ _ _ [] _ _
    refine wpList_nil ?_
    obtain rfl := Option.some.inj H
    show R8 _ _
    rw [hR8]
    exact ⟨(x0 == 3), rfl, (hk.c 2 rfl hk.k), (hs.pick [] rfl)⟩
  ·intro a w hR0
   rw [hR8] at hR0
   obtain ⟨u4, rfl, hk, hs⟩ := hR0
   have H := HL7
   try dsimp only at H
   refine hK2 _ _ ?_
   refine wp_ret ?_
   obtain rfl := Option.some.inj H
   exact fin hk _ [(.bool u4)] rfl ⟨rfl, trivial⟩ ⟨rfl, (hs.pick [] rfl).dnil⟩

noncomputable def impl_isValue.f (x0 : Int) : Option (Bool) :=
  ((impl_within.f x0 0 999999).bind fun y3 => (some y3))
set_option maxRecDepth 100000 in
set_option maxHeartbeats 0 in
theorem impl_isValue_t (w0 : World) (x0 : Int) (r : Bool) (H : impl_isValue.f x0 = some r) :
    Calls Tryz.prog 35 #[.int .i64 x0] w0 (Ret (fun v w => v = .bool r ∧ Sat [] w0 w [] [])) := by
  have hs : Sat [] w0 w0 [] [] := Sat.init w0 [] [] (by simp) (by simp) List.nodup_nil (by simp [blks])
  unfold impl_isValue.f at H
  refine enter Tryz.func35 rfl Tryz.ntmps35 rfl fun a hk => ?_
  apply wp_seq_k; intro K1 hK1
  apply wp_region_lit
  refine sa _ rfl hk rfl rfl rfl fun a hk => ?_
  show wpList _ _ _ [] _ _
  refine wpList_nil ?_
  refine hK1 _ _ ?_
  apply wp_seq_k; intro K2 hK2
  apply wp_region_lit
  refine sm _ rfl hk rfl rfl rfl fun a hk => ?_
  obtain ⟨y3, h4, H⟩ := bind_some H
  refine sc rfl en32 hk rfl rfl rfl (impl_within_t _ x0 0 999999 _ h4) ?_
  rintro _ w ⟨rfl, hG⟩ a hk
  have hs := hs.call0 hG
  refine sa _ rfl hk rfl rfl rfl fun a hk => ?_
  show wpList _ _ _ [] _ _
  refine wpList_nil ?_
  refine hK2 _ _ ?_
  refine wp_ret ?_
  obtain rfl := Option.some.inj H
  exact fin hk _ [(.bool y3)] rfl ⟨rfl, trivial⟩ ⟨rfl, (hs.pick [] rfl).dnil⟩

noncomputable def impl_OpOK.f (x0 : S_Op) : Option (Bool) :=
  ((((impl_within.f x0.Kind 1 6).bind fun y11 => (bif (!y11) then (some true) else ((impl_isKey.f x0.Key).bind fun y14 => (some (!y14))))) : Option (Bool)).bind fun u6 => (bif u6 then (some false) else ((impl_isBare.f x0.Kind).bind fun y20 => (bif y20 then (some (x0.Value == 0)) else (bif (x0.Kind == 6) then ((impl_within.f x0.Value 1 4).bind fun y27 => (some y27)) else ((impl_isValue.f x0.Value).bind fun y30 => (some y30)))))))
set_option maxRecDepth 100000 in
set_option maxHeartbeats 0 in
theorem impl_OpOK_t (w0 : World) (x0 : S_Op) (r : Bool) (H : impl_OpOK.f x0 = some r) :
    Calls Tryz.prog 16 #[.agg #[.int .i64 x0.Kind, .int .i64 x0.Key, .int .i64 x0.Value]] w0 (Ret (fun v w => v = .bool r ∧ Sat [] w0 w [] [])) := by
  have hs : Sat [] w0 w0 [] [] := Sat.init w0 [] [] (by simp) (by simp) List.nodup_nil (by simp [blks])
  unfold impl_OpOK.f at H
  refine enter Tryz.func16 rfl Tryz.ntmps16 rfl fun a hk => ?_
  apply wp_seq_k; intro K1 hK1
  apply wp_region_lit
  refine sbx 1 hs rfl hk rfl rfl rfl rfl fun b2 w a hk hs => ?_
  refine sa _ rfl hk rfl rfl rfl fun a hk => ?_
  show wpList _ _ _ [] _ _
  refine wpList_nil ?_
  refine hK1 _ _ ?_
  apply wp_seq_k; intro K3 hK3
  apply wp_seq_k; intro K4 hK4
  obtain ⟨o7, h8, HL9⟩ := bind_some H
  clear H
  obtain ⟨R10, hR10⟩ : ∃ R : Act → World → Prop, R = fun a w => ∃ (u6 : Bool), u6 = o7 ∧ Kn [(1, (.pointer (some ⟨b2, 0, none⟩))), (12, (.bool u6))] 30 a ∧ Sat [] w0 w [] [(1, [(b2, .cells #[.int .i64 x0.Kind, .int .i64 x0.Key, .int .i64 x0.Value] 33 (0, 0))])] := ⟨_, rfl⟩
  refine wp_cutq R10 ?_ ?_
  ·have H := h8
   apply wp_region_lit
   refine sf ⟨b2, 0, none⟩ rfl hk rfl rfl rfl fd33_0 rfl fun a hk => ?_
   refine sl rfl hk rfl rfl rfl ag3 (box_cell hs (k := 1) rfl rfl) fun a hk => ?_
   obtain ⟨y11, h12, H⟩ := bind_some H
   refine sc rfl en32 hk rfl rfl rfl (impl_within_t _ x0.Kind 1 6 _ h12) ?_
   rintro _ w ⟨rfl, hG⟩ a hk
   have hs := hs.call0 hG
   refine sv (.bool (!y11)) hk rfl rfl rfl fun a hk => ?_
   refine sm _ rfl hk rfl rfl rfl fun a hk => ?_
   rcases cond_some H with ⟨c13, H⟩ | ⟨c13, H⟩
   ·have hk := hk.lit 7 c13 rfl
    refine sk hk rfl rfl rfl fun a hk => ?_
    refine sk hk rfl rfl rfl fun a hk => ?_
    refine sk hk rfl rfl rfl fun a hk => ?_
    refine sk hk rfl rfl rfl fun a hk => ?_
    refine sv (.bool true) hk rfl rfl rfl fun a hk => ?_
    show wpList _ _ _ [] _ _
    refine wpList_nil ?_
    obtain rfl := Option.some.inj H
    show R10 _ _
    rw [hR10]
    exact ⟨true, rfl, (hk.c 1 rfl (hk.c 12 rfl hk.k)), (hs.pick [(1, 1)] rfl)⟩
   ·have hk := hk.lit 7 c13 rfl
    refine sf ⟨b2, 1, none⟩ rfl hk rfl rfl rfl fd33_1 rfl fun a hk => ?_
    refine sl rfl hk rfl rfl rfl ag3 (box_cell hs (k := 1) rfl rfl) fun a hk => ?_
    obtain ⟨y14, h15, H⟩ := bind_some H
    refine sc rfl en33 hk rfl rfl rfl (impl_isKey_t _ x0.Key _ h15) ?_
    rintro _ w ⟨rfl, hG⟩ a hk
    have hs := hs.call0 hG
    refine sv (.bool (!y14)) hk rfl rfl rfl fun a hk => ?_
    refine sv (.bool (!y14)) hk rfl rfl rfl fun a hk => ?_
    show wpList _ _ _ [] _ _
    refine wpList_nil ?_
    obtain rfl := Option.some.inj H
    show R10 _ _
    rw [hR10]
    exact ⟨(!y14), rfl, (hk.c 1 rfl (hk.c 12 rfl hk.k)), (hs.pick [(1, 1)] rfl)⟩
  ·intro a w hR0
   rw [hR10] at hR0
   obtain ⟨u6, rfl, hk, hs⟩ := hR0
   have H := HL9
   try dsimp only at H
   refine hK4 _ _ ?_
   rcases cond_some H with ⟨c16, H⟩ | ⟨c16, H⟩
   ·have hk := hk.lit 12 c16 rfl
    refine cnd_true hk rfl rfl ?_
    apply wp_seq_k; intro K17 hK17
    apply wp_region_lit
    refine sa _ rfl hk rfl rfl rfl fun a hk => ?_
    show wpList _ _ _ [] _ _
    refine wpList_nil ?_
    refine hK17 _ _ ?_
    refine wp_ret ?_
    obtain rfl := Option.some.inj H
    exact fin hk _ [(.bool false)] rfl ⟨rfl, trivial⟩ ⟨rfl, (hs.pick [] rfl).dnil⟩
   ·have hk := hk.lit 12 c16 rfl
    refine cnd_false hk rfl rfl ?_
    refine wp_skip ?_
    refine hK3 _ _ ?_
    apply wp_seq_k; intro K18 hK18
    refine wp_block ?_
    apply wp_seq_k; intro K19 hK19
    apply wp_region_lit
    refine sf ⟨b2, 0, none⟩ rfl hk rfl rfl rfl fd33_0 rfl fun a hk => ?_
    refine sl rfl hk rfl rfl rfl ag3 (box_cell hs (k := 1) rfl rfl) fun a hk => ?_
    obtain ⟨y20, h21, H⟩ := bind_some H
    refine sc rfl en34 hk rfl rfl rfl (impl_isBare_t _ x0.Kind _ h21) ?_
    rintro _ w ⟨rfl, hG⟩ a hk
    have hs := hs.call0 hG
    refine sa _ rfl hk rfl rfl rfl fun a hk => ?_
    show wpList _ _ _ [] _ _
    refine wpList_nil ?_
    refine hK19 _ _ ?_
    have hs := hs.pick [(1, 1)] rfl
    rcases cond_some H with ⟨c22, H⟩ | ⟨c22, H⟩
    ·have hk := hk.lit 13 c22 rfl
     refine cnd_true hk rfl rfl ?_
     apply wp_seq_k; intro K23 hK23
     apply wp_region_lit
     refine sf ⟨b2, 2, none⟩ rfl hk rfl rfl rfl fd33_2 rfl fun a hk => ?_
     refine sl rfl hk rfl rfl rfl ag3 (box_cell hs (k := 1) rfl rfl) fun a hk => ?_
     refine sv (.bool (x0.Value == 0)) hk rfl rfl rfl fun a hk => ?_
     refine sa _ rfl hk rfl rfl rfl fun a hk => ?_
     show wpList _ _ _ [] _ _
     refine wpList_nil ?_
     refine hK23 _ _ ?_
     refine wp_ret ?_
     obtain rfl := Option.some.inj H
     exact fin hk _ [(.bool (x0.Value == 0))] rfl ⟨rfl, trivial⟩ ⟨rfl, (hs.pick [] rfl).dnil⟩
    ·have hk := hk.lit 13 c22 rfl
     refine cnd_false hk rfl rfl ?_
     apply wp_seq_k; intro K24 hK24
     apply wp_region_lit
     refine sf ⟨b2, 0, none⟩ rfl hk rfl rfl rfl fd33_0 rfl fun a hk => ?_
     refine sl rfl hk rfl rfl rfl ag3 (box_cell hs (k := 1) rfl rfl) fun a hk => ?_
     refine sv (.bool (x0.Kind == 6)) hk rfl rfl rfl fun a hk => ?_
     refine sa _ rfl hk rfl rfl rfl fun a hk => ?_
     show wpList _ _ _ [] _ _
     refine wpList_nil ?_
     refine hK24 _ _ ?_
     rcases cond_some H with ⟨c25, H⟩ | ⟨c25, H⟩
     ·have hk := hk.lit 20 c25 rfl
      refine cnd_true hk rfl rfl ?_
      apply wp_seq_k; intro K26 hK26
      apply wp_region_lit
      refine sf ⟨b2, 2, none⟩ rfl hk rfl rfl rfl fd33_2 rfl fun a hk => ?_
      refine sl rfl hk rfl rfl rfl ag3 (box_cell hs (k := 1) rfl rfl) fun a hk => ?_
      obtain ⟨y27, h28, H⟩ := bind_some H
      refine sc rfl en32 hk rfl rfl rfl (impl_within_t _ x0.Value 1 4 _ h28) ?_
      rintro _ w ⟨rfl, hG⟩ a hk
      have hs := hs.call0 hG
      refine sa _ rfl hk rfl rfl rfl fun a hk => ?_
      show wpList _ _ _ [] _ _
      refine wpList_nil ?_
      refine hK26 _ _ ?_
      refine wp_ret ?_
      obtain rfl := Option.some.inj H
      exact fin hk _ [(.bool y27)] rfl ⟨rfl, trivial⟩ ⟨rfl, (hs.pick [] rfl).dnil⟩
     ·have hk := hk.lit 20 c25 rfl
      refine cnd_false hk rfl rfl ?_
      refine wp_skip ?_
      refine hK18 _ _ ?_
      apply wp_seq_k; intro K29 hK29
      apply wp_region_lit
      refine sf ⟨b2, 2, none⟩ rfl hk rfl rfl rfl fd33_2 rfl fun a hk => ?_
      refine sl rfl hk rfl rfl rfl ag3 (box_cell hs (k := 1) rfl rfl) fun a hk => ?_
      obtain ⟨y30, h31, H⟩ := bind_some H
      refine sc rfl en35 hk rfl rfl rfl (impl_isValue_t _ x0.Value _ h31) ?_
      rintro _ w ⟨rfl, hG⟩ a hk
      have hs := hs.call0 hG
      refine sa _ rfl hk rfl rfl rfl fun a hk => ?_
      show wpList _ _ _ [] _ _
      refine wpList_nil ?_
      refine hK29 _ _ ?_
      refine wp_ret ?_
      obtain rfl := Option.some.inj H
      exact fin hk _ [(.bool y30)] rfl ⟨rfl, trivial⟩ ⟨rfl, (hs.pick [] rfl).dnil⟩

noncomputable def slices_IndexFunc_impl_Op_impl_Op.s0 (l0 : List S_Op) (q1 : S_Op → Option (Bool)) (u6 : Int) : Option ((Int) ⊕ Ex (Unit) (Int)) :=
  (bif (decide (u6 < (l0.length : Int))) then (if 0 ≤ u6 ∧ u6 < (l0.length : Int) then ((q1 (l0.getD u6.toNat z_Op)).bind fun y25 => (bif y25 then (some (.inr (.ret u6))) else (some (.inl (w64 (u6 + 1)))))) else none) else (some (.inr (.out ()))))
noncomputable def slices_IndexFunc_impl_Op_impl_Op.f (l0 : List S_Op) (q1 : S_Op → Option (Bool)) : Option (Int) :=
  ((loopO (fun s => slices_IndexFunc_impl_Op_impl_Op.s0 l0 q1 s) 0).bind fun o => match o with | .out _ => (some (-1)) | .ret r => (some r))
set_option maxRecDepth 100000 in
set_option maxHeartbeats 0 in
theorem slices_IndexFunc_impl_Op_impl_Op_t (w0 : World) (A0_ : Option Addr) (p0_ : Nat) (l0 : List S_Op) (k0_ : Chunk) (v0_ : View L_Op A0_ p0_ l0 k0_) (w0_ : Has w0 k0_) (f1_ : FuncId) (c1_ : List Value) (e1_ : Enters Tryz.prog f1_) (q1 : S_Op → Option (Bool)) (k1_ : Chunk) (t1_ : ∀ w, Has w k1_ → ∀ (z0 : S_Op) (r : Bool), q1 z0 = some r → Calls Tryz.prog f1_ (([.agg #[.int .i64 z0.Kind, .int .i64 z0.Key, .int .i64 z0.Value]] : List Value) ++ c1_).toArray w (Ret (fun v w2 => v = .bool r ∧ Sat [] w w2 [] []))) (w1_ : Has w0 k1_) (r : Int) (H : slices_IndexFunc_impl_Op_impl_Op.f l0 q1 = some r) :
    Calls Tryz.prog 93 #[.slice A0_ l0.length p0_, .func (.func f1_) #[] c1_.toArray] w0 (Ret (fun v w => v = .int .i64 r ∧ Sat [] w0 w [] [])) := by
  have hs : Sat [] w0 w0 [(1, k0_), (2, k1_)] [] := Sat.init w0 [(1, k0_), (2, k1_)] [] (by simp only [List.mem_cons, List.not_mem_nil, or_false]; rintro x (rfl | rfl) <;> assumption) (by simp) List.nodup_nil (by simp [blks])
  unfold slices_IndexFunc_impl_Op_impl_Op.f at H
  refine enter Tryz.func93 rfl Tryz.ntmps93 rfl fun a hk => ?_
  apply wp_seq_k; intro K1 hK1
  apply wp_region_lit
  refine sa _ rfl hk rfl rfl rfl fun a hk => ?_
  show wpList _ _ _ [] _ _
  refine wpList_nil ?_
  refine hK1 _ _ ?_
  apply wp_seq_k; intro K2 hK2
  apply wp_seq_k; intro K3 hK3
  apply wp_region_lit
  refine sm _ rfl hk rfl rfl rfl fun a hk => ?_
  refine sle rfl hk rfl rfl rfl un34 fun a hk => ?_
  refine sm _ rfl hk rfl rfl rfl fun a hk => ?_
  show wpList _ _ _ [] _ _
  refine wpList_nil ?_
  refine hK3 _ _ ?_
  obtain ⟨o7, h8, HL9⟩ := bind_some H
  clear H
  obtain ⟨R10, hR10⟩ : ∃ R : Act → World → Prop, R = fun a w => o7 = .out () ∧ Kn [] 19 a ∧ Sat [] w0 w [(1, k0_), (2, k1_)] [] := ⟨_, rfl⟩
  refine wp_cutq R10 ?_ ?_
  ·refine wp_block ?_
   obtain ⟨fu12, h8⟩ := loopO_some h8
   obtain ⟨I11, hI11⟩ : ∃ I : Nat → Act → World → Prop, I = fun fu a w => ∃ (u6 : Int), loopN (fun s => slices_IndexFunc_impl_Op_impl_Op.s0 l0 q1 s) fu u6 = some o7 ∧ Kn [(0, (.slice A0_ l0.length p0_)), (1, (.func (.func f1_) #[] c1_.toArray)), (7, (.int .i64 (l0.length : Int))), (8, (.int .i64 u6))] 19 a ∧ Sat [] w0 w [(1, k0_), (2, k1_)] [] := ⟨_, rfl⟩
   refine wp_loop_ghost I11 fu12 ?_ ?_
   ·rw [hI11]
    exact ⟨0, h8, (hk.c 0 rfl (hk.c 1 rfl (hk.c 7 rfl (hk.c 8 rfl hk.k)))), (hs.pick [] rfl)⟩
   ·clear h8 hk hs
    intro fu12 a w hI0
    rw [hI11] at hI0
    obtain ⟨u6, hi, hk, hs⟩ := hI0
    obtain ⟨x13, H, h14⟩ := loop_round hi
    try dsimp only at H
    unfold slices_IndexFunc_impl_Op_impl_Op.s0 at H
    apply wp_seq_k; intro K15 hK15
    apply wp_region_lit
    refine sv (.bool (decide (u6 < (l0.length : Int)))) hk rfl rfl rfl fun a hk => ?_
    show wpList _ _ _ [] _ _
    refine wpList_nil ?_
    refine hK15 _ _ ?_
    apply wp_seq_k; intro K16 hK16
    rcases cond_some H with ⟨c17, H⟩ | ⟨c17, H⟩
    ·have hk := hk.lit 9 c17 rfl
     refine cnd_true hk rfl rfl ?_
     refine wp_skip ?_
     refine hK16 _ _ ?_
     have hs := hs.pick [] rfl
     apply wp_seq_k; intro K18 hK18
     refine wp_block ?_
     apply wp_seq_k; intro K19 hK19
     apply wp_region_lit
     refine sm _ rfl hk rfl rfl rfl fun a hk => ?_
     refine sa _ rfl hk rfl rfl rfl fun a hk => ?_
     show wpList _ _ _ [] _ _
     refine wpList_nil ?_
     refine hK19 _ _ ?_
     apply wp_seq_k; intro K20 hK20
     apply wp_region_lit
     refine sm _ rfl hk rfl rfl rfl fun a hk => ?_
     refine sm _ rfl hk rfl rfl rfl fun a hk => ?_
     refine sm _ rfl hk rfl rfl rfl fun a hk => ?_
     rcases ite_some H with ⟨c21, H⟩ | ⟨_, H⟩
     rotate_left
     ·cases H
     obtain ⟨b22, q23, hAc21⟩ := (v0_).some_ u6 c21.1 c21.2
     refine si rfl hk rfl rfl rfl rfl un34 sz33 c21.1 c21.2 hAc21 fun a hk => ?_
     obtain ⟨_, rfl, e24⟩ := (v0_).at_ z_Op u6 c21.1 c21.2
     refine sln [.int .i64 ((l0.getD u6.toNat z_Op).Kind), .int .i64 ((l0.getD u6.toNat z_Op).Key), .int .i64 ((l0.getD u6.toNat z_Op).Value)] rfl hk rfl rfl rfl ag33 sz33 (cells_at e24 (hs.hasD (k := 1) rfl)) fun a hk => ?_
     obtain ⟨y25, h26, H⟩ := bind_some H
     refine scv (vs := ([(.agg #[.int .i64 ((l0.getD u6.toNat z_Op).Kind), .int .i64 ((l0.getD u6.toNat z_Op).Key), .int .i64 ((l0.getD u6.toNat z_Op).Value)])] : List Value) ++ c1_) rfl rfl e1_ hk rfl rfl rfl (t1_ _ (hs.hasD (k := 2) rfl) (l0.getD u6.toNat z_Op) _ h26) ?_
     rintro _ w ⟨rfl, hG⟩ a hk
     have hs := hs.call0 hG
     show wpList _ _ _ [] _ _
     refine wpList_nil ?_
     refine hK20 _ _ ?_
     rcases cond_some H with ⟨c27, H⟩ | ⟨c27, H⟩
     ·have hk := hk.lit 16 c27 rfl
      refine cnd_true hk rfl rfl ?_
      apply wp_seq_k; intro K28 hK28
      apply wp_region_lit
      refine sm _ rfl hk rfl rfl rfl fun a hk => ?_
      refine sa _ rfl hk rfl rfl rfl fun a hk => ?_
      show wpList _ _ _ [] _ _
      refine wpList_nil ?_
      refine hK28 _ _ ?_
      refine wp_ret ?_
      obtain rfl := Option.some.inj H
      have ho7 := h14
      try dsimp only at ho7
      subst ho7
      have H := HL9
      try dsimp only at H
      obtain rfl := Option.some.inj H
      exact fin hk _ [(.int .i64 u6)] rfl ⟨rfl, trivial⟩ ⟨rfl, (hs.pick [] rfl).dnil⟩
     ·have hk := hk.lit 16 c27 rfl
      refine cnd_false hk rfl rfl ?_
      refine wp_skip ?_
      refine hK18 _ _ ?_
      apply wp_region_lit
      refine sv (.int .i64 (w64 (u6 + 1))) hk rfl rfl rfl fun a hk => ?_
      refine sm _ rfl hk rfl rfl rfl fun a hk => ?_
      show wpList _ _ _ [] _ _
      refine wpList_nil ?_
      obtain rfl := Option.some.inj H
      obtain ⟨m29, hmm29, h14⟩ := h14
      show ∃ n', n' < _ ∧ I11 n' _ _
      refine ⟨m29, hmm29, ?_⟩
      rw [hI11]
      exact ⟨(w64 (u6 + 1)), h14, (hk.c 0 rfl (hk.c 1 rfl (hk.c 7 rfl (hk.c 8 rfl hk.k)))), (hs.pick [] rfl)⟩
    ·have hk := hk.lit 9 c17 rfl
     refine cnd_false hk rfl rfl ?_
     refine wp_exit ?_
     obtain rfl := Option.some.inj H
     show R10 _ _
     rw [hR10]
     exact ⟨h14.symm, hk.k, (hs.pick [] rfl)⟩
  ·intro a w hR0
   rw [hR10] at hR0
   obtain ⟨rfl, hk, hs⟩ := hR0
   have H := HL9
   try dsimp only at H
   refine hK2 _ _ ?_
   apply wp_seq_k; intro K30 hK30
   apply wp_region_lit
   refine sa _ rfl hk rfl rfl rfl fun a hk => ?_
   show wpList _ _ _ [] _ _
   refine wpList_nil ?_
   refine hK30 _ _ ?_
   have hs := hs.pick [] rfl
   refine wp_ret ?_
   obtain rfl := Option.some.inj H
   exact fin hk _ [(.int .i64 (-1))] rfl ⟨rfl, trivial⟩ ⟨rfl, (hs.pick [] rfl).dnil⟩

noncomputable def slices_ContainsFunc_impl_Op_impl_Op.f (l0 : List S_Op) (q1 : S_Op → Option (Bool)) : Option (Bool) :=
  ((slices_IndexFunc_impl_Op_impl_Op.f l0 q1).bind fun y3 => (some (decide (y3 ≥ 0))))
set_option maxRecDepth 100000 in
set_option maxHeartbeats 0 in
theorem slices_ContainsFunc_impl_Op_impl_Op_t (w0 : World) (A0_ : Option Addr) (p0_ : Nat) (l0 : List S_Op) (k0_ : Chunk) (v0_ : View L_Op A0_ p0_ l0 k0_) (w0_ : Has w0 k0_) (f1_ : FuncId) (c1_ : List Value) (e1_ : Enters Tryz.prog f1_) (q1 : S_Op → Option (Bool)) (k1_ : Chunk) (t1_ : ∀ w, Has w k1_ → ∀ (z0 : S_Op) (r : Bool), q1 z0 = some r → Calls Tryz.prog f1_ (([.agg #[.int .i64 z0.Kind, .int .i64 z0.Key, .int .i64 z0.Value]] : List Value) ++ c1_).toArray w (Ret (fun v w2 => v = .bool r ∧ Sat [] w w2 [] []))) (w1_ : Has w0 k1_) (r : Bool) (H : slices_ContainsFunc_impl_Op_impl_Op.f l0 q1 = some r) :
    Calls Tryz.prog 81 #[.slice A0_ l0.length p0_, .func (.func f1_) #[] c1_.toArray] w0 (Ret (fun v w => v = .bool r ∧ Sat [] w0 w [] [])) := by
  have hs : Sat [] w0 w0 [(1, k0_), (2, k1_)] [] := Sat.init w0 [(1, k0_), (2, k1_)] [] (by simp only [List.mem_cons, List.not_mem_nil, or_false]; rintro x (rfl | rfl) <;> assumption) (by simp) List.nodup_nil (by simp [blks])
  unfold slices_ContainsFunc_impl_Op_impl_Op.f at H
  refine enter Tryz.func81 rfl Tryz.ntmps81 rfl fun a hk => ?_
  apply wp_seq_k; intro K1 hK1
  apply wp_region_lit
  refine sa _ rfl hk rfl rfl rfl fun a hk => ?_
  show wpList _ _ _ [] _ _
  refine wpList_nil ?_
  refine hK1 _ _ ?_
  apply wp_seq_k; intro K2 hK2
  apply wp_region_lit
  refine sm _ rfl hk rfl rfl rfl fun a hk => ?_
  refine sm _ rfl hk rfl rfl rfl fun a hk => ?_
  obtain ⟨y3, h4, H⟩ := bind_some H
  refine sc rfl en93 hk rfl rfl rfl (slices_IndexFunc_impl_Op_impl_Op_t _ A0_ p0_ l0 _ v0_ (hs.hasD (k := 1) rfl) f1_ c1_ e1_ q1 k1_ t1_ (hs.hasD (k := 2) rfl) _ h4) ?_
  rintro _ w ⟨rfl, hG⟩ a hk
  have hs := hs.call0 hG
  refine sv (.bool (decide (y3 ≥ 0))) hk rfl rfl rfl fun a hk => ?_
  refine sa _ rfl hk rfl rfl rfl fun a hk => ?_
  show wpList _ _ _ [] _ _
  refine wpList_nil ?_
  refine hK2 _ _ ?_
  refine wp_ret ?_
  obtain rfl := Option.some.inj H
  exact fin hk _ [(.bool (decide (y3 ≥ 0)))] rfl ⟨rfl, trivial⟩ ⟨rfl, (hs.pick [] rfl).dnil⟩

noncomputable def impl_areAll_impl_Op__c1.f (x0 : S_Op) (q1 : S_Op → Option (Bool)) : Option (Bool) :=
  ((q1 x0).bind fun y4 => (some (!y4)))
set_option maxRecDepth 100000 in
set_option maxHeartbeats 0 in
theorem impl_areAll_impl_Op__c1_t (w0 : World) (x0 : S_Op) (b1_ : Nat) (f1_ : FuncId) (c1_ : List Value) (e1_ : Enters Tryz.prog f1_) (q1 : S_Op → Option (Bool)) (k1_ : Chunk) (t1_ : ∀ w, Has w k1_ → ∀ (z0 : S_Op) (r : Bool), q1 z0 = some r → Calls Tryz.prog f1_ (([.agg #[.int .i64 z0.Kind, .int .i64 z0.Key, .int .i64 z0.Value]] : List Value) ++ c1_).toArray w (Ret (fun v w2 => v = .bool r ∧ Sat [] w w2 [] []))) (w1_ : Has w0 k1_) (h1_ : Has w0 [(b1_, .cells #[.func (.func f1_) #[] c1_.toArray] 40 (0, 0))]) (r : Bool) (H : impl_areAll_impl_Op__c1.f x0 q1 = some r) :
    Calls Tryz.prog 82 #[.agg #[.int .i64 x0.Kind, .int .i64 x0.Key, .int .i64 x0.Value], .pointer (some ⟨b1_, 0, none⟩)] w0 (Ret (fun v w => v = .bool r ∧ Sat [] w0 w [] [])) := by
  have hs : Sat [] w0 w0 [(2, k1_), (1, [(b1_, .cells #[.func (.func f1_) #[] c1_.toArray] 40 (0, 0))])] [] := Sat.init w0 [(2, k1_), (1, [(b1_, .cells #[.func (.func f1_) #[] c1_.toArray] 40 (0, 0))])] [] (by simp only [List.mem_cons, List.not_mem_nil, or_false]; rintro x (rfl | rfl) <;> assumption) (by simp) List.nodup_nil (by simp [blks])
  unfold impl_areAll_impl_Op__c1.f at H
  refine enter Tryz.func82 rfl Tryz.ntmps82 rfl fun a hk => ?_
  apply wp_seq_k; intro K1 hK1
  apply wp_region_lit
  refine sbx 3 hs rfl hk rfl rfl rfl rfl fun b2 w a hk hs => ?_
  refine sa _ rfl hk rfl rfl rfl fun a hk => ?_
  show wpList _ _ _ [] _ _
  refine wpList_nil ?_
  refine hK1 _ _ ?_
  apply wp_seq_k; intro K3 hK3
  apply wp_region_lit
  refine sl rfl hk rfl rfl rfl ag40 (box_cellD hs (k := 1) rfl rfl) fun a hk => ?_
  refine sln [.int .i64 x0.Kind, .int .i64 x0.Key, .int .i64 x0.Value] rfl hk rfl rfl rfl ag33 sz33 (box_cells hs (k := 3) rfl) fun a hk => ?_
  obtain ⟨y4, h5, H⟩ := bind_some H
  refine scv (vs := ([(.agg #[.int .i64 x0.Kind, .int .i64 x0.Key, .int .i64 x0.Value])] : List Value) ++ c1_) rfl rfl e1_ hk rfl rfl rfl (t1_ _ (hs.hasD (k := 2) rfl) x0 _ h5) ?_
  rintro _ w ⟨rfl, hG⟩ a hk
  have hs := hs.call0 hG
  refine sv (.bool (!y4)) hk rfl rfl rfl fun a hk => ?_
  refine sa _ rfl hk rfl rfl rfl fun a hk => ?_
  show wpList _ _ _ [] _ _
  refine wpList_nil ?_
  refine hK3 _ _ ?_
  refine wp_ret ?_
  obtain rfl := Option.some.inj H
  exact fin hk _ [(.bool (!y4))] rfl ⟨rfl, trivial⟩ ⟨rfl, (hs.pick [] rfl).dnil⟩

noncomputable def impl_areAll_impl_Op.f (l0 : List S_Op) (q1 : S_Op → Option (Bool)) : Option (Bool) :=
  ((slices_ContainsFunc_impl_Op_impl_Op.f l0 (fun z0 => impl_areAll_impl_Op__c1.f z0 q1)).bind fun y4 => (some (!y4)))
set_option maxRecDepth 100000 in
set_option maxHeartbeats 0 in
theorem impl_areAll_impl_Op_t (w0 : World) (A0_ : Option Addr) (p0_ : Nat) (l0 : List S_Op) (k0_ : Chunk) (v0_ : View L_Op A0_ p0_ l0 k0_) (w0_ : Has w0 k0_) (f1_ : FuncId) (c1_ : List Value) (e1_ : Enters Tryz.prog f1_) (q1 : S_Op → Option (Bool)) (k1_ : Chunk) (t1_ : ∀ w, Has w k1_ → ∀ (z0 : S_Op) (r : Bool), q1 z0 = some r → Calls Tryz.prog f1_ (([.agg #[.int .i64 z0.Kind, .int .i64 z0.Key, .int .i64 z0.Value]] : List Value) ++ c1_).toArray w (Ret (fun v w2 => v = .bool r ∧ Sat [] w w2 [] []))) (w1_ : Has w0 k1_) (r : Bool) (H : impl_areAll_impl_Op.f l0 q1 = some r) :
    Calls Tryz.prog 61 #[.slice A0_ l0.length p0_, .func (.func f1_) #[] c1_.toArray] w0 (Ret (fun v w => v = .bool r ∧ Sat [] w0 w [] [])) := by
  have hs : Sat [] w0 w0 [(1, k0_), (2, k1_)] [] := Sat.init w0 [(1, k0_), (2, k1_)] [] (by simp only [List.mem_cons, List.not_mem_nil, or_false]; rintro x (rfl | rfl) <;> assumption) (by simp) List.nodup_nil (by simp [blks])
  unfold impl_areAll_impl_Op.f at H
  refine enter Tryz.func61 rfl Tryz.ntmps61 rfl fun a hk => ?_
  apply wp_seq_k; intro K1 hK1
  apply wp_region_lit
  refine sbx 3 hs rfl hk rfl rfl rfl rfl fun b2 w a hk hs => ?_
  refine sa _ rfl hk rfl rfl rfl fun a hk => ?_
  show wpList _ _ _ [] _ _
  refine wpList_nil ?_
  refine hK1 _ _ ?_
  apply wp_seq_k; intro K3 hK3
  apply wp_region_lit
  refine sm _ rfl hk rfl rfl rfl fun a hk => ?_
  refine smf (cs := [.pointer (some ⟨b2, 0, none⟩)]) rfl hk rfl rfl rfl fun a hk => ?_
  obtain ⟨y4, h5, H⟩ := bind_some H
  refine sc rfl en81 hk rfl rfl rfl (slices_ContainsFunc_impl_Op_impl_Op_t _ A0_ p0_ l0 _ v0_ (hs.hasD (k := 1) rfl) 82 [.pointer (some ⟨b2, 0, none⟩)] en82 (fun z0 => impl_areAll_impl_Op__c1.f z0 q1) ([(b2, .cells #[.func (.func f1_) #[] c1_.toArray] 40 (0, 0))] ++ k1_) (fun w hz z0 r h => impl_areAll_impl_Op__c1_t w z0 _ f1_ c1_ e1_ q1 k1_ t1_ (Has.right hz) (Has.left hz) r h) (Has.app (hs.hasG (k := 3) rfl) (hs.hasD (k := 2) rfl)) _ h5) ?_
  rintro _ w ⟨rfl, hG⟩ a hk
  have hs := hs.call0 hG
  refine sv (.bool (!y4)) hk rfl rfl rfl fun a hk => ?_
  refine sa _ rfl hk rfl rfl rfl fun a hk => ?_
  show wpList _ _ _ [] _ _
  refine wpList_nil ?_
  refine hK3 _ _ ?_
  refine wp_ret ?_
  obtain rfl := Option.some.inj H
  exact fin hk _ [(.bool (!y4))] rfl ⟨rfl, trivial⟩ ⟨rfl, (hs.pick [] rfl).dnil⟩

noncomputable def impl_isTxn.f (x0 : S_Txn) : Option (Bool) :=
  ((((impl_within.f (x0.Ops.length : Int) 1 4).bind fun y10 => (bif y10 then ((impl_areAll_impl_Op.f x0.Ops impl_OpOK.f).bind fun y13 => (some y13)) else (some false))) : Option (Bool)).bind fun u5 => (some u5))
set_option maxRecDepth 100000 in
set_option maxHeartbeats 0 in
theorem impl_isTxn_t (w0 : World) (x0 : S_Txn) (A0_0 : Option Addr) (p0_0 : Nat) (k0_0 : Chunk) (v0_0 : View L_Op A0_0 p0_0 x0.Ops k0_0) (w0_0 : Has w0 k0_0) (r : Bool) (H : impl_isTxn.f x0 = some r) :
    Calls Tryz.prog 37 #[.agg #[.slice A0_0 x0.Ops.length p0_0]] w0 (Ret (fun v w => v = .bool r ∧ Sat [] w0 w [] [])) := by
  have hs : Sat [] w0 w0 [(1, k0_0)] [] := Sat.init w0 [(1, k0_0)] [] (by simp only [List.mem_cons, List.not_mem_nil, or_false]; rintro x (rfl) <;> assumption) (by simp) List.nodup_nil (by simp [blks])
  unfold impl_isTxn.f at H
  refine enter Tryz.func37 rfl Tryz.ntmps37 rfl fun a hk => ?_
  apply wp_seq_k; intro K1 hK1
  apply wp_region_lit
  refine sbx 2 hs rfl hk rfl rfl rfl rfl fun b2 w a hk hs => ?_
  refine sa _ rfl hk rfl rfl rfl fun a hk => ?_
  show wpList _ _ _ [] _ _
  refine wpList_nil ?_
  refine hK1 _ _ ?_
  apply wp_seq_k; intro K3 hK3
  obtain ⟨o6, h7, HL8⟩ := bind_some H
  clear H
  obtain ⟨R9, hR9⟩ : ∃ R : Act → World → Prop, R = fun a w => ∃ (u5 : Bool), u5 = o6 ∧ Kn [(2, (.bool u5))] 12 a ∧ Sat [] w0 w [(1, k0_0)] [] := ⟨_, rfl⟩
  refine wp_cutq R9 ?_ ?_
  ·have H := h7
   apply wp_region_lit
   refine sf ⟨b2, 0, none⟩ rfl hk rfl rfl rfl fd36_0 rfl fun a hk => ?_
   refine sl rfl hk rfl rfl rfl ag34 (box_cell hs (k := 2) rfl rfl) fun a hk => ?_
   refine sle rfl hk rfl rfl rfl un34 fun a hk => ?_
   obtain ⟨y10, h11, H⟩ := bind_some H
   refine sc rfl en32 hk rfl rfl rfl (impl_within_t _ (x0.Ops.length : Int) 1 4 _ h11) ?_
   rintro _ w ⟨rfl, hG⟩ a hk
   have hs := hs.call0 hG
   refine sm _ rfl hk rfl rfl rfl fun a hk => ?_
   rcases cond_some H with ⟨c12, H⟩ | ⟨c12, H⟩
   ·have hk := hk.lit 7 c12 rfl
    refine sf ⟨b2, 0, none⟩ rfl hk rfl rfl rfl fd36_0 rfl fun a hk => ?_
    refine sl rfl hk rfl rfl rfl ag34 (box_cell hs (k := 2) rfl rfl) fun a hk => ?_
    obtain ⟨y13, h14, H⟩ := bind_some H
    refine sc rfl en61 hk rfl rfl rfl (impl_areAll_impl_Op_t _ A0_0 p0_0 x0.Ops _ v0_0 (hs.hasD (k := 1) rfl) 16 [] en16 impl_OpOK.f [] (fun w _ z0 r h => impl_OpOK_t w z0 r h) (Has.nil _) _ h14) ?_
    rintro _ w ⟨rfl, hG⟩ a hk
    have hs := hs.call0 hG
    refine sv (.bool y13) hk rfl rfl rfl fun a hk => ?_
    refine sa _ rfl hk rfl rfl rfl fun a hk => ?_
    show wpList _ _ _ [] _ _
    refine wpList_nil ?_
    obtain rfl := Option.some.inj H
    show R9 _ _
    rw [hR9]
    exact ⟨y13, rfl, (hk.c 2 rfl hk.k), (hs.pick [] rfl)⟩
   ·have hk := hk.lit 7 c12 rfl
    refine sk hk rfl rfl rfl fun a hk => ?_
    refine sk hk rfl rfl rfl fun a hk => ?_
    refine sk hk rfl rfl rfl fun a hk => ?_
    refine sv (.bool false) hk rfl rfl rfl fun a hk => ?_
    refine sa _ rfl hk rfl rfl rfl fun a hk => ?_
    show wpList _ _ _ [] _ _
    refine wpList_nil ?_
    obtain rfl := Option.some.inj H
    show R9 _ _
    rw [hR9]
    exact ⟨false, rfl, (hk.c 2 rfl hk.k), (hs.pick [] rfl)⟩
  ·intro a w hR0
   rw [hR9] at hR0
   obtain ⟨u5, rfl, hk, hs⟩ := hR0
   have H := HL8
   try dsimp only at H
   refine hK3 _ _ ?_
   refine wp_ret ?_
   obtain rfl := Option.some.inj H
   exact fin hk _ [(.bool u5)] rfl ⟨rfl, trivial⟩ ⟨rfl, (hs.pick [] rfl).dnil⟩

noncomputable def impl_BatchOK.f (l0 : List S_Txn) : Option (Bool) :=
  ((((impl_within.f (l0.length : Int) 1 2).bind fun y9 => (bif y9 then ((impl_areAll_impl_Txn.f l0 impl_isTxn.f).bind fun y12 => (some y12)) else (some false))) : Option (Bool)).bind fun u4 => (some u4))
set_option maxRecDepth 100000 in
set_option maxHeartbeats 0 in
theorem impl_BatchOK_t (w0 : World) (A0_ : Option Addr) (p0_ : Nat) (l0 : List S_Txn) (k0_ : Chunk) (v0_ : View L_impl_Txn A0_ p0_ l0 k0_) (w0_ : Has w0 k0_) (r : Bool) (H : impl_BatchOK.f l0 = some r) :
    Calls Tryz.prog 17 #[.slice A0_ l0.length p0_] w0 (Ret (fun v w => v = .bool r ∧ Sat [] w0 w [] [])) := by
  have hs : Sat [] w0 w0 [(1, k0_)] [] := Sat.init w0 [(1, k0_)] [] (by simp only [List.mem_cons, List.not_mem_nil, or_false]; rintro x (rfl) <;> assumption) (by simp) List.nodup_nil (by simp [blks])
  unfold impl_BatchOK.f at H
  refine enter Tryz.func17 rfl Tryz.ntmps17 rfl fun a hk => ?_
  apply wp_seq_k; intro K1 hK1
  apply wp_region_lit
  refine sa _ rfl hk rfl rfl rfl fun a hk => ?_
  show wpList _ _ _ [] _ _
  refine wpList_nil ?_
  refine hK1 _ _ ?_
  apply wp_seq_k; intro K2 hK2
  obtain ⟨o5, h6, HL7⟩ := bind_some H
  clear H
  obtain ⟨R8, hR8⟩ : ∃ R : Act → World → Prop, R = fun a w => ∃ (u4 : Bool), u4 = o5 ∧ Kn [(2, (.bool u4))] 10 a ∧ Sat [] w0 w [(1, k0_)] [] := ⟨_, rfl⟩
  refine wp_cutq R8 ?_ ?_
  ·have H := h6
   apply wp_region_lit
   refine sm _ rfl hk rfl rfl rfl fun a hk => ?_
   refine sle rfl hk rfl rfl rfl un22 fun a hk => ?_
   obtain ⟨y9, h10, H⟩ := bind_some H
   refine sc rfl en32 hk rfl rfl rfl (impl_within_t _ (l0.length : Int) 1 2 _ h10) ?_
   rintro _ w ⟨rfl, hG⟩ a hk
   have hs := hs.call0 hG
   refine sm _ rfl hk rfl rfl rfl fun a hk => ?_
   rcases cond_some H with ⟨c11, H⟩ | ⟨c11, H⟩
   ·have hk := hk.lit 6 c11 rfl
    refine sm _ rfl hk rfl rfl rfl fun a hk => ?_
    obtain ⟨y12, h13, H⟩ := bind_some H
    refine sc rfl en36 hk rfl rfl rfl (impl_areAll_impl_Txn_t _ A0_ p0_ l0 _ v0_ (hs.hasD (k := 1) rfl) 37 [] en37 impl_isTxn.f [] (fun w _ z0 z0A0 z0p0 z0k0 z0v0 z0w0 r h => impl_isTxn_t w z0 z0A0 z0p0 z0k0 z0v0 z0w0 r h) (Has.nil _) _ h13) ?_
    rintro _ w ⟨rfl, hG⟩ a hk
    have hs := hs.call0 hG
    refine sv (.bool y12) hk rfl rfl rfl fun a hk => ?_
    refine sa _ rfl hk rfl rfl rfl fun a hk => ?_
    show wpList _ _ _ [] _ _
    refine wpList_nil ?_
    obtain rfl := Option.some.inj H
    show R8 _ _
    rw [hR8]
    exact ⟨y12, rfl, (hk.c 2 rfl hk.k), (hs.pick [] rfl)⟩
   ·have hk := hk.lit 6 c11 rfl
    refine sk hk rfl rfl rfl fun a hk => ?_
    refine sk hk rfl rfl rfl fun a hk => ?_
    refine sv (.bool false) hk rfl rfl rfl fun a hk => ?_
    refine sa _ rfl hk rfl rfl rfl fun a hk => ?_
    show wpList _ _ _ [] _ _
    refine wpList_nil ?_
    obtain rfl := Option.some.inj H
    show R8 _ _
    rw [hR8]
    exact ⟨false, rfl, (hk.c 2 rfl hk.k), (hs.pick [] rfl)⟩
  ·intro a w hR0
   rw [hR8] at hR0
   obtain ⟨u4, rfl, hk, hs⟩ := hR0
   have H := HL7
   try dsimp only at H
   refine hK2 _ _ ?_
   refine wp_ret ?_
   obtain rfl := Option.some.inj H
   exact fin hk _ [(.bool u4)] rfl ⟨rfl, trivial⟩ ⟨rfl, (hs.pick [] rfl).dnil⟩

noncomputable def impl_opWords.f  : Option ((List ByteArray)) :=
  (some ([(⟨#[]⟩ : ByteArray), (⟨#[103, 101, 116]⟩ : ByteArray), (⟨#[112, 117, 116]⟩ : ByteArray), (⟨#[100, 114, 111, 112]⟩ : ByteArray), (⟨#[99, 104, 101, 99, 107]⟩ : ByteArray), (⟨#[97, 100, 100]⟩ : ByteArray), (⟨#[115, 99, 97, 110]⟩ : ByteArray)]))
set_option maxRecDepth 100000 in
set_option maxHeartbeats 0 in
theorem impl_opWords_t (w0 : World)  (r : (List ByteArray)) (H : impl_opWords.f  = some r) :
    Calls Tryz.prog 51 #[] w0 (Ret (fun v w => ∃ (A0 : Option Addr) (p0 : Nat) (k0 : Chunk), v = .slice A0 r.length p0 ∧ Own Lay.str 9 A0 p0 r k0 ∧ Sat [] w0 w [] [(0, k0)])) := by
  have hs : Sat [] w0 w0 [] [] := Sat.init w0 [] [] (by simp) (by simp) List.nodup_nil (by simp [blks])
  unfold impl_opWords.f at H
  refine enter Tryz.func51 rfl Tryz.ntmps51 rfl fun a hk => ?_
  apply wp_seq_k; intro K1 hK1
  apply wp_region_lit
  refine sa _ rfl hk rfl rfl rfl fun a hk => ?_
  show wpList _ _ _ [] _ _
  refine wpList_nil ?_
  refine hK1 _ _ ?_
  apply wp_seq_k; intro K2 hK2
  apply wp_region_lit
  refine sbs (L := Lay.str) (pv := [(0, (.string (⟨#[]⟩ : ByteArray))), (1, (.string (⟨#[103, 101, 116]⟩ : ByteArray))), (2, (.string (⟨#[112, 117, 116]⟩ : ByteArray))), (3, (.string (⟨#[100, 114, 111, 112]⟩ : ByteArray))), (4, (.string (⟨#[99, 104, 101, 99, 107]⟩ : ByteArray))), (5, (.string (⟨#[97, 100, 100]⟩ : ByteArray))), (6, (.string (⟨#[115, 99, 97, 110]⟩ : ByteArray)))]) (xs := [(⟨#[]⟩ : ByteArray), (⟨#[103, 101, 116]⟩ : ByteArray), (⟨#[112, 117, 116]⟩ : ByteArray), (⟨#[100, 114, 111, 112]⟩ : ByteArray), (⟨#[99, 104, 101, 99, 107]⟩ : ByteArray), (⟨#[97, 100, 100]⟩ : ByteArray), (⟨#[115, 99, 97, 110]⟩ : ByteArray)]) (ess := [[.string (⟨#[]⟩ : ByteArray)], [.string (⟨#[103, 101, 116]⟩ : ByteArray)], [.string (⟨#[112, 117, 116]⟩ : ByteArray)], [.string (⟨#[100, 114, 111, 112]⟩ : ByteArray)], [.string (⟨#[99, 104, 101, 99, 107]⟩ : ByteArray)], [.string (⟨#[97, 100, 100]⟩ : ByteArray)], [.string (⟨#[115, 99, 97, 110]⟩ : ByteArray)]]) 1 hs rfl hk rfl rfl rfl un59 (bs9_0 (⟨#[]⟩ : ByteArray) (⟨#[103, 101, 116]⟩ : ByteArray) (⟨#[112, 117, 116]⟩ : ByteArray) (⟨#[100, 114, 111, 112]⟩ : ByteArray) (⟨#[99, 104, 101, 99, 107]⟩ : ByteArray) (⟨#[97, 100, 100]⟩ : ByteArray) (⟨#[115, 99, 97, 110]⟩ : ByteArray)) (AllOwn.cons0 ⟨rfl, rfl⟩ (AllOwn.cons0 ⟨rfl, rfl⟩ (AllOwn.cons0 ⟨rfl, rfl⟩ (AllOwn.cons0 ⟨rfl, rfl⟩ (AllOwn.cons0 ⟨rfl, rfl⟩ (AllOwn.cons0 ⟨rfl, rfl⟩ (AllOwn.cons0 ⟨rfl, rfl⟩ AllOwn.nil))))))) rfl rfl rfl fun b3 k4 w a hk o5 hs => ?_
  refine sa _ rfl hk rfl rfl rfl fun a hk => ?_
  show wpList _ _ _ [] _ _
  refine wpList_nil ?_
  refine hK2 _ _ ?_
  refine wp_ret ?_
  obtain rfl := Option.some.inj H
  exact fin hk _ [(.slice (some ⟨b3, 0, none⟩) 7 7)] rfl ⟨rfl, trivial⟩ ⟨(some ⟨b3, 0, none⟩), 7, _, rfl, o5, (hs.pick [(0, 1)] rfl).dnil⟩

def split_ren : Go.Shelf.Ren := ⟨fun | 146 => 42 | 221 => 69 | 268 => 85 | 138 => 86 | 143 => 87 | 195 => 94 | 197 => 95 | 218 => 96 | 219 => 97 | 260 => 107 | 217 => 108 | 225 => 109 | 224 => 110 | 267 => 111 | 266 => 123 | 314 => 124 | n => n, fun | 9 => 9 | 31 => 59 | 3 => 3 | 4 => 4 | 0 => 0 | 105 => 103 | 21 => 21 | 5 => 5 | 46 => 116 | 119 => 128 | 139 => 131 | 138 => 130 | 146 => 132 | 51 => 118 | n => n, fun | 1 => 0 | 3 => 2 | 4 => 3 | n => n⟩
theorem split_lays : Go.Proofs.Lays.n146 Tryz.prog split_ren := {
  mixed := by kernel_rfl
  f138 := Tryz.func86.trans (congrArg some (by kernel_rfl))
  f143 := Tryz.func87.trans (congrArg some (by kernel_rfl))
  f146 := Tryz.func42.trans (congrArg some (by kernel_rfl))
  f195 := Tryz.func94.trans (congrArg some (by kernel_rfl))
  f197 := Tryz.func95.trans (congrArg some (by kernel_rfl))
  f217 := Tryz.func108.trans (congrArg some (by kernel_rfl))
  f218 := Tryz.func96.trans (congrArg some (by kernel_rfl))
  f219 := Tryz.func97.trans (congrArg some (by kernel_rfl))
  f221 := Tryz.func69.trans (congrArg some (by kernel_rfl))
  f224 := Tryz.func110.trans (congrArg some (by kernel_rfl))
  f225 := Tryz.func109.trans (congrArg some (by kernel_rfl))
  f260 := Tryz.func107.trans (congrArg some (by kernel_rfl))
  f266 := Tryz.func123.trans (congrArg some (by kernel_rfl))
  f267 := Tryz.func111.trans (congrArg some (by kernel_rfl))
  f268 := Tryz.func85.trans (congrArg some (by kernel_rfl))
  f314 := Tryz.func124.trans (congrArg some (by kernel_rfl))
  t0 := Tryz.underlying0
  a0 := Tryz.isAgg0
  z0 := Tryz.sizeOf0
  v0 := Tryz.zeroValue0
  t3 := Tryz.underlying3
  a3 := Tryz.isAgg3
  z3 := Tryz.sizeOf3
  v3 := Tryz.zeroValue3
  t4 := Tryz.underlying4
  a4 := Tryz.isAgg4
  z4 := Tryz.sizeOf4
  v4 := Tryz.zeroValue4
  t5 := Tryz.underlying5
  a5 := Tryz.isAgg5
  z5 := Tryz.sizeOf5
  v5 := Tryz.zeroValue5
  t9 := Tryz.underlying9
  a9 := Tryz.isAgg9
  z9 := Tryz.sizeOf9
  v9 := Tryz.zeroValue9
  t21 := Tryz.underlying21
  a21 := Tryz.isAgg21
  z21 := Tryz.sizeOf21
  v21 := Tryz.zeroValue21
  t31 := Tryz.underlying59
  a31 := Tryz.isAgg59
  z31 := Tryz.sizeOf59
  v31 := Tryz.zeroValue59
  t46 := Tryz.underlying116
  a46 := Tryz.isAgg116
  z46 := Tryz.sizeOf116
  v46 := Tryz.zeroValue116
  t51 := Tryz.underlying118
  a51 := Tryz.isAgg118
  z51 := Tryz.sizeOf118
  v51 := Tryz.zeroValue118
  t105 := Tryz.underlying103
  a105 := Tryz.isAgg103
  z105 := Tryz.sizeOf103
  v105 := Tryz.zeroValue103
  t119 := Tryz.underlying128
  a119 := Tryz.isAgg128
  z119 := Tryz.sizeOf128
  t138 := Tryz.underlying130
  a138 := Tryz.isAgg130
  z138 := Tryz.sizeOf130
  v138 := Tryz.zeroValue130
  t139 := Tryz.underlying131
  a139 := Tryz.isAgg131
  z139 := Tryz.sizeOf131
  v139 := Tryz.zeroValue131
  t146 := Tryz.underlying132
  a146 := Tryz.isAgg132
  z146 := Tryz.sizeOf132
  v146 := Tryz.zeroValue132
  g1 := by kernel_rfl
  g3 := by kernel_rfl
  g4 := by kernel_rfl }
open Go.RowKit Go.Lib in
theorem split_shelf (s sep : ByteArray) (m : Int) (w : World) (hs : s.size < 4294967281) (hm : w.cell? ⟨0, 0, none⟩ = some (.int .i64 m)) (h1 : 1 ≤ sep.size) :
    Calls Tryz.prog 42 #[.string s, .string sep] w fun e w' =>
      e = .returned (.slice (some ⟨w.heap.size, 0, none⟩) (Lib.countB s sep + 1) (Lib.countB s sep + 1)) ∧ w' = w.alloc (.cells ((Lib.splitB sep 0 (Lib.countB s sep) s).map Value.string).toArray 9) := Any.strings_Split split_lays (by kernel_rfl) s sep m w hs hm h1
noncomputable def strings_Split.f (x0 x1 : ByteArray) : Option (List ByteArray) := if x0.size < 4294967281 ∧ 1 ≤ x1.size then some (Lib.splitB x1 0 (Lib.countB x0 x1) x0) else none
theorem gMaxLen : Tryz.prog.globalNamed "internal/bytealg.MaxLen" = some 0 := by kernel_rfl
theorem strings_Split_t (w0 : World) (x0 x1 : ByteArray) (kT : Chunk) (tT : TabR Tryz.prog kT) (wT : Has w0 kT) (r : List ByteArray) (H : strings_Split.f x0 x1 = some r) :
    Calls Tryz.prog 42 #[.string x0, .string x1] w0 (Ret (fun v w => ∃ (A0 : Option Addr) (p0 : Nat) (k0 : Chunk), v = .slice A0 r.length p0 ∧ Own Lay.str 9 A0 p0 r k0 ∧ Sat [] w0 w [] [(0, k0)])) := by
  unfold strings_Split.f at H
  rcases ite_some H with ⟨⟨h1, h2⟩, H⟩ | ⟨_, H⟩
  rotate_left
  · cases H
  obtain rfl := Option.some.inj H
  obtain ⟨v, hv, m, hm0⟩ := tT.mx w0 wT
  have hm : w0.cell? ⟨0, 0, none⟩ = some (.int .i64 m) := (World.var?_cell gMaxLen hv 0).trans hm0
  have hl := Lib.splitB_all x1 h2 0 (Lib.countB x0 x1) x0 rfl
  have hc := Lib.countB_le x1 h2 x0.size x0 (Nat.le_refl _)
  refine (split_shelf x0 x1 m w0 h1 hm h2).mono ?_
  rintro e w' ⟨rfl, rfl⟩
  rw [← hl]
  exact ⟨_, rfl, _, _, _, rfl, own_strs _ (by rw [hl]; have : maxLen = 9223372036854775807 := rfl; omega), (F.refl w0 : Sat [] w0 w0 [] []).alloc 0 _⟩

noncomputable def slices_DeleteFunc_string_string.s0 (l0 : List ByteArray) (q1 : ByteArray → Option (Bool)) (u13 : List ByteArray) (u17 : Int) (u18 : Int) : Option (((List ByteArray) × Int × Int) ⊕ Ex ((List ByteArray) × Int) ((List ByteArray))) :=
  (bif (decide (u18 < (l0.length : Int))) then (if 0 ≤ u18 ∧ u18 < (l0.length : Int) then ((q1 (u13.getD u18.toNat ByteArray.empty)).bind fun y42 => (((bif (!y42) then (if 0 ≤ u17 ∧ u17 < (l0.length : Int) then (some ((u13.set u17.toNat (u13.getD u18.toNat ByteArray.empty)), (w64 (u17 + 1)))) else none) else (some (u13, u17))) : Option ((List ByteArray) × Int)).bind fun o => match o with | (u45, u49) => (some (.inl (u45, u49, (w64 (u18 + 1))))))) else none) else (some (.inr (.out (u13, u17)))))
noncomputable def slices_DeleteFunc_string_string.f (l0 : List ByteArray) (q1 : ByteArray → Option (Bool)) : Option ((List ByteArray)) :=
  ((slices_IndexFunc_string_string.f l0 q1).bind fun y3 => (bif (y3 == (-1)) then (some l0) else ((loopO (fun s => slices_DeleteFunc_string_string.s0 l0 q1 s.1 s.2.1 s.2.2) (l0, y3, (w64 (y3 + 1)))).bind fun o => match o with | .out (u19, u23) => (if 0 ≤ u23 ∧ u23 ≤ (l0.length : Int) then (if 0 ≤ u23 ∧ u23 ≤ (l0.length : Int) then (some ((clrL u19 u23.toNat ByteArray.empty).take u23.toNat)) else none) else none) | .ret r => (some r))))
set_option maxRecDepth 100000 in
set_option maxHeartbeats 0 in
theorem slices_DeleteFunc_string_string_t (w0 : World) (A0_ : Option Addr) (p0_ : Nat) (l0 : List ByteArray) (k0_ : Chunk) (v0_ : Own Lay.str 9 A0_ p0_ l0 k0_) (f1_ : FuncId) (c1_ : List Value) (e1_ : Enters Tryz.prog f1_) (q1 : ByteArray → Option (Bool)) (k1_ : Chunk) (t1_ : ∀ w, Has w k1_ → ∀ (z0 : ByteArray) (r : Bool), q1 z0 = some r → Calls Tryz.prog f1_ (([.string z0] : List Value) ++ c1_).toArray w (Ret (fun v w2 => v = .bool r ∧ Sat [] w w2 [] []))) (w1_ : Has w0 k1_) (hs0 : Sat (blks [(1, k0_)]) w0 w0 [(2, k1_)] [(1, k0_)]) (r : (List ByteArray)) (H : slices_DeleteFunc_string_string.f l0 q1 = some r) :
    Calls Tryz.prog 77 #[.slice A0_ l0.length p0_, .func (.func f1_) #[] c1_.toArray] w0 (Ret (fun v w => ∃ (A0 : Option Addr) (p0 : Nat) (k0 : Chunk), v = .slice A0 r.length p0 ∧ Own Lay.str 9 A0 p0 r k0 ∧ Sat (blks [(1, k0_)]) w0 w [] [(0, k0)])) := by
  have hs := hs0
  unfold slices_DeleteFunc_string_string.f at H
  refine enter Tryz.func77 rfl Tryz.ntmps77 rfl fun a hk => ?_
  apply wp_seq_k; intro K1 hK1
  apply wp_region_lit
  refine sa _ rfl hk rfl rfl rfl fun a hk => ?_
  show wpList _ _ _ [] _ _
  refine wpList_nil ?_
  refine hK1 _ _ ?_
  apply wp_seq_k; intro K2 hK2
  apply wp_region_lit
  refine sm _ rfl hk rfl rfl rfl fun a hk => ?_
  refine sm _ rfl hk rfl rfl rfl fun a hk => ?_
  obtain ⟨y3, h4, H⟩ := bind_some H
  refine sc rfl en84 hk rfl rfl rfl (slices_IndexFunc_string_string_t _ A0_ p0_ l0 _ v0_.view (hs.hasG (k := 1) rfl) f1_ c1_ e1_ q1 k1_ t1_ (hs.hasD (k := 2) rfl) _ h4) ?_
  rintro _ w ⟨rfl, hG⟩ a hk
  have hs := hs.call0 hG
  refine sa _ rfl hk rfl rfl rfl fun a hk => ?_
  show wpList _ _ _ [] _ _
  refine wpList_nil ?_
  refine hK2 _ _ ?_
  apply wp_seq_k; intro K5 hK5
  apply wp_seq_k; intro K6 hK6
  apply wp_region_lit
  refine sm _ rfl hk rfl rfl rfl fun a hk => ?_
  refine sv (.bool (y3 == (-1))) hk rfl rfl rfl fun a hk => ?_
  show wpList _ _ _ [] _ _
  refine wpList_nil ?_
  refine hK6 _ _ ?_
  rcases cond_some H with ⟨c7, H⟩ | ⟨c7, H⟩
  ·have hk := hk.lit 12 c7 rfl
   refine cnd_true hk rfl rfl ?_
   apply wp_seq_k; intro K8 hK8
   apply wp_region_lit
   refine sm _ rfl hk rfl rfl rfl fun a hk => ?_
   refine sa _ rfl hk rfl rfl rfl fun a hk => ?_
   show wpList _ _ _ [] _ _
   refine wpList_nil ?_
   refine hK8 _ _ ?_
   have hs := hs.pick [(1, 1)] rfl
   refine wp_ret ?_
   obtain rfl := Option.some.inj H
   exact fin hk _ [(.slice A0_ l0.length p0_)] rfl ⟨rfl, trivial⟩ ⟨A0_, p0_, _, rfl, v0_, (hs.pick [(0, 1)] rfl).dnil⟩
  ·have hk := hk.lit 12 c7 rfl
   refine cnd_false hk rfl rfl ?_
   refine wp_skip ?_
   refine hK5 _ _ ?_
   have hs := hs.pick [(1, 1)] rfl
   apply wp_seq_k; intro K9 hK9
   apply wp_seq_k; intro K10 hK10
   apply wp_region_lit
   refine sm _ rfl hk rfl rfl rfl fun a hk => ?_
   refine sv (.int .i64 (w64 (y3 + 1))) hk rfl rfl rfl fun a hk => ?_
   refine sa _ rfl hk rfl rfl rfl fun a hk => ?_
   show wpList _ _ _ [] _ _
   refine wpList_nil ?_
   refine hK10 _ _ ?_
   obtain ⟨o24, h25, HL26⟩ := bind_some H
   clear H
   obtain ⟨R27, hR27⟩ : ∃ R : Act → World → Prop, R = fun a w => ∃ (u19 : List ByteArray) (u23 : Int) (k20 : Chunk), o24 = .out (u19, u23) ∧ Kn [(0, (.slice A0_ l0.length p0_)), (5, (.int .i64 u23))] 42 a ∧ Sat (blks [(1, k0_)]) w0 w [(2, k1_)] [(1, k20)] ∧ Own Lay.str 9 A0_ p0_ u19 k20 ∧ u19.length = l0.length := ⟨_, rfl⟩
   refine wp_cutq R27 ?_ ?_
   ·refine wp_block ?_
    obtain ⟨fu29, h25⟩ := loopO_some h25
    obtain ⟨I28, hI28⟩ : ∃ I : Nat → Act → World → Prop, I = fun fu a w => ∃ (u13 : List ByteArray) (u17 : Int) (u18 : Int) (k14 : Chunk), loopN (fun s => slices_DeleteFunc_string_string.s0 l0 q1 s.1 s.2.1 s.2.2) fu (u13, u17, u18) = some o24 ∧ Kn [(0, (.slice A0_ l0.length p0_)), (1, (.func (.func f1_) #[] c1_.toArray)), (5, (.int .i64 u17)), (6, (.int .i64 u18))] 42 a ∧ Sat (blks [(1, k0_)]) w0 w [(2, k1_)] [(1, k14)] ∧ Own Lay.str 9 A0_ p0_ u13 k14 ∧ u13.length = l0.length := ⟨_, rfl⟩
    refine wp_loop_ghost I28 fu29 ?_ ?_
    ·rw [hI28]
     exact ⟨l0, y3, (w64 (y3 + 1)), _, h25, (hk.c 0 rfl (hk.c 1 rfl (hk.c 5 rfl (hk.c 6 rfl hk.k)))), (hs.pick [(1, 1)] rfl), v0_, rfl⟩
    ·clear h25 hk hs
     intro fu29 a w hI0
     rw [hI28] at hI0
     obtain ⟨u13, u17, u18, k14, hi, hk, hs, o15, lh16⟩ := hI0
     obtain ⟨x30, H, h31⟩ := loop_round hi
     try dsimp only at H
     unfold slices_DeleteFunc_string_string.s0 at H
     apply wp_seq_k; intro K32 hK32
     apply wp_seq_k; intro K33 hK33
     apply wp_region_lit
     refine sm _ rfl hk rfl rfl rfl fun a hk => ?_
     refine sm _ rfl hk rfl rfl rfl fun a hk => ?_
     refine sle rfl hk rfl rfl rfl un59 fun a hk => ?_
     refine sv (.bool (decide (u18 < (l0.length : Int)))) hk rfl rfl rfl fun a hk => ?_
     show wpList _ _ _ [] _ _
     refine wpList_nil ?_
     refine hK33 _ _ ?_
     rcases cond_some H with ⟨c34, H⟩ | ⟨c34, H⟩
     ·have hk := hk.lit 19 c34 rfl
      refine cnd_true hk rfl rfl ?_
      refine wp_skip ?_
      refine hK32 _ _ ?_
      apply wp_seq_k; intro K35 hK35
      refine wp_block ?_
      apply wp_seq_k; intro K36 hK36
      apply wp_region_lit
      refine sm _ rfl hk rfl rfl rfl fun a hk => ?_
      refine sm _ rfl hk rfl rfl rfl fun a hk => ?_
      rcases ite_some H with ⟨c37, H⟩ | ⟨_, H⟩
      rotate_left
      ·cases H
      obtain ⟨b38, q39, hAc37⟩ := (o15.view).some_ u18 c37.1 (by rw [lh16]; exact c37.2)
      refine si rfl hk rfl rfl rfl rfl un59 sz9 c37.1 c37.2 hAc37 fun a hk => ?_
      obtain ⟨_, rfl, e40⟩ := (o15.view).at_ ByteArray.empty u18 c37.1 (by rw [lh16]; exact c37.2)
      refine sl (v := (.string (u13.getD u18.toNat ByteArray.empty))) rfl hk rfl rfl rfl ag9 ((e40 0 _ rfl).cell (hs.hasG (k := 1) rfl)) fun a hk => ?_
      refine sa _ rfl hk rfl rfl rfl fun a hk => ?_
      show wpList _ _ _ [] _ _
      refine wpList_nil ?_
      refine hK36 _ _ ?_
      have hs := hs.pick [(1, 1)] rfl
      apply wp_seq_k; intro K41 hK41
      apply wp_region_lit
      refine sm _ rfl hk rfl rfl rfl fun a hk => ?_
      refine sm _ rfl hk rfl rfl rfl fun a hk => ?_
      obtain ⟨y42, h43, H⟩ := bind_some H
      refine scv (vs := ([(.string (u13.getD u18.toNat ByteArray.empty))] : List Value) ++ c1_) rfl rfl e1_ hk rfl rfl rfl (t1_ _ (hs.hasD (k := 2) rfl) (u13.getD u18.toNat ByteArray.empty) _ h43) ?_
      rintro _ w ⟨rfl, hG⟩ a hk
      have hs := hs.call0 hG
      refine sv (.bool (!y42)) hk rfl rfl rfl fun a hk => ?_
      show wpList _ _ _ [] _ _
      refine wpList_nil ?_
      refine hK41 _ _ ?_
      obtain ⟨o50, h51, HL52⟩ := bind_some H
      clear H
      obtain ⟨R53, hR53⟩ : ∃ R : Act → World → Prop, R = fun a w => ∃ (u45 : List ByteArray) (u49 : Int) (k46 : Chunk), (u45, u49) = o50 ∧ Kn [(0, (.slice A0_ l0.length p0_)), (1, (.func (.func f1_) #[] c1_.toArray)), (5, (.int .i64 u49)), (6, (.int .i64 u18))] 42 a ∧ Sat (blks [(1, k0_)]) w0 w [(2, k1_)] [(1, k46)] ∧ Own Lay.str 9 A0_ p0_ u45 k46 ∧ u45.length = l0.length := ⟨_, rfl⟩
      refine wp_cutq R53 ?_ ?_
      ·have H := h51
       rcases cond_some H with ⟨c54, H⟩ | ⟨c54, H⟩
       ·have hk := hk.lit 29 c54 rfl
        refine cnd_true hk rfl rfl ?_
        apply wp_seq_k; intro K55 hK55
        apply wp_region_lit
        refine sm _ rfl hk rfl rfl rfl fun a hk => ?_
        refine sm _ rfl hk rfl rfl rfl fun a hk => ?_
        refine sm _ rfl hk rfl rfl rfl fun a hk => ?_
        rcases ite_some H with ⟨c56, H⟩ | ⟨_, H⟩
        rotate_left
        ·cases H
        obtain ⟨b57, q58, hAc56⟩ := (o15.view).some_ u17 c56.1 (by rw [lh16]; exact c56.2)
        refine si rfl hk rfl rfl rfl rfl un59 sz9 c56.1 c56.2 hAc56 fun a hk => ?_
        refine so (j := 0) 1 ByteArray.empty (u13.getD u18.toNat ByteArray.empty) hs rfl o15 c56.1 (by rw [lh16]; exact c56.2) rfl hk rfl rfl rfl rfl rfl sz9 (by simp [Value.cells, Value.oneCell']) (Nat.le_of_ble_eq_true rfl) (fun _ _ h => ⟨by rw [h.1]; rfl, h.2⟩) fun k59 w a hk o60 hs => ?_
        have lh61 : (u13.set u17.toNat (u13.getD u18.toNat ByteArray.empty)).length = l0.length := by rw [List.length_set]; exact lh16
        show wpList _ _ _ [] _ _
        refine wpList_nil ?_
        refine hK55 _ _ ?_
        apply wp_region_lit
        refine sm _ rfl hk rfl rfl rfl fun a hk => ?_
        refine sv (.int .i64 (w64 (u17 + 1))) hk rfl rfl rfl fun a hk => ?_
        refine sa _ rfl hk rfl rfl rfl fun a hk => ?_
        show wpList _ _ _ [] _ _
        refine wpList_nil ?_
        obtain rfl := Option.some.inj H
        show R53 _ _
        rw [hR53]
        exact ⟨(u13.set u17.toNat (u13.getD u18.toNat ByteArray.empty)), (w64 (u17 + 1)), _, rfl, (hk.c 0 rfl (hk.c 1 rfl (hk.c 5 rfl (hk.c 6 rfl hk.k)))), (hs.pick [(1, 1)] rfl), o60, lh61⟩
       ·have hk := hk.lit 29 c54 rfl
        refine cnd_false hk rfl rfl ?_
        refine wp_skip ?_
        obtain rfl := Option.some.inj H
        show R53 _ _
        rw [hR53]
        exact ⟨u13, u17, _, rfl, (hk.c 0 rfl (hk.c 1 rfl (hk.c 5 rfl (hk.c 6 rfl hk.k)))), (hs.pick [(1, 1)] rfl), o15, lh16⟩
      ·intro a w hR0
       rw [hR53] at hR0
       obtain ⟨u45, u49, k46, rfl, hk, hs, o47, lh48⟩ := hR0
       have H := HL52
       try dsimp only at H
       refine hK35 _ _ ?_
       apply wp_region_lit
       refine sm _ rfl hk rfl rfl rfl fun a hk => ?_
       refine sv (.int .i64 (w64 (u18 + 1))) hk rfl rfl rfl fun a hk => ?_
       refine sa _ rfl hk rfl rfl rfl fun a hk => ?_
       show wpList _ _ _ [] _ _
       refine wpList_nil ?_
       obtain rfl := Option.some.inj H
       obtain ⟨m62, hmm62, h31⟩ := h31
       show ∃ n', n' < _ ∧ I28 n' _ _
       refine ⟨m62, hmm62, ?_⟩
       rw [hI28]
       exact ⟨u45, u49, (w64 (u18 + 1)), _, h31, (hk.c 0 rfl (hk.c 1 rfl (hk.c 5 rfl (hk.c 6 rfl hk.k)))), (hs.pick [(1, 1)] rfl), o47, lh48⟩
     ·have hk := hk.lit 19 c34 rfl
      refine cnd_false hk rfl rfl ?_
      refine wp_exit ?_
      obtain rfl := Option.some.inj H
      show R27 _ _
      rw [hR27]
      exact ⟨u13, u17, _, h31.symm, (hk.c 0 rfl (hk.c 5 rfl hk.k)), (hs.pick [(1, 1)] rfl), o15, lh16⟩
   ·intro a w hR0
    rw [hR27] at hR0
    obtain ⟨u19, u23, k20, rfl, hk, hs, o21, lh22⟩ := hR0
    have H := HL26
    try dsimp only at H
    refine hK9 _ _ ?_
    apply wp_seq_k; intro K63 hK63
    apply wp_region_lit
    refine sm _ rfl hk rfl rfl rfl fun a hk => ?_
    refine sm _ rfl hk rfl rfl rfl fun a hk => ?_
    rcases ite_some H with ⟨c64, H⟩ | ⟨_, H⟩
    rotate_left
    ·cases H
    refine sll_l rfl hk rfl rfl rfl rfl un59 sz9 c64.1 c64.2 fun a hk => ?_
    have v65 : View Lay.str (if p0_ = u23.toNat then A0_ else (A0_ : Option Addr).map (·.add (u23.toNat * 1))) (p0_ - u23.toNat) (u19.drop u23.toNat) k20 := (o21.view).dropv u23.toNat (by have := lh22; omega)
    have lh66 : (u19.drop u23.toNat).length = (l0.length - u23.toNat) := (by rw [List.length_drop]; rw [lh22])
    refine sclr 1 (xs := u19) (z := ByteArray.empty) (flat_flat : (Lay.str).Flat) hs rfl o21 rfl hk rfl rfl (by rw [lh22]) rfl un59 ze9 rfl rfl rfl (by exact ⟨rfl, rfl⟩) (by have := lh22; omega) fun k67 w a hk o68 hs => ?_
    have lh69 : (clrL u19 u23.toNat ByteArray.empty).length = l0.length := by rw [clrL_len _ (by have := lh22; omega)]; exact lh22
    show wpList _ _ _ [] _ _
    refine wpList_nil ?_
    refine hK63 _ _ ?_
    apply wp_seq_k; intro K70 hK70
    apply wp_region_lit
    refine sm _ rfl hk rfl rfl rfl fun a hk => ?_
    refine sm _ rfl hk rfl rfl rfl fun a hk => ?_
    rcases ite_some H with ⟨c71, H⟩ | ⟨_, H⟩
    rotate_left
    ·cases H
    refine sll_h rfl hk rfl rfl rfl rfl un59 sz9 c71.1 (by have := (o68.view).le_cap; have := lh69; omega) fun a hk => ?_
    have v72 : View Lay.str (if p0_ = 0 then A0_ else (A0_ : Option Addr).map (·.add (0 * 1))) (p0_ - 0) ((clrL u19 u23.toNat ByteArray.empty).take u23.toNat) k67 := (o68.view).takev u23.toNat (by have := lh69; omega)
    have lh73 : ((clrL u19 u23.toNat ByteArray.empty).take u23.toNat).length = (u23.toNat - 0) := (by rw [List.length_take]; have := lh69; omega)
    refine sa _ rfl hk rfl rfl rfl fun a hk => ?_
    show wpList _ _ _ [] _ _
    refine wpList_nil ?_
    refine hK70 _ _ ?_
    have hs := hs.pick [(1, 1)] rfl
    refine wp_ret ?_
    obtain ⟨k74, o75, hs⟩ := hs.cutRow 1 1 u23.toNat (flat_flat : (Lay.str).Flat) rfl o68 (by have := lh69; omega)
    obtain rfl := Option.some.inj H
    exact fin hk _ [(.slice (if p0_ = 0 then A0_ else (A0_ : Option Addr).map (·.add (0 * 1))) (u23.toNat - 0) (p0_ - 0))] rfl ⟨rfl, trivial⟩ ⟨(if p0_ = 0 then A0_ else (A0_ : Option Addr).map (·.add (0 * 1))), (p0_ - 0), _, (by first | (rw [lh73]; done) | (rw [lh73]; rfl)), o75, (hs.pick [(0, 1)] rfl).dnil⟩

noncomputable def impl_wordsOf_c1.f (x0 : ByteArray) : Option (Bool) :=
  (some (x0.toList == (⟨#[]⟩ : ByteArray).toList))
set_option maxRecDepth 100000 in
set_option maxHeartbeats 0 in
theorem impl_wordsOf_c1_t (w0 : World) (x0 : ByteArray) (r : Bool) (H : impl_wordsOf_c1.f x0 = some r) :
    Calls Tryz.prog 78 #[.string x0] w0 (Ret (fun v w => v = .bool r ∧ Sat [] w0 w [] [])) := by
  have hs : Sat [] w0 w0 [] [] := Sat.init w0 [] [] (by simp) (by simp) List.nodup_nil (by simp [blks])
  unfold impl_wordsOf_c1.f at H
  refine enter Tryz.func78 rfl Tryz.ntmps78 rfl fun a hk => ?_
  apply wp_seq_k; intro K1 hK1
  apply wp_region_lit
  refine sa _ rfl hk rfl rfl rfl fun a hk => ?_
  show wpList _ _ _ [] _ _
  refine wpList_nil ?_
  refine hK1 _ _ ?_
  apply wp_seq_k; intro K2 hK2
  apply wp_region_lit
  refine sm _ rfl hk rfl rfl rfl fun a hk => ?_
  refine sv (.bool (x0.toList == (⟨#[]⟩ : ByteArray).toList)) hk rfl rfl rfl fun a hk => ?_
  refine sa _ rfl hk rfl rfl rfl fun a hk => ?_
  show wpList _ _ _ [] _ _
  refine wpList_nil ?_
  refine hK2 _ _ ?_
  refine wp_ret ?_
  obtain rfl := Option.some.inj H
  exact fin hk _ [(.bool (x0.toList == (⟨#[]⟩ : ByteArray).toList))] rfl ⟨rfl, trivial⟩ ⟨rfl, (hs.pick [] rfl).dnil⟩

noncomputable def impl_wordsOf.f (x0 : ByteArray) : Option ((List ByteArray)) :=
  ((strings_Split.f x0 (⟨#[32]⟩ : ByteArray)).bind fun y3 => ((slices_DeleteFunc_string_string.f y3 impl_wordsOf_c1.f).bind fun y9 => (some y9)))
set_option maxRecDepth 100000 in
set_option maxHeartbeats 0 in
theorem impl_wordsOf_t (w0 : World) (x0 : ByteArray) (kT : Chunk) (tT : TabR Tryz.prog kT) (wT : Has w0 kT) (r : (List ByteArray)) (H : impl_wordsOf.f x0 = some r) :
    Calls Tryz.prog 53 #[.string x0] w0 (Ret (fun v w => ∃ (A0 : Option Addr) (p0 : Nat) (k0 : Chunk), v = .slice A0 r.length p0 ∧ Own Lay.str 9 A0 p0 r k0 ∧ Sat [] w0 w [] [(0, k0)])) := by
  have hs : Sat [] w0 w0 [(1, kT)] [] := Sat.init w0 [(1, kT)] [] (by simp only [List.mem_cons, List.not_mem_nil, or_false]; rintro x (rfl) <;> assumption) (by simp) List.nodup_nil (by simp [blks])
  unfold impl_wordsOf.f at H
  refine enter Tryz.func53 rfl Tryz.ntmps53 rfl fun a hk => ?_
  apply wp_seq_k; intro K1 hK1
  apply wp_region_lit
  refine sa _ rfl hk rfl rfl rfl fun a hk => ?_
  show wpList _ _ _ [] _ _
  refine wpList_nil ?_
  refine hK1 _ _ ?_
  apply wp_seq_k; intro K2 hK2
  apply wp_region_lit
  refine sm _ rfl hk rfl rfl rfl fun a hk => ?_
  obtain ⟨y3, h4, H⟩ := bind_some H
  refine sc rfl en42 hk rfl rfl rfl (strings_Split_t _ x0 (⟨#[32]⟩ : ByteArray) kT tT (hs.hasD (k := 1) rfl) _ h4) ?_
  rintro _ w ⟨A5, p6, k7, rfl, o8, hG⟩ a hk
  have hs := hs.call0k hG [2] rfl
  obtain ⟨y9, h10, H⟩ := bind_some H
  refine sc rfl en77 hk rfl rfl rfl (slices_DeleteFunc_string_string_t _ A5 p6 y3 _ o8 78 [] en78 impl_wordsOf_c1.f [] (fun w _ z0 r h => impl_wordsOf_c1_t w z0 r h) (Has.nil _) (((hs.hand [(1, 2)] rfl).dnilk 2003).dpick [(2, 2003)] rfl) _ h10) ?_
  rintro _ w ⟨A11, p12, k13, rfl, o14, hG⟩ a hk
  have hs := hs.back [(1, 2)] rfl hG [4] rfl
  refine sa _ rfl hk rfl rfl rfl fun a hk => ?_
  show wpList _ _ _ [] _ _
  refine wpList_nil ?_
  refine hK2 _ _ ?_
  refine wp_ret ?_
  obtain rfl := Option.some.inj H
  exact fin hk _ [(.slice A11 y9.length p12)] rfl ⟨rfl, trivial⟩ ⟨A11, p12, _, rfl, o14, (hs.pick [(0, 4)] rfl).dnil⟩

def itoa_ren : Go.Shelf.Ren := ⟨fun | 171 => 52 | 243 => 76 | 246 => 90 | 283 => 100 | 284 => 101 | 285 => 102 | 286 => 103 | 129 => 113 | 317 => 112 | 318 => 114 | 319 => 115 | 320 => 116 | 337 => 125 | 338 => 126 | n => n, fun | 3 => 3 | 9 => 9 | 2 => 2 | 4 => 4 | 171 => 109 | 0 => 0 | 53 => 110 | 37 => 28 | 5 => 5 | 173 => 113 | 212 => 117 | 51 => 118 | 20 => 20 | 213 => 119 | 46 => 116 | 232 => 141 | 233 => 142 | n => n, fun | 17 => 1 | 18 => 6 | 19 => 7 | n => n⟩
theorem itoa_lays : Go.Proofs.LaysM.n171 Tryz.prog itoa_ren := {
  mixed := by kernel_rfl
  f129 := Tryz.func113.trans (congrArg some (by kernel_rfl))
  f171 := Tryz.func52.trans (congrArg some (by kernel_rfl))
  f243 := Tryz.func76.trans (congrArg some (by kernel_rfl))
  f246 := Tryz.func90.trans (congrArg some (by kernel_rfl))
  f283 := Tryz.func100.trans (congrArg some (by kernel_rfl))
  f284 := Tryz.func101.trans (congrArg some (by kernel_rfl))
  f285 := Tryz.func102.trans (congrArg some (by kernel_rfl))
  f286 := Tryz.func103.trans (congrArg some (by kernel_rfl))
  f317 := Tryz.func112.trans (congrArg some (by kernel_rfl))
  f318 := Tryz.func114.trans (congrArg some (by kernel_rfl))
  f319 := Tryz.func115.trans (congrArg some (by kernel_rfl))
  f320 := Tryz.func116.trans (congrArg some (by kernel_rfl))
  f337 := Tryz.func125.trans (congrArg some (by kernel_rfl))
  f338 := Tryz.func126.trans (congrArg some (by kernel_rfl))
  t0 := Tryz.underlying0
  a0 := Tryz.isAgg0
  z0 := Tryz.sizeOf0
  v0 := Tryz.zeroValue0
  t2 := Tryz.underlying2
  a2 := Tryz.isAgg2
  z2 := Tryz.sizeOf2
  v2 := Tryz.zeroValue2
  t3 := Tryz.underlying3
  a3 := Tryz.isAgg3
  z3 := Tryz.sizeOf3
  v3 := Tryz.zeroValue3
  t4 := Tryz.underlying4
  a4 := Tryz.isAgg4
  z4 := Tryz.sizeOf4
  v4 := Tryz.zeroValue4
  t5 := Tryz.underlying5
  a5 := Tryz.isAgg5
  z5 := Tryz.sizeOf5
  v5 := Tryz.zeroValue5
  t9 := Tryz.underlying9
  a9 := Tryz.isAgg9
  z9 := Tryz.sizeOf9
  v9 := Tryz.zeroValue9
  t20 := Tryz.underlying20
  a20 := Tryz.isAgg20
  z20 := Tryz.sizeOf20
  v20 := Tryz.zeroValue20
  t37 := Tryz.underlying28
  a37 := Tryz.isAgg28
  z37 := Tryz.sizeOf28
  v37 := Tryz.zeroValue28
  t46 := Tryz.underlying116
  a46 := Tryz.isAgg116
  z46 := Tryz.sizeOf116
  v46 := Tryz.zeroValue116
  t51 := Tryz.underlying118
  a51 := Tryz.isAgg118
  z51 := Tryz.sizeOf118
  v51 := Tryz.zeroValue118
  t53 := Tryz.underlying110
  a53 := Tryz.isAgg110
  z53 := Tryz.sizeOf110
  v53 := Tryz.zeroValue110
  t171 := Tryz.underlying109
  a171 := Tryz.isAgg109
  z171 := Tryz.sizeOf109
  v171 := Tryz.zeroValue109
  t173 := Tryz.underlying113
  a173 := Tryz.isAgg113
  z173 := Tryz.sizeOf113
  v173 := Tryz.zeroValue113
  t212 := Tryz.underlying117
  a212 := Tryz.isAgg117
  z212 := Tryz.sizeOf117
  v212 := Tryz.zeroValue117
  t213 := Tryz.underlying119
  a213 := Tryz.isAgg119
  z213 := Tryz.sizeOf119
  t232 := Tryz.underlying141
  a232 := Tryz.isAgg141
  z232 := Tryz.sizeOf141
  v232 := Tryz.zeroValue141
  t233 := Tryz.underlying142
  a233 := Tryz.isAgg142
  z233 := Tryz.sizeOf142
  v233 := Tryz.zeroValue142
  g17 := by kernel_rfl
  g18 := by kernel_rfl
  g19 := by kernel_rfl
  i0 := by kernel_rfl
  i2 := by kernel_rfl
  i3 := by kernel_rfl
  i4 := by kernel_rfl
  i5 := by kernel_rfl
  i9 := by kernel_rfl
  i20 := by kernel_rfl
  i37 := by kernel_rfl
  i46 := by kernel_rfl
  i51 := by kernel_rfl
  i53 := by kernel_rfl
  i171 := by kernel_rfl
  i173 := by kernel_rfl
  i212 := by kernel_rfl
  i232 := by kernel_rfl
  i233 := by kernel_rfl
  m17 := by kernel_rfl
  m18 := by kernel_rfl
  m19 := by kernel_rfl }
open Go.RowKit Go.Sort Go.Lib in
theorem itoa_shelf (n : Int) (h0 : -9223372036854775808 ≤ n) (h1 : n ≤ 9223372036854775807) (w : World) (htab : Lib.TabIs Tryz.prog w "internal/strconv.uint64pow10" .u64 Lib.pow10Tab) :
    Calls Tryz.prog 52 #[.int .i64 n] w fun e w' => e = .returned (.string ⟨(Lib.itoa n).toArray⟩) ∧ ∃ k os, w' = grow (w.drewN k) os := Any.strconv_Itoa itoa_lays n h0 h1 w htab
noncomputable def strconv_Itoa.f (x0 : Int) : Option ByteArray := if -9223372036854775808 ≤ x0 ∧ x0 ≤ 9223372036854775807 then some (itoaB x0) else none
theorem strconv_Itoa_t (w0 : World) (x0 : Int) (kT : Chunk) (tT : TabR Tryz.prog kT) (wT : Has w0 kT) (r : ByteArray) (H : strconv_Itoa.f x0 = some r) :
    Calls Tryz.prog 52 #[.int .i64 x0] w0 (Ret (fun v w => v = .string r ∧ Sat [] w0 w [] [])) := by
  unfold strconv_Itoa.f at H
  rcases ite_some H with ⟨h, H⟩ | ⟨_, H⟩
  rotate_left
  · cases H
  obtain rfl := Option.some.inj H
  refine (itoa_shelf x0 h.1 h.2 w0 (tT.pow _ wT)).mono ?_
  rintro e w' ⟨rfl, k, os, rfl⟩
  exact ⟨_, rfl, rfl, sat_grown _ _ _⟩

noncomputable def internal_stringslite_HasPrefix.f (x0 : ByteArray) (x1 : ByteArray) : Option (Bool) :=
  (((bif (decide ((x0.size : Int) ≥ (x1.size : Int))) then (if 0 ≤ (x1.size : Int) ∧ (x1.size : Int) ≤ (x0.size : Int) then (some ((x0.extract 0 (x1.size : Int).toNat).toList == x1.toList)) else none) else (some false)) : Option (Bool)).bind fun u4 => (some u4))
set_option maxRecDepth 100000 in
set_option maxHeartbeats 0 in
theorem internal_stringslite_HasPrefix_t (w0 : World) (x0 : ByteArray) (x1 : ByteArray) (r : Bool) (H : internal_stringslite_HasPrefix.f x0 x1 = some r) :
    Calls Tryz.prog 117 #[.string x0, .string x1] w0 (Ret (fun v w => v = .bool r ∧ Sat [] w0 w [] [])) := by
  have hs : Sat [] w0 w0 [] [] := Sat.init w0 [] [] (by simp) (by simp) List.nodup_nil (by simp [blks])
  unfold internal_stringslite_HasPrefix.f at H
  refine enter Tryz.func117 rfl Tryz.ntmps117 rfl fun a hk => ?_
  apply wp_seq_k; intro K1 hK1
  apply wp_region_lit
  refine sa _ rfl hk rfl rfl rfl fun a hk => ?_
  show wpList _ _ _ [] _ _
  refine wpList_nil ?_
  refine hK1 _ _ ?_
  apply wp_seq_k; intro K2 hK2
  obtain ⟨o5, h6, HL7⟩ := bind_some H
  clear H
  obtain ⟨R8, hR8⟩ : ∃ R : Act → World → Prop, R = fun a w => ∃ (u4 : Bool), u4 = o5 ∧ Kn [(4, (.bool u4))] 18 a ∧ Sat [] w0 w [] [] := ⟨_, rfl⟩
  refine wp_cutq R8 ?_ ?_
  ·have H := h6
   apply wp_region_lit
   refine sm _ rfl hk rfl rfl rfl fun a hk => ?_
   refine sles rfl hk rfl rfl rfl un9 fun a hk => ?_
   refine sm _ rfl hk rfl rfl rfl fun a hk => ?_
   refine sles rfl hk rfl rfl rfl un9 fun a hk => ?_
   refine sv (.bool (decide ((x0.size : Int) ≥ (x1.size : Int)))) hk rfl rfl rfl fun a hk => ?_
   refine sm _ rfl hk rfl rfl rfl fun a hk => ?_
   rcases cond_some H with ⟨c9, H⟩ | ⟨c9, H⟩
   ·have hk := hk.lit 10 c9 rfl
    refine sm _ rfl hk rfl rfl rfl fun a hk => ?_
    refine sm _ rfl hk rfl rfl rfl fun a hk => ?_
    refine sles rfl hk rfl rfl rfl un9 fun a hk => ?_
    rcases ite_some H with ⟨c10, H⟩ | ⟨_, H⟩
    rotate_left
    ·cases H
    refine ssl_h rfl hk rfl rfl rfl rfl un9 c10.1 c10.2 fun a hk => ?_
    refine sm _ rfl hk rfl rfl rfl fun a hk => ?_
    refine sv (.bool ((x0.extract 0 (x1.size : Int).toNat).toList == x1.toList)) hk rfl rfl rfl fun a hk => ?_
    refine sv (.bool ((x0.extract 0 (x1.size : Int).toNat).toList == x1.toList)) hk rfl rfl rfl fun a hk => ?_
    refine sa _ rfl hk rfl rfl rfl fun a hk => ?_
    show wpList _ _ _ [] _ _
    refine wpList_nil ?_
    obtain rfl := Option.some.inj H
    show R8 _ _
    rw [hR8]
    exact ⟨((x0.extract 0 (x1.size : Int).toNat).toList == x1.toList), rfl, (hk.c 4 rfl hk.k), (hs.pick [] rfl)⟩
   ·have hk := hk.lit 10 c9 rfl
    refine sk hk rfl rfl rfl fun a hk => ?_
    refine sk hk rfl rfl rfl fun a hk => ?_
    refine sk hk rfl rfl rfl fun a hk => ?_
    refine sk hk rfl rfl rfl fun a hk => ?_
    refine sk hk rfl rfl rfl fun a hk => ?_
    refine sk hk rfl rfl rfl fun a hk => ?_
    refine sv (.bool false) hk rfl rfl rfl fun a hk => ?_
    refine sa _ rfl hk rfl rfl rfl fun a hk => ?_
    show wpList _ _ _ [] _ _
    refine wpList_nil ?_
    obtain rfl := Option.some.inj H
    show R8 _ _
    rw [hR8]
    exact ⟨false, rfl, (hk.c 4 rfl hk.k), (hs.pick [] rfl)⟩
  ·intro a w hR0
   rw [hR8] at hR0
   obtain ⟨u4, rfl, hk, hs⟩ := hR0
   have H := HL7
   try dsimp only at H
   refine hK2 _ _ ?_
   refine wp_ret ?_
   obtain rfl := Option.some.inj H
   exact fin hk _ [(.bool u4)] rfl ⟨rfl, trivial⟩ ⟨rfl, (hs.pick [] rfl).dnil⟩

noncomputable def internal_stringslite_TrimPrefix.f (x0 : ByteArray) (x1 : ByteArray) : Option (ByteArray) :=
  ((internal_stringslite_HasPrefix.f x0 x1).bind fun y4 => (bif y4 then (if 0 ≤ (x1.size : Int) ∧ (x1.size : Int) ≤ (x0.size : Int) then (some (x0.extract (x1.size : Int).toNat x0.size)) else none) else (some x0)))
set_option maxRecDepth 100000 in
set_option maxHeartbeats 0 in
theorem internal_stringslite_TrimPrefix_t (w0 : World) (x0 : ByteArray) (x1 : ByteArray) (r : ByteArray) (H : internal_stringslite_TrimPrefix.f x0 x1 = some r) :
    Calls Tryz.prog 104 #[.string x0, .string x1] w0 (Ret (fun v w => v = .string r ∧ Sat [] w0 w [] [])) := by
  have hs : Sat [] w0 w0 [] [] := Sat.init w0 [] [] (by simp) (by simp) List.nodup_nil (by simp [blks])
  unfold internal_stringslite_TrimPrefix.f at H
  refine enter Tryz.func104 rfl Tryz.ntmps104 rfl fun a hk => ?_
  apply wp_seq_k; intro K1 hK1
  apply wp_region_lit
  refine sa _ rfl hk rfl rfl rfl fun a hk => ?_
  show wpList _ _ _ [] _ _
  refine wpList_nil ?_
  refine hK1 _ _ ?_
  apply wp_seq_k; intro K2 hK2
  apply wp_seq_k; intro K3 hK3
  apply wp_region_lit
  refine sm _ rfl hk rfl rfl rfl fun a hk => ?_
  refine sm _ rfl hk rfl rfl rfl fun a hk => ?_
  obtain ⟨y4, h5, H⟩ := bind_some H
  refine sc rfl en117 hk rfl rfl rfl (internal_stringslite_HasPrefix_t _ x0 x1 _ h5) ?_
  rintro _ w ⟨rfl, hG⟩ a hk
  have hs := hs.call0 hG
  show wpList _ _ _ [] _ _
  refine wpList_nil ?_
  refine hK3 _ _ ?_
  rcases cond_some H with ⟨c6, H⟩ | ⟨c6, H⟩
  ·have hk := hk.lit 7 c6 rfl
   refine cnd_true hk rfl rfl ?_
   apply wp_seq_k; intro K7 hK7
   apply wp_region_lit
   refine sm _ rfl hk rfl rfl rfl fun a hk => ?_
   refine sm _ rfl hk rfl rfl rfl fun a hk => ?_
   refine sles rfl hk rfl rfl rfl un9 fun a hk => ?_
   rcases ite_some H with ⟨c8, H⟩ | ⟨_, H⟩
   rotate_left
   ·cases H
   refine ssl_l rfl hk rfl rfl rfl rfl un9 c8.1 c8.2 fun a hk => ?_
   refine sa _ rfl hk rfl rfl rfl fun a hk => ?_
   show wpList _ _ _ [] _ _
   refine wpList_nil ?_
   refine hK7 _ _ ?_
   refine wp_ret ?_
   obtain rfl := Option.some.inj H
   exact fin hk _ [(.string (x0.extract (x1.size : Int).toNat x0.size))] rfl ⟨rfl, trivial⟩ ⟨rfl, (hs.pick [] rfl).dnil⟩
  ·have hk := hk.lit 7 c6 rfl
   refine cnd_false hk rfl rfl ?_
   refine wp_skip ?_
   refine hK2 _ _ ?_
   apply wp_seq_k; intro K9 hK9
   apply wp_region_lit
   refine sm _ rfl hk rfl rfl rfl fun a hk => ?_
   refine sa _ rfl hk rfl rfl rfl fun a hk => ?_
   show wpList _ _ _ [] _ _
   refine wpList_nil ?_
   refine hK9 _ _ ?_
   have hs := hs.pick [] rfl
   refine wp_ret ?_
   obtain rfl := Option.some.inj H
   exact fin hk _ [(.string x0)] rfl ⟨rfl, trivial⟩ ⟨rfl, (hs.pick [] rfl).dnil⟩

noncomputable def strings_TrimPrefix.f (x0 : ByteArray) (x1 : ByteArray) : Option (ByteArray) :=
  ((internal_stringslite_TrimPrefix.f x0 x1).bind fun y3 => (some y3))
set_option maxRecDepth 100000 in
set_option maxHeartbeats 0 in
theorem strings_TrimPrefix_t (w0 : World) (x0 : ByteArray) (x1 : ByteArray) (r : ByteArray) (H : strings_TrimPrefix.f x0 x1 = some r) :
    Calls Tryz.prog 91 #[.string x0, .string x1] w0 (Ret (fun v w => v = .string r ∧ Sat [] w0 w [] [])) := by
  have hs : Sat [] w0 w0 [] [] := Sat.init w0 [] [] (by simp) (by simp) List.nodup_nil (by simp [blks])
  unfold strings_TrimPrefix.f at H
  refine enter Tryz.func91 rfl Tryz.ntmps91 rfl fun a hk => ?_
  apply wp_seq_k; intro K1 hK1
  apply wp_region_lit
  refine sa _ rfl hk rfl rfl rfl fun a hk => ?_
  show wpList _ _ _ [] _ _
  refine wpList_nil ?_
  refine hK1 _ _ ?_
  apply wp_seq_k; intro K2 hK2
  apply wp_region_lit
  refine sm _ rfl hk rfl rfl rfl fun a hk => ?_
  refine sm _ rfl hk rfl rfl rfl fun a hk => ?_
  obtain ⟨y3, h4, H⟩ := bind_some H
  refine sc rfl en104 hk rfl rfl rfl (internal_stringslite_TrimPrefix_t _ x0 x1 _ h4) ?_
  rintro _ w ⟨rfl, hG⟩ a hk
  have hs := hs.call0 hG
  refine sa _ rfl hk rfl rfl rfl fun a hk => ?_
  show wpList _ _ _ [] _ _
  refine wpList_nil ?_
  refine hK2 _ _ ?_
  refine wp_ret ?_
  obtain rfl := Option.some.inj H
  exact fin hk _ [(.string y3)] rfl ⟨rfl, trivial⟩ ⟨rfl, (hs.pick [] rfl).dnil⟩

def atoi_ren : Go.Shelf.Ren := ⟨fun | 172 => 92 | 244 => 105 | 245 => 106 | 247 => 118 | 279 => 119 | 280 => 120 | 281 => 121 | 282 => 122 | 287 => 127 | 316 => 128 | 171 => 52 | 205 => 129 | 321 => 130 | 322 => 131 | 243 => 76 | 246 => 90 | 283 => 100 | 284 => 101 | 285 => 102 | 286 => 103 | 129 => 113 | 317 => 112 | 318 => 114 | 319 => 115 | 320 => 116 | 337 => 125 | 338 => 126 | n => n, fun | 9 => 9 | 3 => 3 | 75 => 89 | 76 => 90 | 4 => 4 | 5 => 5 | 167 => 122 | 37 => 28 | 0 => 0 | 85 => 123 | 2 => 2 | 168 => 125 | 53 => 110 | 175 => 135 | 46 => 116 | 210 => 139 | 127 => 98 | 145 => 146 | 143 => 144 | 21 => 21 | 171 => 109 | 173 => 113 | 212 => 117 | 51 => 118 | 20 => 20 | 213 => 119 | 232 => 141 | 233 => 142 | 80 => 92 | n => n, fun | 15 => 4 | 16 => 5 | 17 => 1 | 18 => 6 | 19 => 7 | n => n⟩
theorem atoi_lays : Go.Proofs.LaysC.n172 Tryz.prog atoi_ren := {
  mixed := by kernel_rfl
  f129 := Tryz.func113.trans (congrArg some (by kernel_rfl))
  f171 := Tryz.func52.trans (congrArg some (by kernel_rfl))
  f172 := Tryz.func92.trans (congrArg some (by kernel_rfl))
  f205 := Tryz.func129.trans (congrArg some (by kernel_rfl))
  f243 := Tryz.func76.trans (congrArg some (by kernel_rfl))
  f244 := Tryz.func105.trans (congrArg some (by kernel_rfl))
  f245 := Tryz.func106.trans (congrArg some (by kernel_rfl))
  f246 := Tryz.func90.trans (congrArg some (by kernel_rfl))
  f247 := Tryz.func118.trans (congrArg some (by kernel_rfl))
  f279 := Tryz.func119.trans (congrArg some (by kernel_rfl))
  f280 := Tryz.func120.trans (congrArg some (by kernel_rfl))
  f281 := Tryz.func121.trans (congrArg some (by kernel_rfl))
  f282 := Tryz.func122.trans (congrArg some (by kernel_rfl))
  f283 := Tryz.func100.trans (congrArg some (by kernel_rfl))
  f284 := Tryz.func101.trans (congrArg some (by kernel_rfl))
  f285 := Tryz.func102.trans (congrArg some (by kernel_rfl))
  f286 := Tryz.func103.trans (congrArg some (by kernel_rfl))
  f287 := Tryz.func127.trans (congrArg some (by kernel_rfl))
  f316 := Tryz.func128.trans (congrArg some (by kernel_rfl))
  f317 := Tryz.func112.trans (congrArg some (by kernel_rfl))
  f318 := Tryz.func114.trans (congrArg some (by kernel_rfl))
  f319 := Tryz.func115.trans (congrArg some (by kernel_rfl))
  f320 := Tryz.func116.trans (congrArg some (by kernel_rfl))
  f321 := Tryz.func130.trans (congrArg some (by kernel_rfl))
  f322 := Tryz.func131.trans (congrArg some (by kernel_rfl))
  f337 := Tryz.func125.trans (congrArg some (by kernel_rfl))
  f338 := Tryz.func126.trans (congrArg some (by kernel_rfl))
  t0 := Tryz.underlying0
  a0 := Tryz.isAgg0
  z0 := Tryz.sizeOf0
  v0 := Tryz.zeroValue0
  t2 := Tryz.underlying2
  a2 := Tryz.isAgg2
  z2 := Tryz.sizeOf2
  v2 := Tryz.zeroValue2
  t3 := Tryz.underlying3
  a3 := Tryz.isAgg3
  z3 := Tryz.sizeOf3
  v3 := Tryz.zeroValue3
  t4 := Tryz.underlying4
  a4 := Tryz.isAgg4
  z4 := Tryz.sizeOf4
  v4 := Tryz.zeroValue4
  t5 := Tryz.underlying5
  a5 := Tryz.isAgg5
  z5 := Tryz.sizeOf5
  v5 := Tryz.zeroValue5
  t9 := Tryz.underlying9
  a9 := Tryz.isAgg9
  z9 := Tryz.sizeOf9
  v9 := Tryz.zeroValue9
  t20 := Tryz.underlying20
  a20 := Tryz.isAgg20
  z20 := Tryz.sizeOf20
  v20 := Tryz.zeroValue20
  t21 := Tryz.underlying21
  a21 := Tryz.isAgg21
  z21 := Tryz.sizeOf21
  v21 := Tryz.zeroValue21
  t37 := Tryz.underlying28
  a37 := Tryz.isAgg28
  z37 := Tryz.sizeOf28
  v37 := Tryz.zeroValue28
  t46 := Tryz.underlying116
  a46 := Tryz.isAgg116
  z46 := Tryz.sizeOf116
  v46 := Tryz.zeroValue116
  t51 := Tryz.underlying118
  a51 := Tryz.isAgg118
  z51 := Tryz.sizeOf118
  v51 := Tryz.zeroValue118
  t53 := Tryz.underlying110
  a53 := Tryz.isAgg110
  z53 := Tryz.sizeOf110
  v53 := Tryz.zeroValue110
  t75 := Tryz.underlying89
  a75 := Tryz.isAgg89
  z75 := Tryz.sizeOf89
  v75 := Tryz.zeroValue89
  t76 := Tryz.underlying90
  a76 := Tryz.isAgg90
  z76 := Tryz.sizeOf90
  v76 := Tryz.zeroValue90
  t85 := Tryz.underlying123
  a85 := Tryz.isAgg123
  z85 := Tryz.sizeOf123
  v85 := Tryz.zeroValue123
  t127 := Tryz.underlying98
  a127 := Tryz.isAgg98
  z127 := Tryz.sizeOf98
  v127 := Tryz.zeroValue98
  t143 := Tryz.underlying144
  a143 := Tryz.isAgg144
  z143 := Tryz.sizeOf144
  v143 := Tryz.zeroValue144
  t145 := Tryz.underlying146
  a145 := Tryz.isAgg146
  z145 := Tryz.sizeOf146
  v145 := Tryz.zeroValue146
  t167 := Tryz.underlying122
  a167 := Tryz.isAgg122
  z167 := Tryz.sizeOf122
  v167 := Tryz.zeroValue122
  t168 := Tryz.underlying125
  a168 := Tryz.isAgg125
  z168 := Tryz.sizeOf125
  v168 := Tryz.zeroValue125
  t171 := Tryz.underlying109
  a171 := Tryz.isAgg109
  z171 := Tryz.sizeOf109
  v171 := Tryz.zeroValue109
  t173 := Tryz.underlying113
  a173 := Tryz.isAgg113
  z173 := Tryz.sizeOf113
  v173 := Tryz.zeroValue113
  t175 := Tryz.underlying135
  a175 := Tryz.isAgg135
  z175 := Tryz.sizeOf135
  v175 := Tryz.zeroValue135
  t210 := Tryz.underlying139
  a210 := Tryz.isAgg139
  z210 := Tryz.sizeOf139
  v210 := Tryz.zeroValue139
  t212 := Tryz.underlying117
  a212 := Tryz.isAgg117
  z212 := Tryz.sizeOf117
  v212 := Tryz.zeroValue117
  t213 := Tryz.underlying119
  a213 := Tryz.isAgg119
  z213 := Tryz.sizeOf119
  t232 := Tryz.underlying141
  a232 := Tryz.isAgg141
  z232 := Tryz.sizeOf141
  v232 := Tryz.zeroValue141
  t233 := Tryz.underlying142
  a233 := Tryz.isAgg142
  z233 := Tryz.sizeOf142
  v233 := Tryz.zeroValue142
  g15 := by kernel_rfl
  g16 := by kernel_rfl
  g17 := by kernel_rfl
  g18 := by kernel_rfl
  g19 := by kernel_rfl
  t80 := Tryz.underlying92
  a80 := Tryz.isAgg92
  z80 := Tryz.sizeOf92
  v80 := Tryz.zeroValue92
  i0 := by kernel_rfl
  i2 := by kernel_rfl
  i3 := by kernel_rfl
  i4 := by kernel_rfl
  i5 := by kernel_rfl
  i9 := by kernel_rfl
  i20 := by kernel_rfl
  i21 := by kernel_rfl
  i37 := by kernel_rfl
  i46 := by kernel_rfl
  i51 := by kernel_rfl
  i53 := by kernel_rfl
  i75 := by kernel_rfl
  i76 := by kernel_rfl
  i80 := by kernel_rfl
  i85 := by kernel_rfl
  i127 := by kernel_rfl
  i143 := by kernel_rfl
  i145 := by kernel_rfl
  i167 := by kernel_rfl
  i168 := by kernel_rfl
  i171 := by kernel_rfl
  i173 := by kernel_rfl
  i175 := by kernel_rfl
  i210 := by kernel_rfl
  i212 := by kernel_rfl
  i232 := by kernel_rfl
  i233 := by kernel_rfl
  m15 := by kernel_rfl
  m16 := by kernel_rfl
  m17 := by kernel_rfl
  m18 := by kernel_rfl
  m19 := by kernel_rfl
  c0 := by kernel_rfl
  c2 := by kernel_rfl
  c3 := by kernel_rfl
  c4 := by kernel_rfl
  c5 := by kernel_rfl
  c9 := by kernel_rfl
  c20 := by kernel_rfl
  c21 := by kernel_rfl
  c37 := by kernel_rfl
  c46 := by kernel_rfl
  c51 := by kernel_rfl
  c53 := by kernel_rfl
  c75 := by kernel_rfl
  c76 := by kernel_rfl
  c80 := by kernel_rfl
  c85 := by kernel_rfl
  c127 := by kernel_rfl
  c143 := by kernel_rfl
  c145 := by kernel_rfl
  c167 := by kernel_rfl
  c168 := by kernel_rfl
  c171 := by kernel_rfl
  c173 := by kernel_rfl
  c175 := by kernel_rfl
  c210 := by kernel_rfl
  c212 := by kernel_rfl
  c213 := by kernel_rfl
  c232 := by kernel_rfl
  c233 := by kernel_rfl }
def endB : Lib.NumEnd Int → Int → Int × Bool
  | .ok v, _ => (v, true)
  | .range, s => (s, false)
  | _, _ => (0, false)
noncomputable def strconv_Atoi.f (x0 : ByteArray) : Option (Int × Bool) := if x0.size ≤ 281474976710656 then some (endB (Lib.atoiAll x0.data.toList) (Lib.atoiSat x0.data.toList)) else none
theorem strconv_Atoi_t (w0 : World) (x0 : ByteArray) (kT : Chunk) (tT : TabR Tryz.prog kT) (wT : Has w0 kT) (r : Int × Bool) (H : strconv_Atoi.f x0 = some r) :
    Calls Tryz.prog 92 #[.string x0] w0 (Ret (fun v w => ∃ e : Value, v = .tuple #[.int .i64 r.1, e] ∧ IfB e r.2 ∧ Sat [] w0 w [] [])) := by
  unfold strconv_Atoi.f at H
  rcases ite_some H with ⟨h, H⟩ | ⟨_, H⟩
  rotate_left
  · cases H
  obtain rfl := Option.some.inj H
  cases hE : Lib.atoiAll x0.data.toList with
  | ok v =>
    refine (Any.strconv_Atoi_ok atoi_lays x0 (by omega) v hE w0).mono ?_
    rintro e w' ⟨rfl, hw⟩
    refine ⟨_, rfl, _, rfl, .inl ⟨rfl, rfl⟩, ?_⟩
    rcases hw with rfl | ⟨t, rfl⟩
    · exact F.refl _
    · exact bytesWorld_sat _ _ _
  | range =>
    obtain ⟨v, hv, tp, p, rfl⟩ := tT.er w0 wT
    refine (Any.strconv_Atoi_range_var atoi_lays x0 h hE tp p w0 hv).mono ?_
    rintro e w' ⟨N, rfl, _, _, hB⟩
    exact ⟨_, rfl, _, rfl, .inr ⟨rfl, _, _, rfl⟩, Sat.ofBelow hB⟩
  | _ =>
    obtain ⟨v, hv, tp, p, rfl⟩ := tT.es w0 wT
    refine (Any.strconv_Atoi_syntax_var atoi_lays x0 h hE tp p w0 hv).mono ?_
    rintro e w' ⟨N, rfl, _, _, hB⟩
    exact ⟨_, rfl, _, rfl, .inr ⟨rfl, _, _, rfl⟩, Sat.ofBelow hB⟩

noncomputable def impl_readNumber.f (x0 : ByteArray) : Option (Int × Bool) :=
  ((strings_TrimPrefix.f x0 (⟨#[45]⟩ : ByteArray)).bind fun y3 => ((strconv_Atoi.f x0).bind fun y6 => (((bif y6.2 then (bif (decide ((y3.size : Int) ≤ 18)) then ((strconv_Itoa.f y6.1).bind fun y20 => (some (y6.1, (y20.toList == x0.toList)))) else (some (y6.1, false))) else (some (y6.1, false))) : Option (Int × Bool)).bind fun o => match o with | (u12, u13) => (some (u12, u13)))))
set_option maxRecDepth 100000 in
set_option maxHeartbeats 0 in
theorem impl_readNumber_t (w0 : World) (x0 : ByteArray) (kT : Chunk) (tT : TabR Tryz.prog kT) (wT : Has w0 kT) (r : Int × Bool) (H : impl_readNumber.f x0 = some r) :
    Calls Tryz.prog 79 #[.string x0] w0 (Ret (fun v w => v = .tuple #[.int .i64 r.1, .bool r.2] ∧ Sat [] w0 w [] [])) := by
  have hs : Sat [] w0 w0 [(1, kT)] [] := Sat.init w0 [(1, kT)] [] (by simp only [List.mem_cons, List.not_mem_nil, or_false]; rintro x (rfl) <;> assumption) (by simp) List.nodup_nil (by simp [blks])
  unfold impl_readNumber.f at H
  refine enter Tryz.func79 rfl Tryz.ntmps79 rfl fun a hk => ?_
  apply wp_seq_k; intro K1 hK1
  apply wp_region_lit
  refine sa _ rfl hk rfl rfl rfl fun a hk => ?_
  refine sa _ rfl hk rfl rfl rfl fun a hk => ?_
  show wpList _ _ _ [] _ _
  refine wpList_nil ?_
  refine hK1 _ _ ?_
  apply wp_seq_k; intro K2 hK2
  apply wp_region_lit
  refine sm _ rfl hk rfl rfl rfl fun a hk => ?_
  obtain ⟨y3, h4, H⟩ := bind_some H
  refine sc rfl en91 hk rfl rfl rfl (strings_TrimPrefix_t _ x0 (⟨#[45]⟩ : ByteArray) _ h4) ?_
  rintro _ w ⟨rfl, hG⟩ a hk
  have hs := hs.call0 hG
  refine sa _ rfl hk rfl rfl rfl fun a hk => ?_
  show wpList _ _ _ [] _ _
  refine wpList_nil ?_
  refine hK2 _ _ ?_
  apply wp_seq_k; intro K5 hK5
  apply wp_region_lit
  refine sm _ rfl hk rfl rfl rfl fun a hk => ?_
  obtain ⟨y6, h7, H⟩ := bind_some H
  refine sc rfl en92 hk rfl rfl rfl (strconv_Atoi_t _ x0 kT tT (hs.hasD (k := 1) rfl) _ h7) ?_
  rintro _ w ⟨e8, rfl, h9, hG⟩ a hk
  have hs := hs.call0 hG
  refine sm _ rfl hk rfl rfl rfl fun a hk => ?_
  refine sv (.int .i64 y6.1) hk rfl rfl rfl fun a hk => ?_
  refine sv e8 hk rfl rfl rfl fun a hk => ?_
  refine sa _ rfl hk rfl rfl rfl fun a hk => ?_
  refine sa _ rfl hk rfl rfl rfl fun a hk => ?_
  show wpList _ _ _ [] _ _
  refine wpList_nil ?_
  refine hK5 _ _ ?_
  apply wp_seq_k; intro K10 hK10
  obtain ⟨o14, h15, HL16⟩ := bind_some H
  clear H
  obtain ⟨R17, hR17⟩ : ∃ R : Act → World → Prop, R = fun a w => ∃ (u12 : Int) (u13 : Bool), (u12, u13) = o14 ∧ Kn [(2, (.int .i64 u12)), (3, (.bool u13))] 28 a ∧ Sat [] w0 w [(1, kT)] [] := ⟨_, rfl⟩
  refine wp_cutq R17 ?_ ?_
  ·have H := h15
   apply wp_region_lit
   refine sm _ rfl hk rfl rfl rfl fun a hk => ?_
   refine sm _ rfl hk rfl rfl rfl fun a hk => ?_
   refine sifn h9 rfl hk rfl rfl rfl uni89 fun a hk => ?_
   refine sm _ rfl hk rfl rfl rfl fun a hk => ?_
   rcases cond_some H with ⟨c18, H⟩ | ⟨c18, H⟩
   ·have hk := hk.lit 17 c18 rfl
    refine sm _ rfl hk rfl rfl rfl fun a hk => ?_
    refine sles rfl hk rfl rfl rfl un9 fun a hk => ?_
    refine sv (.bool (decide ((y3.size : Int) ≤ 18))) hk rfl rfl rfl fun a hk => ?_
    refine sv (.bool (decide ((y3.size : Int) ≤ 18))) hk rfl rfl rfl fun a hk => ?_
    refine sm _ rfl hk rfl rfl rfl fun a hk => ?_
    rcases cond_some H with ⟨c19, H⟩ | ⟨c19, H⟩
    ·have hk := hk.lit 22 c19 rfl
     refine sm _ rfl hk rfl rfl rfl fun a hk => ?_
     obtain ⟨y20, h21, H⟩ := bind_some H
     refine sc rfl en52 hk rfl rfl rfl (strconv_Itoa_t _ y6.1 kT tT (hs.hasD (k := 1) rfl) _ h21) ?_
     rintro _ w ⟨rfl, hG⟩ a hk
     have hs := hs.call0 hG
     refine sm _ rfl hk rfl rfl rfl fun a hk => ?_
     refine sv (.bool (y20.toList == x0.toList)) hk rfl rfl rfl fun a hk => ?_
     refine sv (.bool (y20.toList == x0.toList)) hk rfl rfl rfl fun a hk => ?_
     refine sa _ rfl hk rfl rfl rfl fun a hk => ?_
     refine sa _ rfl hk rfl rfl rfl fun a hk => ?_
     show wpList _ _ _ [] _ _
     refine wpList_nil ?_
     obtain rfl := Option.some.inj H
     show R17 _ _
     rw [hR17]
     exact ⟨y6.1, (y20.toList == x0.toList), rfl, (hk.c 2 rfl (hk.c 3 rfl hk.k)), (hs.pick [] rfl)⟩
    ·have hk := hk.lit 22 c19 rfl
     refine sk hk rfl rfl rfl fun a hk => ?_
     refine sk hk rfl rfl rfl fun a hk => ?_
     refine sk hk rfl rfl rfl fun a hk => ?_
     refine sk hk rfl rfl rfl fun a hk => ?_
     refine sv (.bool false) hk rfl rfl rfl fun a hk => ?_
     refine sa _ rfl hk rfl rfl rfl fun a hk => ?_
     refine sa _ rfl hk rfl rfl rfl fun a hk => ?_
     show wpList _ _ _ [] _ _
     refine wpList_nil ?_
     obtain rfl := Option.some.inj H
     show R17 _ _
     rw [hR17]
     exact ⟨y6.1, false, rfl, (hk.c 2 rfl (hk.c 3 rfl hk.k)), (hs.pick [] rfl)⟩
   ·have hk := hk.lit 17 c18 rfl
    refine sk hk rfl rfl rfl fun a hk => ?_
    refine sk hk rfl rfl rfl fun a hk => ?_
    refine sk hk rfl rfl rfl fun a hk => ?_
    refine sv (.bool false) hk rfl rfl rfl fun a hk => ?_
    refine sm _ rfl hk rfl rfl rfl fun a hk => ?_
    refine sk hk rfl rfl rfl fun a hk => ?_
    refine sk hk rfl rfl rfl fun a hk => ?_
    refine sk hk rfl rfl rfl fun a hk => ?_
    refine sk hk rfl rfl rfl fun a hk => ?_
    refine sv (.bool false) hk rfl rfl rfl fun a hk => ?_
    refine sa _ rfl hk rfl rfl rfl fun a hk => ?_
    refine sa _ rfl hk rfl rfl rfl fun a hk => ?_
    show wpList _ _ _ [] _ _
    refine wpList_nil ?_
    obtain rfl := Option.some.inj H
    show R17 _ _
    rw [hR17]
    exact ⟨y6.1, false, rfl, (hk.c 2 rfl (hk.c 3 rfl hk.k)), (hs.pick [] rfl)⟩
  ·intro a w hR0
   rw [hR17] at hR0
   obtain ⟨u12, u13, rfl, hk, hs⟩ := hR0
   have H := HL16
   try dsimp only at H
   refine hK10 _ _ ?_
   have hs := hs.pick [] rfl
   refine wp_ret ?_
   obtain rfl := Option.some.inj H
   exact fin hk _ [(.int .i64 u12), (.bool u13)] rfl ⟨rfl, ⟨rfl, trivial⟩⟩ ⟨rfl, (hs.pick [] rfl).dnil⟩

noncomputable def impl_readNumbers.s0 (l0 : List ByteArray) (u13 : List Int) (u12 : Int) : Option (((List Int) × Int) ⊕ Ex ((List Int)) ((List Int) × Bool)) :=
  (bif (decide (u12 < (l0.length : Int))) then (if 0 ≤ u12 ∧ u12 < (l0.length : Int) then ((impl_readNumber.f (l0.getD u12.toNat ByteArray.empty)).bind fun y41 => (bif (!y41.2) then (some (.inr (.ret (([] : List Int), false)))) else (if u13.length + ([y41.1]).length ≤ 1073741824 then (some (.inl ((u13 ++ ([y41.1])), (w64 (u12 + 1))))) else none))) else none) else (some (.inr (.out u13))))
noncomputable def impl_readNumbers.f (l0 : List ByteArray) : Option ((List Int) × Bool) :=
  ((loopO (fun s => impl_readNumbers.s0 l0 s.1 s.2) (([] : List Int), 0)).bind fun o => match o with | .out u18 => (some (u18, true)) | .ret r => (some r))
set_option maxRecDepth 100000 in
set_option maxHeartbeats 0 in
theorem impl_readNumbers_t (w0 : World) (A0_ : Option Addr) (p0_ : Nat) (l0 : List ByteArray) (k0_ : Chunk) (v0_ : View Lay.str A0_ p0_ l0 k0_) (w0_ : Has w0 k0_) (kT : Chunk) (tT : TabR Tryz.prog kT) (wT : Has w0 kT) (r : (List Int) × Bool) (H : impl_readNumbers.f l0 = some r) :
    Calls Tryz.prog 54 #[.slice A0_ l0.length p0_] w0 (Ret (fun v w => ∃ (A0 : Option Addr) (p0 : Nat) (k0 : Chunk), v = .tuple #[.slice A0 r.1.length p0, .bool r.2] ∧ Own (Lay.int .i64) 3 A0 p0 r.1 k0 ∧ Sat [] w0 w [] [(0, k0)])) := by
  have hs : Sat [] w0 w0 [(1, k0_), (2, kT)] [] := Sat.init w0 [(1, k0_), (2, kT)] [] (by simp only [List.mem_cons, List.not_mem_nil, or_false]; rintro x (rfl | rfl) <;> assumption) (by simp) List.nodup_nil (by simp [blks])
  unfold impl_readNumbers.f at H
  refine enter Tryz.func54 rfl Tryz.ntmps54 rfl fun a hk => ?_
  apply wp_seq_k; intro K1 hK1
  apply wp_region_lit
  refine sa _ rfl hk rfl rfl rfl fun a hk => ?_
  refine sa _ rfl hk rfl rfl rfl fun a hk => ?_
  show wpList _ _ _ [] _ _
  refine wpList_nil ?_
  refine hK1 _ _ ?_
  apply wp_seq_k; intro K2 hK2
  apply wp_region_lit
  refine sa _ rfl hk rfl rfl rfl fun a hk => ?_
  show wpList _ _ _ [] _ _
  refine wpList_nil ?_
  refine hK2 _ _ ?_
  apply wp_seq_k; intro K3 hK3
  apply wp_seq_k; intro K4 hK4
  apply wp_region_lit
  refine sm _ rfl hk rfl rfl rfl fun a hk => ?_
  refine sle rfl hk rfl rfl rfl un59 fun a hk => ?_
  refine sm _ rfl hk rfl rfl rfl fun a hk => ?_
  show wpList _ _ _ [] _ _
  refine wpList_nil ?_
  refine hK4 _ _ ?_
  obtain ⟨o23, h24, HL25⟩ := bind_some H
  clear H
  obtain ⟨R26, hR26⟩ : ∃ R : Act → World → Prop, R = fun a w => ∃ (u18 : List Int) (A21 : Option Addr) (p22 : Nat) (k19 : Chunk), o23 = .out u18 ∧ Kn [(4, (.slice A21 u18.length p22))] 28 a ∧ Sat [] w0 w [(1, k0_), (2, kT)] [(5, k19)] ∧ Own (Lay.int .i64) 3 A21 p22 u18 k19 := ⟨_, rfl⟩
  refine wp_cutq R26 ?_ ?_
  ·refine wp_block ?_
   obtain ⟨fu28, h24⟩ := loopO_some h24
   obtain ⟨I27, hI27⟩ : ∃ I : Nat → Act → World → Prop, I = fun fu a w => ∃ (u13 : List Int) (u12 : Int) (A16 : Option Addr) (p17 : Nat) (k14 : Chunk), loopN (fun s => impl_readNumbers.s0 l0 s.1 s.2) fu (u13, u12) = some o23 ∧ Kn [(4, (.slice A16 u13.length p17)), (9, (.slice A0_ l0.length p0_)), (10, (.int .i64 (l0.length : Int))), (11, (.int .i64 u12))] 28 a ∧ Sat [] w0 w [(1, k0_), (2, kT)] [(5, k14)] ∧ Own (Lay.int .i64) 3 A16 p17 u13 k14 := ⟨_, rfl⟩
   refine wp_loop_ghost I27 fu28 ?_ ?_
   ·rw [hI27]
    exact ⟨([] : List Int), 0, none, 0, _, h24, (hk.c 4 rfl (hk.c 9 rfl (hk.c 10 rfl (hk.c 11 rfl hk.k)))), ((hs.addNil 1005).pick [(5, 1005)] rfl), Own.nil _ _⟩
   ·clear h24 hk hs
    intro fu28 a w hI0
    rw [hI27] at hI0
    obtain ⟨u13, u12, A16, p17, k14, hi, hk, hs, o15⟩ := hI0
    obtain ⟨x29, H, h30⟩ := loop_round hi
    try dsimp only at H
    unfold impl_readNumbers.s0 at H
    apply wp_seq_k; intro K31 hK31
    apply wp_region_lit
    refine sv (.bool (decide (u12 < (l0.length : Int)))) hk rfl rfl rfl fun a hk => ?_
    show wpList _ _ _ [] _ _
    refine wpList_nil ?_
    refine hK31 _ _ ?_
    have hs := hs.pick [(5, 5)] rfl
    apply wp_seq_k; intro K32 hK32
    rcases cond_some H with ⟨c33, H⟩ | ⟨c33, H⟩
    ·have hk := hk.lit 12 c33 rfl
     refine cnd_true hk rfl rfl ?_
     refine wp_skip ?_
     refine hK32 _ _ ?_
     apply wp_seq_k; intro K34 hK34
     refine wp_block ?_
     apply wp_seq_k; intro K35 hK35
     apply wp_region_lit
     rcases ite_some H with ⟨c36, H⟩ | ⟨_, H⟩
     rotate_left
     ·cases H
     obtain ⟨b37, q38, hAc36⟩ := (v0_).some_ u12 c36.1 c36.2
     refine si rfl hk rfl rfl rfl rfl un59 sz9 c36.1 c36.2 hAc36 fun a hk => ?_
     obtain ⟨_, rfl, e39⟩ := (v0_).at_ ByteArray.empty u12 c36.1 c36.2
     refine sl (v := (.string (l0.getD u12.toNat ByteArray.empty))) rfl hk rfl rfl rfl ag9 ((e39 0 _ rfl).cell (hs.hasD (k := 1) rfl)) fun a hk => ?_
     refine sa _ rfl hk rfl rfl rfl fun a hk => ?_
     show wpList _ _ _ [] _ _
     refine wpList_nil ?_
     refine hK35 _ _ ?_
     apply wp_seq_k; intro K40 hK40
     apply wp_region_lit
     refine sm _ rfl hk rfl rfl rfl fun a hk => ?_
     obtain ⟨y41, h42, H⟩ := bind_some H
     refine sc rfl en79 hk rfl rfl rfl (impl_readNumber_t _ (l0.getD u12.toNat ByteArray.empty) kT tT (hs.hasD (k := 2) rfl) _ h42) ?_
     rintro _ w ⟨rfl, hG⟩ a hk
     have hs := hs.call0 hG
     refine sm _ rfl hk rfl rfl rfl fun a hk => ?_
     refine sv (.int .i64 y41.1) hk rfl rfl rfl fun a hk => ?_
     refine sv (.bool y41.2) hk rfl rfl rfl fun a hk => ?_
     refine sa _ rfl hk rfl rfl rfl fun a hk => ?_
     refine sa _ rfl hk rfl rfl rfl fun a hk => ?_
     show wpList _ _ _ [] _ _
     refine wpList_nil ?_
     refine hK40 _ _ ?_
     apply wp_seq_k; intro K43 hK43
     apply wp_seq_k; intro K44 hK44
     apply wp_region_lit
     refine sm _ rfl hk rfl rfl rfl fun a hk => ?_
     refine sv (.bool (!y41.2)) hk rfl rfl rfl fun a hk => ?_
     show wpList _ _ _ [] _ _
     refine wpList_nil ?_
     refine hK44 _ _ ?_
     have hs := hs.pick [(5, 5)] rfl
     rcases cond_some H with ⟨c45, H⟩ | ⟨c45, H⟩
     ·have hk := hk.lit 21 c45 rfl
      refine cnd_true hk rfl rfl ?_
      apply wp_seq_k; intro K46 hK46
      apply wp_region_lit
      refine sa _ rfl hk rfl rfl rfl fun a hk => ?_
      refine sa _ rfl hk rfl rfl rfl fun a hk => ?_
      show wpList _ _ _ [] _ _
      refine wpList_nil ?_
      refine hK46 _ _ ?_
      refine wp_ret ?_
      obtain rfl := Option.some.inj H
      have ho23 := h30
      try dsimp only at ho23
      subst ho23
      have H := HL25
      try dsimp only at H
      obtain rfl := Option.some.inj H
      have hs := hs.addNil 6
      exact fin hk _ [(.slice none 0 0), (.bool false)] rfl ⟨rfl, ⟨rfl, trivial⟩⟩ ⟨none, 0, [], rfl, Own.nil _ _, (hs.pick [(0, 6)] rfl).dnil⟩
     ·have hk := hk.lit 21 c45 rfl
      refine cnd_false hk rfl rfl ?_
      refine wp_skip ?_
      refine hK43 _ _ ?_
      apply wp_region_lit
      refine sm _ rfl hk rfl rfl rfl fun a hk => ?_
      refine sm _ rfl hk rfl rfl rfl fun a hk => ?_
      refine sbs (L := (Lay.int .i64)) (pv := [(0, (.int .i64 y41.1))]) (xs := [y41.1]) (ess := [[.int .i64 y41.1]]) 7 hs rfl hk rfl rfl rfl un72 (bs3_1 y41.1) (AllOwn.cons0 ⟨rfl, rfl⟩ AllOwn.nil) rfl rfl rfl fun b47 k48 w a hk o49 hs => ?_
      rcases ite_some H with ⟨c50, H⟩ | ⟨_, H⟩
      rotate_left
      ·cases H
      refine sap 5 (xs := u13) (ys := [y41.1]) (flat_flat : ((Lay.int .i64)).Flat) hs rfl o15 o49.view (hs.hasG (k := 7) rfl) rfl hk rfl rfl rfl rfl rfl rfl un72 mk3 rfl rfl rfl c50 fun A51 p52 k53 w a hk o54 hs => ?_
      refine sa _ rfl hk rfl rfl rfl fun a hk => ?_
      show wpList _ _ _ [] _ _
      refine wpList_nil ?_
      refine hK34 _ _ ?_
      apply wp_region_lit
      refine sv (.int .i64 (w64 (u12 + 1))) hk rfl rfl rfl fun a hk => ?_
      refine sm _ rfl hk rfl rfl rfl fun a hk => ?_
      show wpList _ _ _ [] _ _
      refine wpList_nil ?_
      obtain rfl := Option.some.inj H
      obtain ⟨m55, hmm55, h30⟩ := h30
      show ∃ n', n' < _ ∧ I27 n' _ _
      refine ⟨m55, hmm55, ?_⟩
      rw [hI27]
      exact ⟨(u13 ++ ([y41.1])), (w64 (u12 + 1)), A51, p52, _, h30, (hk.c 4 rfl (hk.c 9 rfl (hk.c 10 rfl (hk.c 11 rfl hk.k)))), (hs.pick [(5, 5)] rfl), o54⟩
    ·have hk := hk.lit 12 c33 rfl
     refine cnd_false hk rfl rfl ?_
     refine wp_exit ?_
     obtain rfl := Option.some.inj H
     show R26 _ _
     rw [hR26]
     exact ⟨u13, A16, p17, _, h30.symm, (hk.c 4 rfl hk.k), (hs.pick [(5, 5)] rfl), o15⟩
  ·intro a w hR0
   rw [hR26] at hR0
   obtain ⟨u18, A21, p22, k19, rfl, hk, hs, o20⟩ := hR0
   have H := HL25
   try dsimp only at H
   refine hK3 _ _ ?_
   have hs := hs.pick [(5, 5)] rfl
   apply wp_seq_k; intro K56 hK56
   apply wp_region_lit
   refine sm _ rfl hk rfl rfl rfl fun a hk => ?_
   refine sa _ rfl hk rfl rfl rfl fun a hk => ?_
   refine sa _ rfl hk rfl rfl rfl fun a hk => ?_
   show wpList _ _ _ [] _ _
   refine wpList_nil ?_
   refine hK56 _ _ ?_
   refine wp_ret ?_
   obtain rfl := Option.some.inj H
   exact fin hk _ [(.slice A21 u18.length p22), (.bool true)] rfl ⟨rfl, ⟨rfl, trivial⟩⟩ ⟨A21, p22, _, rfl, o20, (hs.pick [(0, 5)] rfl).dnil⟩

noncomputable def slices_Index_string_string.s0 (l0 : List ByteArray) (x1 : ByteArray) (u6 : Int) : Option ((Int) ⊕ Ex (Unit) (Int)) :=
  (bif (decide (u6 < (l0.length : Int))) then (if 0 ≤ u6 ∧ u6 < (l0.length : Int) then (bif (x1.toList == (l0.getD u6.toNat ByteArray.empty).toList) then (some (.inr (.ret u6))) else (some (.inl (w64 (u6 + 1))))) else none) else (some (.inr (.out ()))))
noncomputable def slices_Index_string_string.f (l0 : List ByteArray) (x1 : ByteArray) : Option (Int) :=
  ((loopO (fun s => slices_Index_string_string.s0 l0 x1 s) 0).bind fun o => match o with | .out _ => (some (-1)) | .ret r => (some r))
set_option maxRecDepth 100000 in
set_option maxHeartbeats 0 in
theorem slices_Index_string_string_t (w0 : World) (A0_ : Option Addr) (p0_ : Nat) (l0 : List ByteArray) (k0_ : Chunk) (v0_ : View Lay.str A0_ p0_ l0 k0_) (w0_ : Has w0 k0_) (x1 : ByteArray) (r : Int) (H : slices_Index_string_string.f l0 x1 = some r) :
    Calls Tryz.prog 55 #[.slice A0_ l0.length p0_, .string x1] w0 (Ret (fun v w => v = .int .i64 r ∧ Sat [] w0 w [] [])) := by
  have hs : Sat [] w0 w0 [(1, k0_)] [] := Sat.init w0 [(1, k0_)] [] (by simp only [List.mem_cons, List.not_mem_nil, or_false]; rintro x (rfl) <;> assumption) (by simp) List.nodup_nil (by simp [blks])
  unfold slices_Index_string_string.f at H
  refine enter Tryz.func55 rfl Tryz.ntmps55 rfl fun a hk => ?_
  apply wp_seq_k; intro K1 hK1
  apply wp_region_lit
  refine sa _ rfl hk rfl rfl rfl fun a hk => ?_
  show wpList _ _ _ [] _ _
  refine wpList_nil ?_
  refine hK1 _ _ ?_
  apply wp_seq_k; intro K2 hK2
  apply wp_seq_k; intro K3 hK3
  apply wp_region_lit
  refine sm _ rfl hk rfl rfl rfl fun a hk => ?_
  refine sle rfl hk rfl rfl rfl un59 fun a hk => ?_
  refine sm _ rfl hk rfl rfl rfl fun a hk => ?_
  show wpList _ _ _ [] _ _
  refine wpList_nil ?_
  refine hK3 _ _ ?_
  obtain ⟨o7, h8, HL9⟩ := bind_some H
  clear H
  obtain ⟨R10, hR10⟩ : ∃ R : Act → World → Prop, R = fun a w => o7 = .out () ∧ Kn [] 19 a ∧ Sat [] w0 w [(1, k0_)] [] := ⟨_, rfl⟩
  refine wp_cutq R10 ?_ ?_
  ·refine wp_block ?_
   obtain ⟨fu12, h8⟩ := loopO_some h8
   obtain ⟨I11, hI11⟩ : ∃ I : Nat → Act → World → Prop, I = fun fu a w => ∃ (u6 : Int), loopN (fun s => slices_Index_string_string.s0 l0 x1 s) fu u6 = some o7 ∧ Kn [(0, (.slice A0_ l0.length p0_)), (1, (.string x1)), (7, (.int .i64 (l0.length : Int))), (8, (.int .i64 u6))] 19 a ∧ Sat [] w0 w [(1, k0_)] [] := ⟨_, rfl⟩
   refine wp_loop_ghost I11 fu12 ?_ ?_
   ·rw [hI11]
    exact ⟨0, h8, (hk.c 0 rfl (hk.c 1 rfl (hk.c 7 rfl (hk.c 8 rfl hk.k)))), (hs.pick [] rfl)⟩
   ·clear h8 hk hs
    intro fu12 a w hI0
    rw [hI11] at hI0
    obtain ⟨u6, hi, hk, hs⟩ := hI0
    obtain ⟨x13, H, h14⟩ := loop_round hi
    try dsimp only at H
    unfold slices_Index_string_string.s0 at H
    apply wp_seq_k; intro K15 hK15
    apply wp_region_lit
    refine sv (.bool (decide (u6 < (l0.length : Int)))) hk rfl rfl rfl fun a hk => ?_
    show wpList _ _ _ [] _ _
    refine wpList_nil ?_
    refine hK15 _ _ ?_
    apply wp_seq_k; intro K16 hK16
    rcases cond_some H with ⟨c17, H⟩ | ⟨c17, H⟩
    ·have hk := hk.lit 9 c17 rfl
     refine cnd_true hk rfl rfl ?_
     refine wp_skip ?_
     refine hK16 _ _ ?_
     have hs := hs.pick [] rfl
     apply wp_seq_k; intro K18 hK18
     refine wp_block ?_
     apply wp_seq_k; intro K19 hK19
     apply wp_region_lit
     refine sm _ rfl hk rfl rfl rfl fun a hk => ?_
     refine sa _ rfl hk rfl rfl rfl fun a hk => ?_
     show wpList _ _ _ [] _ _
     refine wpList_nil ?_
     refine hK19 _ _ ?_
     apply wp_seq_k; intro K20 hK20
     apply wp_region_lit
     refine sm _ rfl hk rfl rfl rfl fun a hk => ?_
     refine sm _ rfl hk rfl rfl rfl fun a hk => ?_
     refine sm _ rfl hk rfl rfl rfl fun a hk => ?_
     rcases ite_some H with ⟨c21, H⟩ | ⟨_, H⟩
     rotate_left
     ·cases H
     obtain ⟨b22, q23, hAc21⟩ := (v0_).some_ u6 c21.1 c21.2
     refine si rfl hk rfl rfl rfl rfl un59 sz9 c21.1 c21.2 hAc21 fun a hk => ?_
     obtain ⟨_, rfl, e24⟩ := (v0_).at_ ByteArray.empty u6 c21.1 c21.2
     refine sl (v := (.string (l0.getD u6.toNat ByteArray.empty))) rfl hk rfl rfl rfl ag9 ((e24 0 _ rfl).cell (hs.hasD (k := 1) rfl)) fun a hk => ?_
     refine sv (.bool (x1.toList == (l0.getD u6.toNat ByteArray.empty).toList)) hk rfl rfl rfl fun a hk => ?_
     show wpList _ _ _ [] _ _
     refine wpList_nil ?_
     refine hK20 _ _ ?_
     rcases cond_some H with ⟨c25, H⟩ | ⟨c25, H⟩
     ·have hk := hk.lit 16 c25 rfl
      refine cnd_true hk rfl rfl ?_
      apply wp_seq_k; intro K26 hK26
      apply wp_region_lit
      refine sm _ rfl hk rfl rfl rfl fun a hk => ?_
      refine sa _ rfl hk rfl rfl rfl fun a hk => ?_
      show wpList _ _ _ [] _ _
      refine wpList_nil ?_
      refine hK26 _ _ ?_
      refine wp_ret ?_
      obtain rfl := Option.some.inj H
      have ho7 := h14
      try dsimp only at ho7
      subst ho7
      have H := HL9
      try dsimp only at H
      obtain rfl := Option.some.inj H
      exact fin hk _ [(.int .i64 u6)] rfl ⟨rfl, trivial⟩ ⟨rfl, (hs.pick [] rfl).dnil⟩
     ·have hk := hk.lit 16 c25 rfl
      refine cnd_false hk rfl rfl ?_
      refine wp_skip ?_
      refine hK18 _ _ ?_
      apply wp_region_lit
      refine sv (.int .i64 (w64 (u6 + 1))) hk rfl rfl rfl fun a hk => ?_
      refine sm _ rfl hk rfl rfl rfl fun a hk => ?_
      show wpList _ _ _ [] _ _
      refine wpList_nil ?_
      obtain rfl := Option.some.inj H
      obtain ⟨m27, hmm27, h14⟩ := h14
      show ∃ n', n' < _ ∧ I11 n' _ _
      refine ⟨m27, hmm27, ?_⟩
      rw [hI11]
      exact ⟨(w64 (u6 + 1)), h14, (hk.c 0 rfl (hk.c 1 rfl (hk.c 7 rfl (hk.c 8 rfl hk.k)))), (hs.pick [] rfl)⟩
    ·have hk := hk.lit 9 c17 rfl
     refine cnd_false hk rfl rfl ?_
     refine wp_exit ?_
     obtain rfl := Option.some.inj H
     show R10 _ _
     rw [hR10]
     exact ⟨h14.symm, hk.k, (hs.pick [] rfl)⟩
  ·intro a w hR0
   rw [hR10] at hR0
   obtain ⟨rfl, hk, hs⟩ := hR0
   have H := HL9
   try dsimp only at H
   refine hK2 _ _ ?_
   apply wp_seq_k; intro K28 hK28
   apply wp_region_lit
   refine sa _ rfl hk rfl rfl rfl fun a hk => ?_
   show wpList _ _ _ [] _ _
   refine wpList_nil ?_
   refine hK28 _ _ ?_
   have hs := hs.pick [] rfl
   refine wp_ret ?_
   obtain rfl := Option.some.inj H
   exact fin hk _ [(.int .i64 (-1))] rfl ⟨rfl, trivial⟩ ⟨rfl, (hs.pick [] rfl).dnil⟩

noncomputable def impl_readOp.f (x0 : ByteArray) : Option (S_Op × Bool) :=
  ((impl_wordsOf.f x0).bind fun y4 => (bif ((y4.length : Int) == 0) then (some ((⟨0, 0, 0⟩ : S_Op), false)) else (if 0 ≤ (1 : Int) ∧ (1 : Int) ≤ (y4.length : Int) then ((impl_readNumbers.f (y4.drop (1 : Int).toNat)).bind fun y18 => (if 0 ≤ (0 : Int) ∧ (0 : Int) < (y4.length : Int) then ((impl_opWords.f).bind fun y_r25_0_1 => ((slices_Index_string_string.f y_r25_0_1 (y4.getD (0 : Int).toNat ByteArray.empty)).bind fun y_r25_4_1 => (((bif (!y18.2) then (some true) else (some (decide (y_r25_4_1 < 1)))) : Option (Bool)).bind fun u30 => (bif u30 then (some ((⟨0, 0, 0⟩ : S_Op), false)) else (((bif ((y18.1.length : Int) == 1) then ((impl_isBare.f y_r25_4_1).bind fun y46 => (some y46)) else (some false)) : Option (Bool)).bind fun u40 => (((bif u40 then (if 0 ≤ (0 : Int) ∧ (0 : Int) < (y18.1.length : Int) then (some ((y18.1.getD (0 : Int).toNat 0), 0)) else none) else (((bif ((y18.1.length : Int) == 2) then ((impl_isBare.f y_r25_4_1).bind fun y68 => (some (!y68))) else (some false)) : Option (Bool)).bind fun u62 => (((bif u62 then (if 0 ≤ (0 : Int) ∧ (0 : Int) < (y18.1.length : Int) then (if 0 ≤ (1 : Int) ∧ (1 : Int) < (y18.1.length : Int) then (some ((y18.1.getD (0 : Int).toNat 0), (y18.1.getD (1 : Int).toNat 0))) else none) else none) else (some (0, 0))) : Option (Int × Int)).bind fun o => match o with | (u71, u72) => (some (u71, u72))))) : Option (Int × Int)).bind fun o => match o with | (u49, u50) => ((impl_OpOK.f (⟨y_r25_4_1, u49, u50⟩ : S_Op)).bind fun y89 => (bif (!y89) then (some ((⟨0, 0, 0⟩ : S_Op), false)) else (some ((⟨y_r25_4_1, u49, u50⟩ : S_Op), true)))))))))) else none)) else none)))
set_option maxRecDepth 100000 in
set_option maxHeartbeats 0 in
theorem impl_readOp_t (w0 : World) (x0 : ByteArray) (kT : Chunk) (tT : TabR Tryz.prog kT) (wT : Has w0 kT) (r : S_Op × Bool) (H : impl_readOp.f x0 = some r) :
    Calls Tryz.prog 30 #[.string x0] w0 (Ret (fun v w => v = .tuple #[.agg #[.int .i64 r.1.Kind, .int .i64 r.1.Key, .int .i64 r.1.Value], .bool r.2] ∧ Sat [] w0 w [] [])) := by
  have hs : Sat [] w0 w0 [(1, kT)] [] := Sat.init w0 [(1, kT)] [] (by simp only [List.mem_cons, List.not_mem_nil, or_false]; rintro x (rfl) <;> assumption) (by simp) List.nodup_nil (by simp [blks])
  unfold impl_readOp.f at H
  refine enter Tryz.func30 rfl Tryz.ntmps30 rfl fun a hk => ?_
  apply wp_seq_k; intro K1 hK1
  apply wp_region_lit
  refine salx 2 hs rfl hk rfl rfl ze33 rfl fun b2 w a hk hs => ?_
  refine sa _ rfl hk rfl rfl rfl fun a hk => ?_
  show wpList _ _ _ [] _ _
  refine wpList_nil ?_
  refine hK1 _ _ ?_
  apply wp_seq_k; intro K3 hK3
  apply wp_region_lit
  refine sm _ rfl hk rfl rfl rfl fun a hk => ?_
  obtain ⟨y4, h5, H⟩ := bind_some H
  refine sc rfl en53 hk rfl rfl rfl (impl_wordsOf_t _ x0 kT tT (hs.hasD (k := 1) rfl) _ h5) ?_
  rintro _ w ⟨A6, p7, k8, rfl, o9, hG⟩ a hk
  have hs := hs.call0k hG [3] rfl
  refine sa _ rfl hk rfl rfl rfl fun a hk => ?_
  show wpList _ _ _ [] _ _
  refine wpList_nil ?_
  refine hK3 _ _ ?_
  apply wp_seq_k; intro K10 hK10
  apply wp_seq_k; intro K11 hK11
  apply wp_region_lit
  refine sm _ rfl hk rfl rfl rfl fun a hk => ?_
  refine sle rfl hk rfl rfl rfl un59 fun a hk => ?_
  refine sv (.bool ((y4.length : Int) == 0)) hk rfl rfl rfl fun a hk => ?_
  show wpList _ _ _ [] _ _
  refine wpList_nil ?_
  refine hK11 _ _ ?_
  rcases cond_some H with ⟨c12, H⟩ | ⟨c12, H⟩
  ·have hk := hk.lit 12 c12 rfl
   refine cnd_true hk rfl rfl ?_
   apply wp_seq_k; intro K13 hK13
   apply wp_region_lit
   refine sbd (pv := []) rfl hk rfl rfl rfl bd33_2 fun a hk => ?_
   refine ssw 2 hs rfl rfl hk rfl rfl rfl rfl sz33 (by simp [Value.oneCell']) rfl fun w a hk hs => ?_
   refine sa _ rfl hk rfl rfl rfl fun a hk => ?_
   show wpList _ _ _ [] _ _
   refine wpList_nil ?_
   refine hK13 _ _ ?_
   have hs := hs.pick [(2, 2)] rfl
   refine wp_ret ?_
   obtain rfl := Option.some.inj H
   exact fin hk _ [(.agg #[.int .i64 0, .int .i64 0, .int .i64 0]), (.bool false)] rfl ⟨⟨_, rfl, run_loadN ag33 sz33 (box_cells hs (k := 2) rfl)⟩, ⟨rfl, trivial⟩⟩ ⟨rfl, (hs.pick [] rfl).dnil⟩
  ·have hk := hk.lit 12 c12 rfl
   refine cnd_false hk rfl rfl ?_
   refine wp_skip ?_
   refine hK10 _ _ ?_
   have hs := hs.pick [(3, 3), (2, 2)] rfl
   apply wp_seq_k; intro K14 hK14
   apply wp_region_lit
   refine sm _ rfl hk rfl rfl rfl fun a hk => ?_
   rcases ite_some H with ⟨c15, H⟩ | ⟨_, H⟩
   rotate_left
   ·cases H
   refine sll_l rfl hk rfl rfl rfl rfl un59 sz9 c15.1 c15.2 fun a hk => ?_
   have v16 : View Lay.str (if p7 = (1 : Int).toNat then A6 else (A6 : Option Addr).map (·.add ((1 : Int).toNat * 1))) (p7 - (1 : Int).toNat) (y4.drop (1 : Int).toNat) k8 := (o9.view).dropv (1 : Int).toNat (by omega)
   have lh17 : (y4.drop (1 : Int).toNat).length = (y4.length - (1 : Int).toNat) := (by rw [List.length_drop])
   have hk := hk.re 16 (v' := (.slice (if p7 = (1 : Int).toNat then A6 else (A6 : Option Addr).map (·.add ((1 : Int).toNat * 1))) (y4.drop (1 : Int).toNat).length (p7 - (1 : Int).toNat))) rfl (by rw [lh17])
   obtain ⟨y18, h19, H⟩ := bind_some H
   refine sc rfl en54 hk rfl rfl rfl (impl_readNumbers_t _ (if p7 = (1 : Int).toNat then A6 else (A6 : Option Addr).map (·.add ((1 : Int).toNat * 1))) (p7 - (1 : Int).toNat) (y4.drop (1 : Int).toNat) _ v16 (hs.hasG (k := 3) rfl) kT tT (hs.hasD (k := 1) rfl) _ h19) ?_
   rintro _ w ⟨A20, p21, k22, rfl, o23, hG⟩ a hk
   have hs := hs.call0k hG [4] rfl
   refine sm _ rfl hk rfl rfl rfl fun a hk => ?_
   refine sv (.slice A20 y18.1.length p21) hk rfl rfl rfl fun a hk => ?_
   refine sv (.bool y18.2) hk rfl rfl rfl fun a hk => ?_
   refine sa _ rfl hk rfl rfl rfl fun a hk => ?_
   refine sa _ rfl hk rfl rfl rfl fun a hk => ?_
   show wpList _ _ _ [] _ _
   refine wpList_nil ?_
   refine hK14 _ _ ?_
   apply wp_seq_k; intro K24 hK24
   rcases ite_some H with ⟨c_r25_2_1, H⟩ | ⟨_, H⟩
   rotate_left
   ·cases H
   obtain ⟨y_r25_0_1, h_r25_0_2, H⟩ := bind_some H
   obtain ⟨y_r25_4_1, h_r25_4_2, H⟩ := bind_some H
   obtain ⟨R26, hR26⟩ : ∃ R : Act → World → Prop, R = fun a w => ∃ (b_r25_6_1 : Nat), Kn [(2, (.pointer (some ⟨b2, 0, none⟩))), (5, (.slice A20 y18.1.length p21)), (6, (.bool y18.2)), (7, (.pointer (some ⟨b_r25_6_1, 0, none⟩)))] 71 a ∧ Sat [] w0 w [(1, kT)] [(4, k22), (2, [(b2, .cells #[.int .i64 0, .int .i64 0, .int .i64 0] 33 (0, 0))]), (105121, [(b_r25_6_1, .cells #[.int .i64 y_r25_4_1, .int .i64 0, .int .i64 0] 33 (0, 0))])] := ⟨_, rfl⟩
   refine wp_cutq R26 ?_ ?_
   ·skip
    refine wp_region_tree (.q 1 (.q 2 (.q 3 (.alt 0 (.alt 4 (.q 5 (.alt 6 (.last 7) .stop)) (.alt 6 (.alt 4 (.alt 5 (.last 7) .stop) .stop) .stop)) (.alt 6 (.alt 0 (.alt 4 (.alt 5 (.last 7) .stop) .stop) .stop) .stop))))) mo (by kernel_rfl) (hs.pick [(4, 4), (3, 3), (2, 2)] rfl) fun _ => ?_
    have hs := hs.drew
    refine tqst (.slice A6 y4.length p7) hk rfl rfl rfl rfl (fun w hs => sm _ rfl hk rfl rfl rfl fun a hk => qe hk) fun a hk => ?_
    obtain ⟨b_r25_2_2, q_r25_2_3, hAc_r25_2_1⟩ := (o9.view).some_ (0 : Int) c_r25_2_1.1 c_r25_2_1.2
    refine tqst (.pointer (some (padd A6 ((0 : Int).toNat * 1)))) hk rfl rfl rfl rfl (fun w hs => si rfl hk rfl rfl rfl rfl un59 sz9 c_r25_2_1.1 c_r25_2_1.2 hAc_r25_2_1 fun a hk => qe hk) fun a hk => ?_
    obtain ⟨_, rfl, e_r25_3_1⟩ := (o9.view).at_ ByteArray.empty (0 : Int) c_r25_2_1.1 c_r25_2_1.2
    refine tqst (.string (y4.getD (0 : Int).toNat ByteArray.empty)) hk rfl rfl rfl rfl (fun w hs => sl (v := (.string (y4.getD (0 : Int).toNat ByteArray.empty))) rfl hk rfl rfl rfl ag9 ((e_r25_3_1 0 _ rfl).cell (hs.hasG (k := 3) rfl)) fun a hk => qe hk) fun a hk => ?_
    refine tsst hk rfl rfl (fun K_r25_0 hK_r25_0 w hF => ?_) ?_
    ·skip
     have hs := hs.f hF
     refine sc rfl en51 hk rfl rfl rfl (impl_opWords_t _ _ h_r25_0_2) ?_
     rintro _ w ⟨A_r25_0_3, p_r25_0_4, k_r25_0_5, rfl, o_r25_0_6, hG⟩ a hk
     have hs := hs.call0k hG [105001] rfl
     refine se (hs.pick [(4, 4), (3, 3), (2, 2)] rfl) hk (hK_r25_0 _ _ ?_)
     refine tsst hk rfl rfl (fun K_r25_4 hK_r25_4 w hF => ?_) ?_
     ·skip
      have hs := hs.f hF
      refine sc rfl en55 hk rfl rfl rfl (slices_Index_string_string_t _ A_r25_0_3 p_r25_0_4 y_r25_0_1 _ o_r25_0_6.view (hs.hasG (k := 105001) rfl) (y4.getD (0 : Int).toNat ByteArray.empty) _ h_r25_4_2) ?_
      rintro _ w ⟨rfl, hG⟩ a hk
      have hs := hs.call0 hG
      refine se (hs.pick [(4, 4), (3, 3), (2, 2)] rfl) hk (hK_r25_4 _ _ ?_)
      refine tqst (.agg #[.int .i64 y_r25_4_1, .int .i64 0, .int .i64 0]) hk rfl rfl rfl rfl (fun w hs => sbd (pv := [(0, (.int .i64 y_r25_4_1))]) rfl hk rfl rfl rfl (bd33_3 y_r25_4_1) fun a hk => qe hk) fun a hk => ?_
      refine tsst hk rfl rfl (fun K_r25_6 hK_r25_6 w hF => ?_) wt_stop
      have hs := hs.f hF
      refine salx 105121 hs rfl hk rfl rfl ze33 rfl fun b_r25_6_1 w a hk hs => ?_
      refine se (hs.pick [(4, 4), (3, 3), (2, 2)] rfl) hk (hK_r25_6 _ _ ?_)
      refine tlst hk rfl rfl fun K_r25_7 hK_r25_7 w hF => ?_
      have hs := hs.f hF
      refine ssw 105121 hs rfl rfl hk rfl rfl rfl rfl sz33 (by simp [Value.oneCell']) rfl fun w a hk hs => ?_
      refine se trivial hk (hK_r25_7 _ _ fun w hF => ?_)
      have hs := hs.f hF
      show R26 _ _
      rw [hR26]
      exact ⟨b_r25_6_1, (hk.c 2 rfl (hk.c 5 rfl (hk.c 6 rfl (hk.c 7 rfl hk.k)))), (hs.pick [(4, 4), (2, 2), (105121, 105121)] rfl)⟩
     refine tsst hk rfl rfl (fun K_r25_6 hK_r25_6 w hF => ?_) wt_stop
     have hs := hs.f hF
     refine salx 105121 hs rfl hk rfl rfl ze33 rfl fun b_r25_6_1 w a hk hs => ?_
     refine se (hs.pick [(4, 4), (3, 3), (2, 2)] rfl) hk (hK_r25_6 _ _ ?_)
     refine tsst hk rfl rfl (fun K_r25_4 hK_r25_4 w hF => ?_) wt_stop
     have hs := hs.f hF
     refine sc rfl en55 hk rfl rfl rfl (slices_Index_string_string_t _ A_r25_0_3 p_r25_0_4 y_r25_0_1 _ o_r25_0_6.view (hs.hasG (k := 105001) rfl) (y4.getD (0 : Int).toNat ByteArray.empty) _ h_r25_4_2) ?_
     rintro _ w ⟨rfl, hG⟩ a hk
     have hs := hs.call0 hG
     refine se (hs.pick [(4, 4), (3, 3), (2, 2)] rfl) hk (hK_r25_4 _ _ ?_)
     refine tsst hk rfl rfl (fun K_r25_5 hK_r25_5 w hF => ?_) wt_stop
     have hs := hs.f hF
     refine sbd (pv := [(0, (.int .i64 y_r25_4_1))]) rfl hk rfl rfl rfl (bd33_3 y_r25_4_1) fun a hk => ?_
     refine se (hs.pick [(4, 4), (3, 3), (2, 2)] rfl) hk (hK_r25_5 _ _ ?_)
     refine tlst hk rfl rfl fun K_r25_7 hK_r25_7 w hF => ?_
     have hs := hs.f hF
     refine ssw 105121 hs rfl rfl hk rfl rfl rfl rfl sz33 (by simp [Value.oneCell']) rfl fun w a hk hs => ?_
     refine se trivial hk (hK_r25_7 _ _ fun w hF => ?_)
     have hs := hs.f hF
     show R26 _ _
     rw [hR26]
     exact ⟨b_r25_6_1, (hk.c 2 rfl (hk.c 5 rfl (hk.c 6 rfl (hk.c 7 rfl hk.k)))), (hs.pick [(4, 4), (2, 2), (105121, 105121)] rfl)⟩
    refine tsst hk rfl rfl (fun K_r25_6 hK_r25_6 w hF => ?_) wt_stop
    have hs := hs.f hF
    refine salx 105121 hs rfl hk rfl rfl ze33 rfl fun b_r25_6_1 w a hk hs => ?_
    refine se (hs.pick [(4, 4), (3, 3), (2, 2)] rfl) hk (hK_r25_6 _ _ ?_)
    refine tsst hk rfl rfl (fun K_r25_0 hK_r25_0 w hF => ?_) wt_stop
    have hs := hs.f hF
    refine sc rfl en51 hk rfl rfl rfl (impl_opWords_t _ _ h_r25_0_2) ?_
    rintro _ w ⟨A_r25_0_3, p_r25_0_4, k_r25_0_5, rfl, o_r25_0_6, hG⟩ a hk
    have hs := hs.call0k hG [105001] rfl
    refine se (hs.pick [(4, 4), (3, 3), (2, 2)] rfl) hk (hK_r25_0 _ _ ?_)
    refine tsst hk rfl rfl (fun K_r25_4 hK_r25_4 w hF => ?_) wt_stop
    have hs := hs.f hF
    refine sc rfl en55 hk rfl rfl rfl (slices_Index_string_string_t _ A_r25_0_3 p_r25_0_4 y_r25_0_1 _ o_r25_0_6.view (hs.hasG (k := 105001) rfl) (y4.getD (0 : Int).toNat ByteArray.empty) _ h_r25_4_2) ?_
    rintro _ w ⟨rfl, hG⟩ a hk
    have hs := hs.call0 hG
    refine se (hs.pick [(4, 4), (3, 3), (2, 2)] rfl) hk (hK_r25_4 _ _ ?_)
    refine tsst hk rfl rfl (fun K_r25_5 hK_r25_5 w hF => ?_) wt_stop
    have hs := hs.f hF
    refine sbd (pv := [(0, (.int .i64 y_r25_4_1))]) rfl hk rfl rfl rfl (bd33_3 y_r25_4_1) fun a hk => ?_
    refine se (hs.pick [(4, 4), (3, 3), (2, 2)] rfl) hk (hK_r25_5 _ _ ?_)
    refine tlst hk rfl rfl fun K_r25_7 hK_r25_7 w hF => ?_
    have hs := hs.f hF
    refine ssw 105121 hs rfl rfl hk rfl rfl rfl rfl sz33 (by simp [Value.oneCell']) rfl fun w a hk hs => ?_
    refine se trivial hk (hK_r25_7 _ _ fun w hF => ?_)
    have hs := hs.f hF
    show R26 _ _
    rw [hR26]
    exact ⟨b_r25_6_1, (hk.c 2 rfl (hk.c 5 rfl (hk.c 6 rfl (hk.c 7 rfl hk.k)))), (hs.pick [(4, 4), (2, 2), (105121, 105121)] rfl)⟩
   ·intro a w hR0
    rw [hR26] at hR0
    obtain ⟨b_r25_6_1, hk, hs⟩ := hR0
    refine hK24 _ _ ?_
    apply wp_seq_k; intro K27 hK27
    refine wp_block ?_
    apply wp_seq_k; intro K28 hK28
    obtain ⟨o31, h32, HL33⟩ := bind_some H
    clear H
    obtain ⟨R34, hR34⟩ : ∃ R : Act → World → Prop, R = fun a w => ∃ (u30 : Bool), u30 = o31 ∧ Kn [(2, (.pointer (some ⟨b2, 0, none⟩))), (5, (.slice A20 y18.1.length p21)), (7, (.pointer (some ⟨b_r25_6_1, 0, none⟩))), (26, (.bool u30))] 71 a ∧ Sat [] w0 w [(1, kT)] [(4, k22), (2, [(b2, .cells #[.int .i64 0, .int .i64 0, .int .i64 0] 33 (0, 0))]), (105121, [(b_r25_6_1, .cells #[.int .i64 y_r25_4_1, .int .i64 0, .int .i64 0] 33 (0, 0))])] := ⟨_, rfl⟩
    refine wp_cutq R34 ?_ ?_
    ·have H := h32
     apply wp_region_lit
     refine sm _ rfl hk rfl rfl rfl fun a hk => ?_
     refine sv (.bool (!y18.2)) hk rfl rfl rfl fun a hk => ?_
     refine sm _ rfl hk rfl rfl rfl fun a hk => ?_
     rcases cond_some H with ⟨c35, H⟩ | ⟨c35, H⟩
     ·have hk := hk.lit 29 c35 rfl
      refine sk hk rfl rfl rfl fun a hk => ?_
      refine sk hk rfl rfl rfl fun a hk => ?_
      refine sk hk rfl rfl rfl fun a hk => ?_
      refine sv (.bool true) hk rfl rfl rfl fun a hk => ?_
      refine sa _ rfl hk rfl rfl rfl fun a hk => ?_
      show wpList _ _ _ [] _ _
      refine wpList_nil ?_
      obtain rfl := Option.some.inj H
      show R34 _ _
      rw [hR34]
      exact ⟨true, rfl, (hk.c 2 rfl (hk.c 5 rfl (hk.c 7 rfl (hk.c 26 rfl hk.k)))), (hs.pick [(4, 4), (2, 2), (105121, 105121)] rfl)⟩
     ·have hk := hk.lit 29 c35 rfl
      refine sf ⟨b_r25_6_1, 0, none⟩ rfl hk rfl rfl rfl fd33_0 rfl fun a hk => ?_
      refine sl rfl hk rfl rfl rfl ag3 (box_cell hs (k := 105121) rfl rfl) fun a hk => ?_
      refine sv (.bool (decide (y_r25_4_1 < 1))) hk rfl rfl rfl fun a hk => ?_
      refine sv (.bool (decide (y_r25_4_1 < 1))) hk rfl rfl rfl fun a hk => ?_
      refine sa _ rfl hk rfl rfl rfl fun a hk => ?_
      show wpList _ _ _ [] _ _
      refine wpList_nil ?_
      obtain rfl := Option.some.inj H
      show R34 _ _
      rw [hR34]
      exact ⟨(decide (y_r25_4_1 < 1)), rfl, (hk.c 2 rfl (hk.c 5 rfl (hk.c 7 rfl (hk.c 26 rfl hk.k)))), (hs.pick [(4, 4), (2, 2), (105121, 105121)] rfl)⟩
    ·intro a w hR0
     rw [hR34] at hR0
     obtain ⟨u30, rfl, hk, hs⟩ := hR0
     have H := HL33
     try dsimp only at H
     refine hK28 _ _ ?_
     rcases cond_some H with ⟨c36, H⟩ | ⟨c36, H⟩
     ·have hk := hk.lit 26 c36 rfl
      refine cnd_true hk rfl rfl ?_
      apply wp_seq_k; intro K37 hK37
      apply wp_region_lit
      refine sbd (pv := []) rfl hk rfl rfl rfl bd33_2 fun a hk => ?_
      refine ssw 2 hs rfl rfl hk rfl rfl rfl rfl sz33 (by simp [Value.oneCell']) rfl fun w a hk hs => ?_
      refine sa _ rfl hk rfl rfl rfl fun a hk => ?_
      show wpList _ _ _ [] _ _
      refine wpList_nil ?_
      refine hK37 _ _ ?_
      have hs := hs.pick [(2, 2)] rfl
      refine wp_ret ?_
      obtain rfl := Option.some.inj H
      exact fin hk _ [(.agg #[.int .i64 0, .int .i64 0, .int .i64 0]), (.bool false)] rfl ⟨⟨_, rfl, run_loadN ag33 sz33 (box_cells hs (k := 2) rfl)⟩, ⟨rfl, trivial⟩⟩ ⟨rfl, (hs.pick [] rfl).dnil⟩
     ·have hk := hk.lit 26 c36 rfl
      refine cnd_false hk rfl rfl ?_
      apply wp_seq_k; intro K38 hK38
      obtain ⟨o41, h42, HL43⟩ := bind_some H
      clear H
      obtain ⟨R44, hR44⟩ : ∃ R : Act → World → Prop, R = fun a w => ∃ (u40 : Bool), u40 = o41 ∧ Kn [(2, (.pointer (some ⟨b2, 0, none⟩))), (5, (.slice A20 y18.1.length p21)), (7, (.pointer (some ⟨b_r25_6_1, 0, none⟩))), (35, (.bool u40))] 71 a ∧ Sat [] w0 w [(1, kT)] [(4, k22), (2, [(b2, .cells #[.int .i64 0, .int .i64 0, .int .i64 0] 33 (0, 0))]), (105121, [(b_r25_6_1, .cells #[.int .i64 y_r25_4_1, .int .i64 0, .int .i64 0] 33 (0, 0))])] := ⟨_, rfl⟩
      refine wp_cutq R44 ?_ ?_
      ·have H := h42
       apply wp_region_lit
       refine sm _ rfl hk rfl rfl rfl fun a hk => ?_
       refine sle rfl hk rfl rfl rfl un72 fun a hk => ?_
       refine sv (.bool ((y18.1.length : Int) == 1)) hk rfl rfl rfl fun a hk => ?_
       refine sm _ rfl hk rfl rfl rfl fun a hk => ?_
       rcases cond_some H with ⟨c45, H⟩ | ⟨c45, H⟩
       ·have hk := hk.lit 39 c45 rfl
        refine sf ⟨b_r25_6_1, 0, none⟩ rfl hk rfl rfl rfl fd33_0 rfl fun a hk => ?_
        refine sl rfl hk rfl rfl rfl ag3 (box_cell hs (k := 105121) rfl rfl) fun a hk => ?_
        obtain ⟨y46, h47, H⟩ := bind_some H
        refine sc rfl en34 hk rfl rfl rfl (impl_isBare_t _ y_r25_4_1 _ h47) ?_
        rintro _ w ⟨rfl, hG⟩ a hk
        have hs := hs.call0 hG
        refine sv (.bool y46) hk rfl rfl rfl fun a hk => ?_
        refine sa _ rfl hk rfl rfl rfl fun a hk => ?_
        show wpList _ _ _ [] _ _
        refine wpList_nil ?_
        obtain rfl := Option.some.inj H
        show R44 _ _
        rw [hR44]
        exact ⟨y46, rfl, (hk.c 2 rfl (hk.c 5 rfl (hk.c 7 rfl (hk.c 35 rfl hk.k)))), (hs.pick [(4, 4), (2, 2), (105121, 105121)] rfl)⟩
       ·have hk := hk.lit 39 c45 rfl
        refine sk hk rfl rfl rfl fun a hk => ?_
        refine sk hk rfl rfl rfl fun a hk => ?_
        refine sk hk rfl rfl rfl fun a hk => ?_
        refine sv (.bool false) hk rfl rfl rfl fun a hk => ?_
        refine sa _ rfl hk rfl rfl rfl fun a hk => ?_
        show wpList _ _ _ [] _ _
        refine wpList_nil ?_
        obtain rfl := Option.some.inj H
        show R44 _ _
        rw [hR44]
        exact ⟨false, rfl, (hk.c 2 rfl (hk.c 5 rfl (hk.c 7 rfl (hk.c 35 rfl hk.k)))), (hs.pick [(4, 4), (2, 2), (105121, 105121)] rfl)⟩
      ·intro a w hR0
       rw [hR44] at hR0
       obtain ⟨u40, rfl, hk, hs⟩ := hR0
       have H := HL43
       try dsimp only at H
       refine hK38 _ _ ?_
       have hs := hs.pick [(4, 4), (2, 2), (105121, 105121)] rfl
       obtain ⟨o51, h52, HL53⟩ := bind_some H
       clear H
       obtain ⟨R54, hR54⟩ : ∃ R : Act → World → Prop, R = fun a w => ∃ (u49 : Int) (u50 : Int), (u49, u50) = o51 ∧ Kn [(2, (.pointer (some ⟨b2, 0, none⟩))), (7, (.pointer (some ⟨b_r25_6_1, 0, none⟩)))] 71 a ∧ Sat [] w0 w [(1, kT)] [(2, [(b2, .cells #[.int .i64 0, .int .i64 0, .int .i64 0] 33 (0, 0))]), (105121, [(b_r25_6_1, .cells #[.int .i64 y_r25_4_1, .int .i64 u49, .int .i64 u50] 33 (0, 0))])] := ⟨_, rfl⟩
       refine wp_cutq R54 ?_ ?_
       ·have H := h52
        rcases cond_some H with ⟨c55, H⟩ | ⟨c55, H⟩
        ·have hk := hk.lit 35 c55 rfl
         refine cnd_true hk rfl rfl ?_
         apply wp_region_lit
         refine sm _ rfl hk rfl rfl rfl fun a hk => ?_
         rcases ite_some H with ⟨c56, H⟩ | ⟨_, H⟩
         rotate_left
         ·cases H
         obtain ⟨b57, q58, hAc56⟩ := (o23.view).some_ (0 : Int) c56.1 c56.2
         refine si rfl hk rfl rfl rfl rfl un72 sz3 c56.1 c56.2 hAc56 fun a hk => ?_
         obtain ⟨_, rfl, e59⟩ := (o23.view).at_ 0 (0 : Int) c56.1 c56.2
         refine sl (v := (.int .i64 (y18.1.getD (0 : Int).toNat 0))) rfl hk rfl rfl rfl ag3 ((e59 0 _ rfl).cell (hs.hasG (k := 4) rfl)) fun a hk => ?_
         refine sf ⟨b_r25_6_1, 1, none⟩ rfl hk rfl rfl rfl fd33_1 rfl fun a hk => ?_
         refine ssx (cs' := #[.int .i64 y_r25_4_1, .int .i64 (y18.1.getD (0 : Int).toNat 0), .int .i64 0]) 105121 hs rfl rfl hk rfl rfl rfl rfl sz3 rfl rfl rfl rfl fun w a hk hs => ?_
         show wpList _ _ _ [] _ _
         refine wpList_nil ?_
         obtain rfl := Option.some.inj H
         show R54 _ _
         rw [hR54]
         exact ⟨(y18.1.getD (0 : Int).toNat 0), 0, rfl, (hk.c 2 rfl (hk.c 7 rfl hk.k)), (hs.pick [(2, 2), (105121, 105121)] rfl)⟩
        ·have hk := hk.lit 35 c55 rfl
         refine cnd_false hk rfl rfl ?_
         apply wp_seq_k; intro K60 hK60
         obtain ⟨o63, h64, HL65⟩ := bind_some H
         clear H
         obtain ⟨R66, hR66⟩ : ∃ R : Act → World → Prop, R = fun a w => ∃ (u62 : Bool), u62 = o63 ∧ Kn [(2, (.pointer (some ⟨b2, 0, none⟩))), (5, (.slice A20 y18.1.length p21)), (7, (.pointer (some ⟨b_r25_6_1, 0, none⟩))), (48, (.bool u62))] 71 a ∧ Sat [] w0 w [(1, kT)] [(4, k22), (2, [(b2, .cells #[.int .i64 0, .int .i64 0, .int .i64 0] 33 (0, 0))]), (105121, [(b_r25_6_1, .cells #[.int .i64 y_r25_4_1, .int .i64 0, .int .i64 0] 33 (0, 0))])] := ⟨_, rfl⟩
         refine wp_cutq R66 ?_ ?_
         ·have H := h64
          apply wp_region_lit
          refine sm _ rfl hk rfl rfl rfl fun a hk => ?_
          refine sle rfl hk rfl rfl rfl un72 fun a hk => ?_
          refine sv (.bool ((y18.1.length : Int) == 2)) hk rfl rfl rfl fun a hk => ?_
          refine sm _ rfl hk rfl rfl rfl fun a hk => ?_
          rcases cond_some H with ⟨c67, H⟩ | ⟨c67, H⟩
          ·have hk := hk.lit 52 c67 rfl
           refine sf ⟨b_r25_6_1, 0, none⟩ rfl hk rfl rfl rfl fd33_0 rfl fun a hk => ?_
           refine sl rfl hk rfl rfl rfl ag3 (box_cell hs (k := 105121) rfl rfl) fun a hk => ?_
           obtain ⟨y68, h69, H⟩ := bind_some H
           refine sc rfl en34 hk rfl rfl rfl (impl_isBare_t _ y_r25_4_1 _ h69) ?_
           rintro _ w ⟨rfl, hG⟩ a hk
           have hs := hs.call0 hG
           refine sv (.bool (!y68)) hk rfl rfl rfl fun a hk => ?_
           refine sv (.bool (!y68)) hk rfl rfl rfl fun a hk => ?_
           refine sa _ rfl hk rfl rfl rfl fun a hk => ?_
           show wpList _ _ _ [] _ _
           refine wpList_nil ?_
           obtain rfl := Option.some.inj H
           show R66 _ _
           rw [hR66]
           exact ⟨(!y68), rfl, (hk.c 2 rfl (hk.c 5 rfl (hk.c 7 rfl (hk.c 48 rfl hk.k)))), (hs.pick [(4, 4), (2, 2), (105121, 105121)] rfl)⟩
          ·have hk := hk.lit 52 c67 rfl
           refine sk hk rfl rfl rfl fun a hk => ?_
           refine sk hk rfl rfl rfl fun a hk => ?_
           refine sk hk rfl rfl rfl fun a hk => ?_
           refine sk hk rfl rfl rfl fun a hk => ?_
           refine sv (.bool false) hk rfl rfl rfl fun a hk => ?_
           refine sa _ rfl hk rfl rfl rfl fun a hk => ?_
           show wpList _ _ _ [] _ _
           refine wpList_nil ?_
           obtain rfl := Option.some.inj H
           show R66 _ _
           rw [hR66]
           exact ⟨false, rfl, (hk.c 2 rfl (hk.c 5 rfl (hk.c 7 rfl (hk.c 48 rfl hk.k)))), (hs.pick [(4, 4), (2, 2), (105121, 105121)] rfl)⟩
         ·intro a w hR0
          rw [hR66] at hR0
          obtain ⟨u62, rfl, hk, hs⟩ := hR0
          have H := HL65
          try dsimp only at H
          refine hK60 _ _ ?_
          obtain ⟨o73, h74, HL75⟩ := bind_some H
          clear H
          obtain ⟨R76, hR76⟩ : ∃ R : Act → World → Prop, R = fun a w => ∃ (u71 : Int) (u72 : Int), (u71, u72) = o73 ∧ Kn [(2, (.pointer (some ⟨b2, 0, none⟩))), (7, (.pointer (some ⟨b_r25_6_1, 0, none⟩)))] 71 a ∧ Sat [] w0 w [(1, kT)] [(2, [(b2, .cells #[.int .i64 0, .int .i64 0, .int .i64 0] 33 (0, 0))]), (105121, [(b_r25_6_1, .cells #[.int .i64 y_r25_4_1, .int .i64 u71, .int .i64 u72] 33 (0, 0))])] := ⟨_, rfl⟩
          refine wp_cutq R76 ?_ ?_
          ·have H := h74
           rcases cond_some H with ⟨c77, H⟩ | ⟨c77, H⟩
           ·have hk := hk.lit 48 c77 rfl
            refine cnd_true hk rfl rfl ?_
            refine wp_region_tree (.q 0 (.q 1 (.q 2 (.q 3 (.q 4 (.q 5 (.alt 6 (.alt 7 (.alt 8 (.last 9) .stop) .stop) .stop))))))) mo (by kernel_rfl) (hs.pick [(4, 4), (2, 2)] rfl) fun _ => ?_
            have hs := hs.drew
            refine tqst (.slice A20 y18.1.length p21) hk rfl rfl rfl rfl (fun w hs => sm _ rfl hk rfl rfl rfl fun a hk => qe hk) fun a hk => ?_
            rcases ite_some H with ⟨c79, H⟩ | ⟨_, H⟩
            rotate_left
            ·cases H
            obtain ⟨b80, q81, hAc79⟩ := (o23.view).some_ (0 : Int) c79.1 c79.2
            refine tqst (.pointer (some (padd A20 ((0 : Int).toNat * 1)))) hk rfl rfl rfl rfl (fun w hs => si rfl hk rfl rfl rfl rfl un72 sz3 c79.1 c79.2 hAc79 fun a hk => qe hk) fun a hk => ?_
            obtain ⟨_, rfl, e82⟩ := (o23.view).at_ 0 (0 : Int) c79.1 c79.2
            refine tqst (.int .i64 (y18.1.getD (0 : Int).toNat 0)) hk rfl rfl rfl rfl (fun w hs => sl (v := (.int .i64 (y18.1.getD (0 : Int).toNat 0))) rfl hk rfl rfl rfl ag3 ((e82 0 _ rfl).cell (hs.hasG (k := 4) rfl)) fun a hk => qe hk) fun a hk => ?_
            refine tqst (.slice A20 y18.1.length p21) hk rfl rfl rfl rfl (fun w hs => sm _ rfl hk rfl rfl rfl fun a hk => qe hk) fun a hk => ?_
            rcases ite_some H with ⟨c83, H⟩ | ⟨_, H⟩
            rotate_left
            ·cases H
            obtain ⟨b84, q85, hAc83⟩ := (o23.view).some_ (1 : Int) c83.1 c83.2
            refine tqst (.pointer (some (padd A20 ((1 : Int).toNat * 1)))) hk rfl rfl rfl rfl (fun w hs => si rfl hk rfl rfl rfl rfl un72 sz3 c83.1 c83.2 hAc83 fun a hk => qe hk) fun a hk => ?_
            obtain ⟨_, rfl, e86⟩ := (o23.view).at_ 0 (1 : Int) c83.1 c83.2
            refine tqst (.int .i64 (y18.1.getD (1 : Int).toNat 0)) hk rfl rfl rfl rfl (fun w hs => sl (v := (.int .i64 (y18.1.getD (1 : Int).toNat 0))) rfl hk rfl rfl rfl ag3 ((e86 0 _ rfl).cell (hs.hasG (k := 4) rfl)) fun a hk => qe hk) fun a hk => ?_
            refine tsst hk rfl rfl (fun K_r78_6 hK_r78_6 w hF => ?_) wt_stop
            have hs := hs.f hF
            refine sf ⟨b_r25_6_1, 1, none⟩ rfl hk rfl rfl rfl fd33_1 rfl fun a hk => ?_
            refine se (hs.pick [(4, 4), (2, 2)] rfl) hk (hK_r78_6 _ _ ?_)
            refine tsst hk rfl rfl (fun K_r78_7 hK_r78_7 w hF => ?_) wt_stop
            have hs := hs.f hF
            refine ssx (cs' := #[.int .i64 y_r25_4_1, .int .i64 (y18.1.getD (0 : Int).toNat 0), .int .i64 0]) 105121 hs rfl rfl hk rfl rfl rfl rfl sz3 rfl rfl rfl rfl fun w a hk hs => ?_
            refine se (hs.pick [(4, 4), (2, 2)] rfl) hk (hK_r78_7 _ _ ?_)
            refine tsst hk rfl rfl (fun K_r78_8 hK_r78_8 w hF => ?_) wt_stop
            have hs := hs.f hF
            refine sf ⟨b_r25_6_1, 2, none⟩ rfl hk rfl rfl rfl fd33_2 rfl fun a hk => ?_
            refine se (hs.pick [(4, 4), (2, 2)] rfl) hk (hK_r78_8 _ _ ?_)
            refine tlst hk rfl rfl fun K_r78_9 hK_r78_9 w hF => ?_
            have hs := hs.f hF
            refine ssx (cs' := #[.int .i64 y_r25_4_1, .int .i64 (y18.1.getD (0 : Int).toNat 0), .int .i64 (y18.1.getD (1 : Int).toNat 0)]) 105121 hs rfl rfl hk rfl rfl rfl rfl sz3 rfl rfl rfl rfl fun w a hk hs => ?_
            refine se trivial hk (hK_r78_9 _ _ fun w hF => ?_)
            have hs := hs.f hF
            obtain rfl := Option.some.inj H
            show R76 _ _
            rw [hR76]
            exact ⟨(y18.1.getD (0 : Int).toNat 0), (y18.1.getD (1 : Int).toNat 0), rfl, (hk.c 2 rfl (hk.c 7 rfl hk.k)), (hs.pick [(2, 2), (105121, 105121)] rfl)⟩
           ·have hk := hk.lit 48 c77 rfl
            refine cnd_false hk rfl rfl ?_
            refine wp_skip ?_
            obtain rfl := Option.some.inj H
            show R76 _ _
            rw [hR76]
            exact ⟨0, 0, rfl, (hk.c 2 rfl (hk.c 7 rfl hk.k)), (hs.pick [(2, 2), (105121, 105121)] rfl)⟩
          ·intro a w hR0
           rw [hR76] at hR0
           obtain ⟨u71, u72, rfl, hk, hs⟩ := hR0
           have H := HL75
           try dsimp only at H
           obtain rfl := Option.some.inj H
           show R54 _ _
           rw [hR54]
           exact ⟨u71, u72, rfl, (hk.c 2 rfl (hk.c 7 rfl hk.k)), (hs.pick [(2, 2), (105121, 105121)] rfl)⟩
       ·intro a w hR0
        rw [hR54] at hR0
        obtain ⟨u49, u50, rfl, hk, hs⟩ := hR0
        have H := HL53
        try dsimp only at H
        refine hK27 _ _ ?_
        apply wp_seq_k; intro K87 hK87
        apply wp_seq_k; intro K88 hK88
        apply wp_region_lit
        refine sln [.int .i64 y_r25_4_1, .int .i64 u49, .int .i64 u50] rfl hk rfl rfl rfl ag33 sz33 (box_cells hs (k := 105121) rfl) fun a hk => ?_
        obtain ⟨y89, h90, H⟩ := bind_some H
        refine sc rfl en16 hk rfl rfl rfl (impl_OpOK_t _ (⟨y_r25_4_1, u49, u50⟩ : S_Op) _ h90) ?_
        rintro _ w ⟨rfl, hG⟩ a hk
        have hs := hs.call0 hG
        refine sv (.bool (!y89)) hk rfl rfl rfl fun a hk => ?_
        show wpList _ _ _ [] _ _
        refine wpList_nil ?_
        refine hK88 _ _ ?_
        rcases cond_some H with ⟨c91, H⟩ | ⟨c91, H⟩
        ·have hk := hk.lit 68 c91 rfl
         refine cnd_true hk rfl rfl ?_
         apply wp_seq_k; intro K92 hK92
         apply wp_region_lit
         refine sbd (pv := []) rfl hk rfl rfl rfl bd33_2 fun a hk => ?_
         refine ssw 2 hs rfl rfl hk rfl rfl rfl rfl sz33 (by simp [Value.oneCell']) rfl fun w a hk hs => ?_
         refine sa _ rfl hk rfl rfl rfl fun a hk => ?_
         show wpList _ _ _ [] _ _
         refine wpList_nil ?_
         refine hK92 _ _ ?_
         refine wp_ret ?_
         obtain rfl := Option.some.inj H
         exact fin hk _ [(.agg #[.int .i64 0, .int .i64 0, .int .i64 0]), (.bool false)] rfl ⟨⟨_, rfl, run_loadN ag33 sz33 (box_cells hs (k := 2) rfl)⟩, ⟨rfl, trivial⟩⟩ ⟨rfl, (hs.pick [] rfl).dnil⟩
        ·have hk := hk.lit 68 c91 rfl
         refine cnd_false hk rfl rfl ?_
         refine wp_skip ?_
         refine hK87 _ _ ?_
         apply wp_seq_k; intro K93 hK93
         apply wp_region_lit
         refine sln [.int .i64 y_r25_4_1, .int .i64 u49, .int .i64 u50] rfl hk rfl rfl rfl ag33 sz33 (box_cells hs (k := 105121) rfl) fun a hk => ?_
         refine ssw 2 hs rfl rfl hk rfl rfl rfl rfl sz33 (by simp [Value.oneCell']) rfl fun w a hk hs => ?_
         refine sa _ rfl hk rfl rfl rfl fun a hk => ?_
         show wpList _ _ _ [] _ _
         refine wpList_nil ?_
         refine hK93 _ _ ?_
         have hs := hs.pick [(2, 2)] rfl
         refine wp_ret ?_
         obtain rfl := Option.some.inj H
         exact fin hk _ [(.agg #[.int .i64 y_r25_4_1, .int .i64 u49, .int .i64 u50]), (.bool true)] rfl ⟨⟨_, rfl, run_loadN ag33 sz33 (box_cells hs (k := 2) rfl)⟩, ⟨rfl, trivial⟩⟩ ⟨rfl, (hs.pick [] rfl).dnil⟩

noncomputable def impl_readBatch.s1 (y50 : List ByteArray) (u58 : Int) (u64 : List S_Op) : Option ((Int × (List S_Op)) ⊕ Ex ((List S_Op)) ((List S_Txn) × Bool)) :=
  (bif (decide (u58 < (y50.length : Int))) then (if 0 ≤ u58 ∧ u58 < (y50.length : Int) then ((impl_readOp.f (y50.getD u58.toNat ByteArray.empty)).bind fun y92 => (bif (!y92.2) then (some (.inr (.ret (([] : List S_Txn), false)))) else (if u64.length + ([y92.1]).length ≤ 1073741824 then (some (.inl ((w64 (u58 + 1)), (u64 ++ ([y92.1]))))) else none))) else none) else (some (.inr (.out u64))))
noncomputable def impl_readBatch.s0 (y5 : List ByteArray) (u19 : List S_Txn) (u18 : Int) : Option (((List S_Txn) × Int) ⊕ Ex ((List S_Txn)) ((List S_Txn) × Bool)) :=
  (bif (decide (u18 < (y5.length : Int))) then (if 0 ≤ u18 ∧ u18 < (y5.length : Int) then ((strings_Split.f (y5.getD u18.toNat ByteArray.empty) (⟨#[59]⟩ : ByteArray)).bind fun y50 => ((loopO (fun s => impl_readBatch.s1 y50 s.1 s.2) (0, ([] : List S_Op))).bind fun o => match o with | .out u69 => (if u19.length + ([(⟨u69⟩ : S_Txn)]).length ≤ 1073741824 then (some (.inl ((u19 ++ ([(⟨u69⟩ : S_Txn)])), (w64 (u18 + 1))))) else none) | .ret r => (some (.inr (.ret r))))) else none) else (some (.inr (.out u19))))
noncomputable def impl_readBatch.f (x0 : ByteArray) : Option ((List S_Txn) × Bool) :=
  ((strings_Split.f x0 (⟨#[124]⟩ : ByteArray)).bind fun y5 => ((loopO (fun s => impl_readBatch.s0 y5 s.1 s.2) (([] : List S_Txn), 0)).bind fun o => match o with | .out u24 => ((impl_BatchOK.f u24).bind fun y119 => (bif (!y119) then (some (([] : List S_Txn), false)) else (some (u24, true)))) | .ret r => (some r)))
set_option maxRecDepth 100000 in
set_option maxHeartbeats 0 in
theorem impl_readBatch_t (w0 : World) (x0 : ByteArray) (kT : Chunk) (tT : TabR Tryz.prog kT) (wT : Has w0 kT) (r : (List S_Txn) × Bool) (H : impl_readBatch.f x0 = some r) :
    Calls Tryz.prog 20 #[.string x0] w0 (Ret (fun v w => ∃ (A0 : Option Addr) (p0 : Nat) (k0 : Chunk), v = .tuple #[.slice A0 r.1.length p0, .bool r.2] ∧ Own L_impl_Txn 36 A0 p0 r.1 k0 ∧ Sat [] w0 w [] [(0, k0)])) := by
  have hs : Sat [] w0 w0 [(1, kT)] [] := Sat.init w0 [(1, kT)] [] (by simp only [List.mem_cons, List.not_mem_nil, or_false]; rintro x (rfl) <;> assumption) (by simp) List.nodup_nil (by simp [blks])
  unfold impl_readBatch.f at H
  refine enter Tryz.func20 rfl Tryz.ntmps20 rfl fun a hk => ?_
  apply wp_seq_k; intro K1 hK1
  apply wp_region_lit
  refine sa _ rfl hk rfl rfl rfl fun a hk => ?_
  refine sa _ rfl hk rfl rfl rfl fun a hk => ?_
  show wpList _ _ _ [] _ _
  refine wpList_nil ?_
  refine hK1 _ _ ?_
  apply wp_seq_k; intro K2 hK2
  apply wp_region_lit
  refine sa _ rfl hk rfl rfl rfl fun a hk => ?_
  show wpList _ _ _ [] _ _
  refine wpList_nil ?_
  refine hK2 _ _ ?_
  apply wp_seq_k; intro K3 hK3
  apply wp_seq_k; intro K4 hK4
  apply wp_region_lit
  refine sm _ rfl hk rfl rfl rfl fun a hk => ?_
  obtain ⟨y5, h6, H⟩ := bind_some H
  refine sc rfl en42 hk rfl rfl rfl (strings_Split_t _ x0 (⟨#[124]⟩ : ByteArray) kT tT (hs.hasD (k := 1) rfl) _ h6) ?_
  rintro _ w ⟨A7, p8, k9, rfl, o10, hG⟩ a hk
  have hs := hs.call0k hG [2] rfl
  refine sle rfl hk rfl rfl rfl un59 fun a hk => ?_
  refine sm _ rfl hk rfl rfl rfl fun a hk => ?_
  show wpList _ _ _ [] _ _
  refine wpList_nil ?_
  refine hK4 _ _ ?_
  obtain ⟨o29, h30, HL31⟩ := bind_some H
  clear H
  obtain ⟨R32, hR32⟩ : ∃ R : Act → World → Prop, R = fun a w => ∃ (u24 : List S_Txn) (A27 : Option Addr) (p28 : Nat) (k25 : Chunk), o29 = .out u24 ∧ Kn [(4, (.slice A27 u24.length p28))] 49 a ∧ Sat [] w0 w [(1, kT)] [(5, k25)] ∧ Own L_impl_Txn 36 A27 p28 u24 k25 := ⟨_, rfl⟩
  refine wp_cutq R32 ?_ ?_
  ·refine wp_block ?_
   obtain ⟨fu34, h30⟩ := loopO_some h30
   obtain ⟨I33, hI33⟩ : ∃ I : Nat → Act → World → Prop, I = fun fu a w => ∃ (u19 : List S_Txn) (u18 : Int) (A22 : Option Addr) (p23 : Nat) (k20 : Chunk), loopN (fun s => impl_readBatch.s0 y5 s.1 s.2) fu (u19, u18) = some o29 ∧ Kn [(4, (.slice A22 u19.length p23)), (13, (.slice A7 y5.length p8)), (14, (.int .i64 (y5.length : Int))), (15, (.int .i64 u18))] 49 a ∧ Sat [] w0 w [(1, kT)] [(5, k20), (2, k9)] ∧ Own L_impl_Txn 36 A22 p23 u19 k20 := ⟨_, rfl⟩
   refine wp_loop_ghost I33 fu34 ?_ ?_
   ·rw [hI33]
    exact ⟨([] : List S_Txn), 0, none, 0, _, h30, (hk.c 4 rfl (hk.c 13 rfl (hk.c 14 rfl (hk.c 15 rfl hk.k)))), ((hs.addNil 1005).pick [(5, 1005), (2, 2)] rfl), Own.nil _ _⟩
   ·clear h30 hk hs
    intro fu34 a w hI0
    rw [hI33] at hI0
    obtain ⟨u19, u18, A22, p23, k20, hi, hk, hs, o21⟩ := hI0
    obtain ⟨x35, H, h36⟩ := loop_round hi
    try dsimp only at H
    unfold impl_readBatch.s0 at H
    apply wp_seq_k; intro K37 hK37
    apply wp_region_lit
    refine sv (.bool (decide (u18 < (y5.length : Int)))) hk rfl rfl rfl fun a hk => ?_
    show wpList _ _ _ [] _ _
    refine wpList_nil ?_
    refine hK37 _ _ ?_
    have hs := hs.pick [(5, 5), (2, 2)] rfl
    apply wp_seq_k; intro K38 hK38
    rcases cond_some H with ⟨c39, H⟩ | ⟨c39, H⟩
    ·have hk := hk.lit 16 c39 rfl
     refine cnd_true hk rfl rfl ?_
     refine wp_skip ?_
     refine hK38 _ _ ?_
     apply wp_seq_k; intro K40 hK40
     refine wp_block ?_
     apply wp_seq_k; intro K41 hK41
     apply wp_region_lit
     rcases ite_some H with ⟨c42, H⟩ | ⟨_, H⟩
     rotate_left
     ·cases H
     obtain ⟨b43, q44, hAc42⟩ := (o10.view).some_ u18 c42.1 c42.2
     refine si rfl hk rfl rfl rfl rfl un59 sz9 c42.1 c42.2 hAc42 fun a hk => ?_
     obtain ⟨_, rfl, e45⟩ := (o10.view).at_ ByteArray.empty u18 c42.1 c42.2
     refine sl (v := (.string (y5.getD u18.toNat ByteArray.empty))) rfl hk rfl rfl rfl ag9 ((e45 0 _ rfl).cell (hs.hasG (k := 2) rfl)) fun a hk => ?_
     refine sa _ rfl hk rfl rfl rfl fun a hk => ?_
     show wpList _ _ _ [] _ _
     refine wpList_nil ?_
     refine hK41 _ _ ?_
     apply wp_seq_k; intro K46 hK46
     apply wp_region_lit
     refine salx 6 hs rfl hk rfl rfl ze36 rfl fun b47 w a hk hs => ?_
     show wpList _ _ _ [] _ _
     refine wpList_nil ?_
     refine hK46 _ _ ?_
     apply wp_seq_k; intro K48 hK48
     apply wp_seq_k; intro K49 hK49
     apply wp_region_lit
     refine sm _ rfl hk rfl rfl rfl fun a hk => ?_
     obtain ⟨y50, h51, H⟩ := bind_some H
     refine sc rfl en42 hk rfl rfl rfl (strings_Split_t _ (y5.getD u18.toNat ByteArray.empty) (⟨#[59]⟩ : ByteArray) kT tT (hs.hasD (k := 1) rfl) _ h51) ?_
     rintro _ w ⟨A52, p53, k54, rfl, o55, hG⟩ a hk
     have hs := hs.call0k hG [7] rfl
     refine sle rfl hk rfl rfl rfl un59 fun a hk => ?_
     refine sm _ rfl hk rfl rfl rfl fun a hk => ?_
     show wpList _ _ _ [] _ _
     refine wpList_nil ?_
     refine hK49 _ _ ?_
     have hs := hs.pick [(5, 5), (2, 2), (7, 7), (6, 6)] rfl
     obtain ⟨o74, h75, HL76⟩ := bind_some H
     clear H
     obtain ⟨R77, hR77⟩ : ∃ R : Act → World → Prop, R = fun a w => ∃ (u69 : List S_Op) (A72 : Option Addr) (p73 : Nat) (k70 : Chunk), o74 = .out u69 ∧ Kn [(4, (.slice A22 u19.length p23)), (7, (.pointer (some ⟨b47, 0, none⟩))), (13, (.slice A7 y5.length p8)), (14, (.int .i64 (y5.length : Int))), (15, (.int .i64 u18))] 49 a ∧ Sat [] w0 w [(1, kT)] [(5, k20), (2, k9), (6, [(b47, .cells #[.slice A72 u69.length p73] 36 (0, 0))]), (10, k70)] ∧ Own L_Op 33 A72 p73 u69 k70 := ⟨_, rfl⟩
     refine wp_cutq R77 ?_ ?_
     ·refine wp_block ?_
      obtain ⟨fu79, h75⟩ := loopO_some h75
      obtain ⟨I78, hI78⟩ : ∃ I : Nat → Act → World → Prop, I = fun fu a w => ∃ (u58 : Int) (u64 : List S_Op) (A67 : Option Addr) (p68 : Nat) (k65 : Chunk), loopN (fun s => impl_readBatch.s1 y50 s.1 s.2) fu (u58, u64) = some o74 ∧ Kn [(4, (.slice A22 u19.length p23)), (7, (.pointer (some ⟨b47, 0, none⟩))), (13, (.slice A7 y5.length p8)), (14, (.int .i64 (y5.length : Int))), (15, (.int .i64 u18)), (20, (.slice A52 y50.length p53)), (21, (.int .i64 (y50.length : Int))), (22, (.int .i64 u58))] 49 a ∧ Sat [] w0 w [(1, kT)] [(5, k20), (2, k9), (7, k54), (6, [(b47, .cells #[.slice A67 u64.length p68] 36 (0, 0))]), (10, k65)] ∧ Own L_Op 33 A67 p68 u64 k65 := ⟨_, rfl⟩
      refine wp_loop_ghost I78 fu79 ?_ ?_
      ·rw [hI78]
       exact ⟨0, ([] : List S_Op), none, 0, _, h75, (hk.c 4 rfl (hk.c 7 rfl (hk.c 13 rfl (hk.c 14 rfl (hk.c 15 rfl (hk.c 20 rfl (hk.c 21 rfl (hk.c 22 rfl hk.k)))))))), ((hs.addNil 1010).pick [(5, 5), (2, 2), (7, 7), (6, 6), (10, 1010)] rfl), Own.nil _ _⟩
      ·clear h75 hk hs
       intro fu79 a w hI0
       rw [hI78] at hI0
       obtain ⟨u58, u64, A67, p68, k65, hi, hk, hs, o66⟩ := hI0
       obtain ⟨x80, H, h81⟩ := loop_round hi
       try dsimp only at H
       unfold impl_readBatch.s1 at H
       apply wp_seq_k; intro K82 hK82
       apply wp_region_lit
       refine sv (.bool (decide (u58 < (y50.length : Int)))) hk rfl rfl rfl fun a hk => ?_
       show wpList _ _ _ [] _ _
       refine wpList_nil ?_
       refine hK82 _ _ ?_
       apply wp_seq_k; intro K83 hK83
       rcases cond_some H with ⟨c84, H⟩ | ⟨c84, H⟩
       ·have hk := hk.lit 23 c84 rfl
        refine cnd_true hk rfl rfl ?_
        refine wp_skip ?_
        refine hK83 _ _ ?_
        apply wp_seq_k; intro K85 hK85
        refine wp_block ?_
        apply wp_seq_k; intro K86 hK86
        apply wp_region_lit
        rcases ite_some H with ⟨c87, H⟩ | ⟨_, H⟩
        rotate_left
        ·cases H
        obtain ⟨b88, q89, hAc87⟩ := (o55.view).some_ u58 c87.1 c87.2
        refine si rfl hk rfl rfl rfl rfl un59 sz9 c87.1 c87.2 hAc87 fun a hk => ?_
        obtain ⟨_, rfl, e90⟩ := (o55.view).at_ ByteArray.empty u58 c87.1 c87.2
        refine sl (v := (.string (y50.getD u58.toNat ByteArray.empty))) rfl hk rfl rfl rfl ag9 ((e90 0 _ rfl).cell (hs.hasG (k := 7) rfl)) fun a hk => ?_
        refine sa _ rfl hk rfl rfl rfl fun a hk => ?_
        show wpList _ _ _ [] _ _
        refine wpList_nil ?_
        refine hK86 _ _ ?_
        apply wp_seq_k; intro K91 hK91
        apply wp_region_lit
        refine sm _ rfl hk rfl rfl rfl fun a hk => ?_
        obtain ⟨y92, h93, H⟩ := bind_some H
        refine sc rfl en30 hk rfl rfl rfl (impl_readOp_t _ (y50.getD u58.toNat ByteArray.empty) kT tT (hs.hasD (k := 1) rfl) _ h93) ?_
        rintro _ w ⟨rfl, hG⟩ a hk
        have hs := hs.call0 hG
        refine sm _ rfl hk rfl rfl rfl fun a hk => ?_
        refine sv (.agg #[.int .i64 y92.1.Kind, .int .i64 y92.1.Key, .int .i64 y92.1.Value]) hk rfl rfl rfl fun a hk => ?_
        refine sv (.bool y92.2) hk rfl rfl rfl fun a hk => ?_
        refine salx 11 hs rfl hk rfl rfl ze33 rfl fun b94 w a hk hs => ?_
        refine ssw 11 hs rfl rfl hk rfl rfl rfl rfl sz33 (by simp [Value.oneCell']) rfl fun w a hk hs => ?_
        refine sa _ rfl hk rfl rfl rfl fun a hk => ?_
        show wpList _ _ _ [] _ _
        refine wpList_nil ?_
        refine hK91 _ _ ?_
        have hs := hs.pick [(5, 5), (2, 2), (7, 7), (6, 6), (10, 10), (11, 11)] rfl
        apply wp_seq_k; intro K95 hK95
        apply wp_seq_k; intro K96 hK96
        apply wp_region_lit
        refine sm _ rfl hk rfl rfl rfl fun a hk => ?_
        refine sv (.bool (!y92.2)) hk rfl rfl rfl fun a hk => ?_
        show wpList _ _ _ [] _ _
        refine wpList_nil ?_
        refine hK96 _ _ ?_
        rcases cond_some H with ⟨c97, H⟩ | ⟨c97, H⟩
        ·have hk := hk.lit 32 c97 rfl
         refine cnd_true hk rfl rfl ?_
         apply wp_seq_k; intro K98 hK98
         apply wp_region_lit
         refine sa _ rfl hk rfl rfl rfl fun a hk => ?_
         refine sa _ rfl hk rfl rfl rfl fun a hk => ?_
         show wpList _ _ _ [] _ _
         refine wpList_nil ?_
         refine hK98 _ _ ?_
         refine wp_ret ?_
         obtain rfl := Option.some.inj H
         have ho74 := h81
         try dsimp only at ho74
         subst ho74
         have H := HL76
         try dsimp only at H
         obtain rfl := Option.some.inj H
         have ho29 := h36
         try dsimp only at ho29
         subst ho29
         have H := HL31
         try dsimp only at H
         obtain rfl := Option.some.inj H
         have hs := hs.addNil 12
         exact fin hk _ [(.slice none 0 0), (.bool false)] rfl ⟨rfl, ⟨rfl, trivial⟩⟩ ⟨none, 0, [], rfl, Own.nil _ _, (hs.pick [(0, 12)] rfl).dnil⟩
        ·have hk := hk.lit 32 c97 rfl
         refine cnd_false hk rfl rfl ?_
         refine wp_skip ?_
         refine hK95 _ _ ?_
         apply wp_region_lit
         refine sf ⟨b47, 0, none⟩ rfl hk rfl rfl rfl fd36_0 rfl fun a hk => ?_
         refine sl rfl hk rfl rfl rfl ag34 (box_cell hs (k := 6) rfl rfl) fun a hk => ?_
         refine sln [.int .i64 y92.1.Kind, .int .i64 y92.1.Key, .int .i64 y92.1.Value] rfl hk rfl rfl rfl ag33 sz33 (box_cells hs (k := 11) rfl) fun a hk => ?_
         refine sbs (L := L_Op) (pv := [(0, (.agg #[.int .i64 y92.1.Kind, .int .i64 y92.1.Key, .int .i64 y92.1.Value]))]) (xs := [y92.1]) (ess := [[.int .i64 y92.1.Kind, .int .i64 y92.1.Key, .int .i64 y92.1.Value]]) 13 hs rfl hk rfl rfl rfl un34 (bs33_4 y92.1.Kind y92.1.Key y92.1.Value) (AllOwn.cons0 ⟨rfl, rfl⟩ AllOwn.nil) rfl rfl rfl fun b99 k100 w a hk o101 hs => ?_
         rcases ite_some H with ⟨c102, H⟩ | ⟨_, H⟩
         rotate_left
         ·cases H
         refine sap 10 (xs := u64) (ys := [y92.1]) (flat_flat : (L_Op).Flat) hs rfl o66 o101.view (hs.hasG (k := 13) rfl) rfl hk rfl rfl rfl rfl rfl rfl un34 mk33 rfl rfl rfl c102 fun A103 p104 k105 w a hk o106 hs => ?_
         refine sf ⟨b47, 0, none⟩ rfl hk rfl rfl rfl fd36_0 rfl fun a hk => ?_
         refine ssx (cs' := #[.slice A103 (u64 ++ ([y92.1])).length p104]) 6 hs rfl rfl hk rfl rfl rfl rfl sz34 rfl rfl rfl rfl fun w a hk hs => ?_
         show wpList _ _ _ [] _ _
         refine wpList_nil ?_
         refine hK85 _ _ ?_
         apply wp_region_lit
         refine sv (.int .i64 (w64 (u58 + 1))) hk rfl rfl rfl fun a hk => ?_
         refine sm _ rfl hk rfl rfl rfl fun a hk => ?_
         show wpList _ _ _ [] _ _
         refine wpList_nil ?_
         obtain rfl := Option.some.inj H
         obtain ⟨m107, hmm107, h81⟩ := h81
         show ∃ n', n' < _ ∧ I78 n' _ _
         refine ⟨m107, hmm107, ?_⟩
         rw [hI78]
         exact ⟨(w64 (u58 + 1)), (u64 ++ ([y92.1])), A103, p104, _, h81, (hk.c 4 rfl (hk.c 7 rfl (hk.c 13 rfl (hk.c 14 rfl (hk.c 15 rfl (hk.c 20 rfl (hk.c 21 rfl (hk.c 22 rfl hk.k)))))))), (hs.pick [(5, 5), (2, 2), (7, 7), (6, 6), (10, 10)] rfl), o106⟩
       ·have hk := hk.lit 23 c84 rfl
        refine cnd_false hk rfl rfl ?_
        refine wp_exit ?_
        obtain rfl := Option.some.inj H
        show R77 _ _
        rw [hR77]
        exact ⟨u64, A67, p68, _, h81.symm, (hk.c 4 rfl (hk.c 7 rfl (hk.c 13 rfl (hk.c 14 rfl (hk.c 15 rfl hk.k))))), (hs.pick [(5, 5), (2, 2), (6, 6), (10, 10)] rfl), o66⟩
     ·intro a w hR0
      rw [hR77] at hR0
      obtain ⟨u69, A72, p73, k70, rfl, hk, hs, o71⟩ := hR0
      have H := HL76
      try dsimp only at H
      refine hK48 _ _ ?_
      apply wp_region_lit
      refine sm _ rfl hk rfl rfl rfl fun a hk => ?_
      refine sln [.slice A72 u69.length p73] rfl hk rfl rfl rfl ag36 sz36 (box_cells hs (k := 6) rfl) fun a hk => ?_
      refine sbs1 (L := L_impl_Txn) (pv := [(0, (.agg #[.slice A72 u69.length p73]))]) (xs := [(⟨u69⟩ : S_Txn)]) (ess := [[.slice A72 u69.length p73]]) 14 10 hs rfl rfl hk rfl rfl rfl un22 (bs36_5 A72 u69.length p73) (AllOwn.one ⟨_, rfl, o71.toV⟩) rfl rfl rfl fun b108 k109 w a hk o110 hs => ?_
      rcases ite_some H with ⟨c111, H⟩ | ⟨_, H⟩
      rotate_left
      ·cases H
      refine sapm 5 14 (xs := u19) (ys := [(⟨u69⟩ : S_Txn)]) hs rfl rfl o21 o110 rfl hk rfl rfl rfl rfl rfl rfl un22 mk36 rfl rfl rfl c111 fun A112 p113 k114 w a hk o115 hs => ?_
      refine sa _ rfl hk rfl rfl rfl fun a hk => ?_
      show wpList _ _ _ [] _ _
      refine wpList_nil ?_
      refine hK40 _ _ ?_
      apply wp_region_lit
      refine sv (.int .i64 (w64 (u18 + 1))) hk rfl rfl rfl fun a hk => ?_
      refine sm _ rfl hk rfl rfl rfl fun a hk => ?_
      show wpList _ _ _ [] _ _
      refine wpList_nil ?_
      obtain rfl := Option.some.inj H
      obtain ⟨m116, hmm116, h36⟩ := h36
      show ∃ n', n' < _ ∧ I33 n' _ _
      refine ⟨m116, hmm116, ?_⟩
      rw [hI33]
      exact ⟨(u19 ++ ([(⟨u69⟩ : S_Txn)])), (w64 (u18 + 1)), A112, p113, _, h36, (hk.c 4 rfl (hk.c 13 rfl (hk.c 14 rfl (hk.c 15 rfl hk.k)))), (hs.pick [(5, 5), (2, 2)] rfl), o115⟩
    ·have hk := hk.lit 16 c39 rfl
     refine cnd_false hk rfl rfl ?_
     refine wp_exit ?_
     obtain rfl := Option.some.inj H
     show R32 _ _
     rw [hR32]
     exact ⟨u19, A22, p23, _, h36.symm, (hk.c 4 rfl hk.k), (hs.pick [(5, 5)] rfl), o21⟩
  ·intro a w hR0
   rw [hR32] at hR0
   obtain ⟨u24, A27, p28, k25, rfl, hk, hs, o26⟩ := hR0
   have H := HL31
   try dsimp only at H
   refine hK3 _ _ ?_
   have hs := hs.pick [(5, 5)] rfl
   apply wp_seq_k; intro K117 hK117
   apply wp_seq_k; intro K118 hK118
   apply wp_region_lit
   refine sm _ rfl hk rfl rfl rfl fun a hk => ?_
   obtain ⟨y119, h120, H⟩ := bind_some H
   refine sc rfl en17 hk rfl rfl rfl (impl_BatchOK_t _ A27 p28 u24 _ o26.view (hs.hasG (k := 5) rfl) _ h120) ?_
   rintro _ w ⟨rfl, hG⟩ a hk
   have hs := hs.call0 hG
   refine sv (.bool (!y119)) hk rfl rfl rfl fun a hk => ?_
   show wpList _ _ _ [] _ _
   refine wpList_nil ?_
   refine hK118 _ _ ?_
   rcases cond_some H with ⟨c121, H⟩ | ⟨c121, H⟩
   ·have hk := hk.lit 47 c121 rfl
    refine cnd_true hk rfl rfl ?_
    apply wp_seq_k; intro K122 hK122
    apply wp_region_lit
    refine sa _ rfl hk rfl rfl rfl fun a hk => ?_
    refine sa _ rfl hk rfl rfl rfl fun a hk => ?_
    show wpList _ _ _ [] _ _
    refine wpList_nil ?_
    refine hK122 _ _ ?_
    refine wp_ret ?_
    obtain rfl := Option.some.inj H
    have hs := hs.addNil 15
    exact fin hk _ [(.slice none 0 0), (.bool false)] rfl ⟨rfl, ⟨rfl, trivial⟩⟩ ⟨none, 0, [], rfl, Own.nil _ _, (hs.pick [(0, 15)] rfl).dnil⟩
   ·have hk := hk.lit 47 c121 rfl
    refine cnd_false hk rfl rfl ?_
    refine wp_skip ?_
    refine hK117 _ _ ?_
    apply wp_seq_k; intro K123 hK123
    apply wp_region_lit
    refine sm _ rfl hk rfl rfl rfl fun a hk => ?_
    refine sa _ rfl hk rfl rfl rfl fun a hk => ?_
    refine sa _ rfl hk rfl rfl rfl fun a hk => ?_
    show wpList _ _ _ [] _ _
    refine wpList_nil ?_
    refine hK123 _ _ ?_
    refine wp_ret ?_
    obtain rfl := Option.some.inj H
    exact fin hk _ [(.slice A27 u24.length p28), (.bool true)] rfl ⟨rfl, ⟨rfl, trivial⟩⟩ ⟨A27, p28, _, rfl, o26, (hs.pick [(0, 5)] rfl).dnil⟩

noncomputable def impl_ReadBatch.f (x0 : ByteArray) : Option ((List S_Txn) × Int) :=
  ((impl_areShort.f ([x0])).bind fun y7 => (bif (!y7) then (some (([] : List S_Txn), 2)) else ((impl_readBatch.f x0).bind fun y12 => (bif (!y12.2) then (some (([] : List S_Txn), 3)) else (some (y12.1, 0))))))
set_option maxRecDepth 100000 in
set_option maxHeartbeats 0 in
theorem impl_ReadBatch_t (w0 : World) (x0 : ByteArray) (kT : Chunk) (tT : TabR Tryz.prog kT) (wT : Has w0 kT) (r : (List S_Txn) × Int) (H : impl_ReadBatch.f x0 = some r) :
    Calls Tryz.prog 6 #[.string x0] w0 (Ret (fun v w => ∃ (A0 : Option Addr) (p0 : Nat) (k0 : Chunk), v = .tuple #[.slice A0 r.1.length p0, .int .i64 r.2] ∧ Own L_impl_Txn 36 A0 p0 r.1 k0 ∧ Sat [] w0 w [] [(0, k0)])) := by
  have hs : Sat [] w0 w0 [(1, kT)] [] := Sat.init w0 [(1, kT)] [] (by simp only [List.mem_cons, List.not_mem_nil, or_false]; rintro x (rfl) <;> assumption) (by simp) List.nodup_nil (by simp [blks])
  unfold impl_ReadBatch.f at H
  refine enter Tryz.func6 rfl Tryz.ntmps6 rfl fun a hk => ?_
  apply wp_seq_k; intro K1 hK1
  apply wp_region_lit
  refine sa _ rfl hk rfl rfl rfl fun a hk => ?_
  refine sa _ rfl hk rfl rfl rfl fun a hk => ?_
  show wpList _ _ _ [] _ _
  refine wpList_nil ?_
  refine hK1 _ _ ?_
  apply wp_seq_k; intro K2 hK2
  apply wp_seq_k; intro K3 hK3
  apply wp_region_lit
  refine sm _ rfl hk rfl rfl rfl fun a hk => ?_
  refine sbs (L := Lay.str) (pv := [(0, (.string x0))]) (xs := [x0]) (ess := [[.string x0]]) 2 hs rfl hk rfl rfl rfl un59 (bs9_6 x0) (AllOwn.cons0 ⟨rfl, rfl⟩ AllOwn.nil) rfl rfl rfl fun b4 k5 w a hk o6 hs => ?_
  obtain ⟨y7, h8, H⟩ := bind_some H
  refine sc rfl en19 hk rfl rfl rfl (impl_areShort_t _ (some ⟨b4, 0, none⟩) 1 ([x0]) _ o6.view (hs.hasG (k := 2) rfl) _ h8) ?_
  rintro _ w ⟨rfl, hG⟩ a hk
  have hs := hs.call0 hG
  refine sv (.bool (!y7)) hk rfl rfl rfl fun a hk => ?_
  show wpList _ _ _ [] _ _
  refine wpList_nil ?_
  refine hK3 _ _ ?_
  rcases cond_some H with ⟨c9, H⟩ | ⟨c9, H⟩
  ·have hk := hk.lit 9 c9 rfl
   refine cnd_true hk rfl rfl ?_
   apply wp_seq_k; intro K10 hK10
   apply wp_region_lit
   refine sa _ rfl hk rfl rfl rfl fun a hk => ?_
   refine sa _ rfl hk rfl rfl rfl fun a hk => ?_
   show wpList _ _ _ [] _ _
   refine wpList_nil ?_
   refine hK10 _ _ ?_
   refine wp_ret ?_
   obtain rfl := Option.some.inj H
   have hs := hs.addNil 3
   exact fin hk _ [(.slice none 0 0), (.int .i64 2)] rfl ⟨rfl, ⟨rfl, trivial⟩⟩ ⟨none, 0, [], rfl, Own.nil _ _, (hs.pick [(0, 3)] rfl).dnil⟩
  ·have hk := hk.lit 9 c9 rfl
   refine cnd_false hk rfl rfl ?_
   refine wp_skip ?_
   refine hK2 _ _ ?_
   apply wp_seq_k; intro K11 hK11
   apply wp_region_lit
   refine sm _ rfl hk rfl rfl rfl fun a hk => ?_
   obtain ⟨y12, h13, H⟩ := bind_some H
   refine sc rfl en20 hk rfl rfl rfl (impl_readBatch_t _ x0 kT tT (hs.hasD (k := 1) rfl) _ h13) ?_
   rintro _ w ⟨A14, p15, k16, rfl, o17, hG⟩ a hk
   have hs := hs.call0k hG [4] rfl
   refine sm _ rfl hk rfl rfl rfl fun a hk => ?_
   refine sv (.slice A14 y12.1.length p15) hk rfl rfl rfl fun a hk => ?_
   refine sv (.bool y12.2) hk rfl rfl rfl fun a hk => ?_
   refine sa _ rfl hk rfl rfl rfl fun a hk => ?_
   refine sa _ rfl hk rfl rfl rfl fun a hk => ?_
   show wpList _ _ _ [] _ _
   refine wpList_nil ?_
   refine hK11 _ _ ?_
   have hs := hs.pick [(4, 4)] rfl
   apply wp_seq_k; intro K18 hK18
   apply wp_seq_k; intro K19 hK19
   apply wp_region_lit
   refine sm _ rfl hk rfl rfl rfl fun a hk => ?_
   refine sv (.bool (!y12.2)) hk rfl rfl rfl fun a hk => ?_
   show wpList _ _ _ [] _ _
   refine wpList_nil ?_
   refine hK19 _ _ ?_
   rcases cond_some H with ⟨c20, H⟩ | ⟨c20, H⟩
   ·have hk := hk.lit 16 c20 rfl
    refine cnd_true hk rfl rfl ?_
    apply wp_seq_k; intro K21 hK21
    apply wp_region_lit
    refine sa _ rfl hk rfl rfl rfl fun a hk => ?_
    refine sa _ rfl hk rfl rfl rfl fun a hk => ?_
    show wpList _ _ _ [] _ _
    refine wpList_nil ?_
    refine hK21 _ _ ?_
    refine wp_ret ?_
    obtain rfl := Option.some.inj H
    have hs := hs.addNil 5
    exact fin hk _ [(.slice none 0 0), (.int .i64 3)] rfl ⟨rfl, ⟨rfl, trivial⟩⟩ ⟨none, 0, [], rfl, Own.nil _ _, (hs.pick [(0, 5)] rfl).dnil⟩
   ·have hk := hk.lit 16 c20 rfl
    refine cnd_false hk rfl rfl ?_
    refine wp_skip ?_
    refine hK18 _ _ ?_
    apply wp_seq_k; intro K22 hK22
    apply wp_region_lit
    refine sm _ rfl hk rfl rfl rfl fun a hk => ?_
    refine sa _ rfl hk rfl rfl rfl fun a hk => ?_
    refine sa _ rfl hk rfl rfl rfl fun a hk => ?_
    show wpList _ _ _ [] _ _
    refine wpList_nil ?_
    refine hK22 _ _ ?_
    refine wp_ret ?_
    obtain rfl := Option.some.inj H
    exact fin hk _ [(.slice A14 y12.1.length p15), (.int .i64 0)] rfl ⟨rfl, ⟨rfl, trivial⟩⟩ ⟨A14, p15, _, rfl, o17, (hs.pick [(0, 4)] rfl).dnil⟩

noncomputable def spec_l00Source.f (l0 : List Int) : Option (S_l00Src) :=
  (some (⟨l0, 0, (Int.tmod (l0.length : Int) 1000)⟩ : S_l00Src))
set_option maxRecDepth 100000 in
set_option maxHeartbeats 0 in
theorem spec_l00Source_t (w0 : World) (A0_ : Option Addr) (p0_ : Nat) (l0 : List Int) (k0_ : Chunk) (v0_ : View (Lay.int .u8) A0_ p0_ l0 k0_) (w0_ : Has w0 k0_) (r : S_l00Src) (H : spec_l00Source.f l0 = some r) :
    Calls Tryz.prog 24 #[.slice A0_ l0.length p0_] w0 (Ret (fun v w => ∃ (bb0 : Nat), ∃ (A0 : Option Addr) (p0 : Nat), ∃ (kS : Chunk), v = .pointer (some ⟨bb0, 0, none⟩) ∧ View (Lay.int .u8) A0 p0 r.code (k0_ ++ kS) ∧ Sat [] w0 w [] [(0, [(bb0, .cells #[.slice A0 r.code.length p0, .int .i64 r.at_, .int .i64 r.seed] 65 (0, 0))]), (1, kS)])) := by
  have hs : Sat [] w0 w0 [(1, k0_)] [] := Sat.init w0 [(1, k0_)] [] (by simp only [List.mem_cons, List.not_mem_nil, or_false]; rintro x (rfl) <;> assumption) (by simp) List.nodup_nil (by simp [blks])
  unfold spec_l00Source.f at H
  refine enter Tryz.func24 rfl Tryz.ntmps24 rfl fun a hk => ?_
  apply wp_seq_k; intro K1 hK1
  apply wp_region_lit
  refine sa _ rfl hk rfl rfl rfl fun a hk => ?_
  show wpList _ _ _ [] _ _
  refine wpList_nil ?_
  refine hK1 _ _ ?_
  apply wp_seq_k; intro K2 hK2
  apply wp_region_lit
  refine sm _ rfl hk rfl rfl rfl fun a hk => ?_
  refine sm _ rfl hk rfl rfl rfl fun a hk => ?_
  refine sle rfl hk rfl rfl rfl un28 fun a hk => ?_
  refine sv (.int .i64 (Int.tmod (l0.length : Int) 1000)) hk rfl rfl rfl fun a hk => ?_
  refine sbd (pv := [(0, (.slice A0_ l0.length p0_)), (2, (.int .i64 (Int.tmod (l0.length : Int) 1000)))]) rfl hk rfl rfl rfl (bd65_7 A0_ l0.length p0_ (Int.tmod (l0.length : Int) 1000)) fun a hk => ?_
  refine sbx 2 hs rfl hk rfl rfl rfl rfl fun b3 w a hk hs => ?_
  refine sa _ rfl hk rfl rfl rfl fun a hk => ?_
  show wpList _ _ _ [] _ _
  refine wpList_nil ?_
  refine hK2 _ _ ?_
  refine wp_ret ?_
  obtain rfl := Option.some.inj H
  exact fin hk _ [(.pointer (some ⟨b3, 0, none⟩))] rfl ⟨rfl, trivial⟩ ⟨b3, A0_, p0_, _, rfl, (v0_).sub (Sub.l _ (Sub.refl _)), ((hs.addNil 3000).pick [(0, 2), (1, 3000)] rfl).dnil⟩

noncomputable def spec_l00Src_byte.f (x0 : S_l00Src) : Option (Int × Int × Int) :=
  (bif (decide ((w64 (x0.at_ + 1)) ≤ (x0.code.length : Int))) then (if 0 ≤ (w64 ((w64 (x0.at_ + 1)) - 1)) ∧ (w64 ((w64 (x0.at_ + 1)) - 1)) < (x0.code.length : Int) then (if 0 ≤ (w64 ((w64 (x0.at_ + 1)) - 1)) ∧ (w64 ((w64 (x0.at_ + 1)) - 1)) < (x0.code.length : Int) then (some ((IntKind.wrap .i64 (x0.code.getD (w64 ((w64 (x0.at_ + 1)) - 1)).toNat 0)), (w64 (x0.at_ + 1)), (Int.tmod (w64 ((w64 ((w64 (x0.seed * 31)) + (IntKind.wrap .i64 (x0.code.getD (w64 ((w64 (x0.at_ + 1)) - 1)).toNat 0)))) + 7)) 2147483648))) else none) else none) else (bif (decide ((w64 (x0.at_ + 1)) > 3000)) then (some (0, (w64 (x0.at_ + 1)), x0.seed)) else (some ((Int.tmod (IntKind.wrap .i64 (Int.tdiv (Int.tmod (w64 ((w64 (x0.seed * 1103515245)) + 12345)) 2147483648) 65536)) 256), (w64 (x0.at_ + 1)), (Int.tmod (w64 ((w64 (x0.seed * 1103515245)) + 12345)) 2147483648)))))
set_option maxRecDepth 100000 in
set_option maxHeartbeats 0 in
theorem spec_l00Src_byte_t (w0 : World) (b0_ : Nat) (x0 : S_l00Src) (A0_0 : Option Addr) (p0_0 : Nat) (k0_0 : Chunk) (v0_0 : View (Lay.int .u8) A0_0 p0_0 x0.code k0_0) (w0_0 : Has w0 k0_0) (hs0 : Sat (blks [(1, [(b0_, .cells #[.slice A0_0 x0.code.length p0_0, .int .i64 x0.at_, .int .i64 x0.seed] 65 (0, 0))])]) w0 w0 [(2, k0_0)] [(1, [(b0_, .cells #[.slice A0_0 x0.code.length p0_0, .int .i64 x0.at_, .int .i64 x0.seed] 65 (0, 0))])]) (r : Int × Int × Int) (H : spec_l00Src_byte.f x0 = some r) :
    Calls Tryz.prog 71 #[.pointer (some ⟨b0_, 0, none⟩)] w0 (Ret (fun v w => v = .int .i64 r.1 ∧ Sat (blks [(1, [(b0_, .cells #[.slice A0_0 x0.code.length p0_0, .int .i64 x0.at_, .int .i64 x0.seed] 65 (0, 0))])]) w0 w [] [(0, [(b0_, .cells #[.slice A0_0 x0.code.length p0_0, .int .i64 r.2.1, .int .i64 r.2.2] 65 (0, 0))])])) := by
  have hs := hs0
  unfold spec_l00Src_byte.f at H
  refine enter Tryz.func71 rfl Tryz.ntmps71 rfl fun a hk => ?_
  apply wp_seq_k; intro K1 hK1
  apply wp_region_lit
  refine sa _ rfl hk rfl rfl rfl fun a hk => ?_
  show wpList _ _ _ [] _ _
  refine wpList_nil ?_
  refine hK1 _ _ ?_
  apply wp_seq_k; intro K2 hK2
  apply wp_region_lit
  refine sm _ rfl hk rfl rfl rfl fun a hk => ?_
  refine snk rfl hk rfl rfl rfl fun a hk => ?_
  refine sf ⟨b0_, 1, none⟩ rfl hk rfl rfl rfl fd65_1 rfl fun a hk => ?_
  refine sl rfl hk rfl rfl rfl ag3 (box_cell hs (k := 1) rfl rfl) fun a hk => ?_
  refine sv (.int .i64 (w64 (x0.at_ + 1))) hk rfl rfl rfl fun a hk => ?_
  refine snk rfl hk rfl rfl rfl fun a hk => ?_
  refine sf ⟨b0_, 1, none⟩ rfl hk rfl rfl rfl fd65_1 rfl fun a hk => ?_
  refine ssx (cs' := #[.slice A0_0 x0.code.length p0_0, .int .i64 (w64 (x0.at_ + 1)), .int .i64 x0.seed]) 1 hs rfl rfl hk rfl rfl rfl rfl sz3 rfl rfl rfl rfl fun w a hk hs => ?_
  show wpList _ _ _ [] _ _
  refine wpList_nil ?_
  refine hK2 _ _ ?_
  apply wp_seq_k; intro K3 hK3
  apply wp_seq_k; intro K4 hK4
  refine wp_region_tree (.q 0 (.q 1 (.q 2 (.q 3 (.alt 4 (.alt 5 (.alt 6 (.alt 7 (.alt 8 (.alt 9 .done .stop) .stop) .stop) .stop) .stop) .stop))))) mo (by kernel_rfl) (hs.pick [(1, 1)] rfl) fun _ => ?_
  have hs := hs.drew
  refine tqst (.pointer (some ⟨b0_, 0, none⟩)) hk rfl rfl rfl rfl (fun w hs => sm _ rfl hk rfl rfl rfl fun a hk => qe hk) fun a hk => ?_
  refine tqst (.pointer (some ⟨b0_, 0, none⟩)) hk rfl rfl rfl rfl (fun w hs => snk rfl hk rfl rfl rfl fun a hk => qe hk) fun a hk => ?_
  refine tqst (.pointer (some ⟨b0_, 1, none⟩)) hk rfl rfl rfl rfl (fun w hs => sf ⟨b0_, 1, none⟩ rfl hk rfl rfl rfl fd65_1 rfl fun a hk => qe hk) fun a hk => ?_
  refine tqst (.int .i64 (w64 (x0.at_ + 1))) hk rfl rfl rfl rfl (fun w hs => sl rfl hk rfl rfl rfl ag3 (box_cell hs (k := 1) rfl rfl) fun a hk => qe hk) fun a hk => ?_
  refine tsst hk rfl rfl (fun K_r5_4 hK_r5_4 w hF => ?_) wt_stop
  have hs := hs.f hF
  refine sm _ rfl hk rfl rfl rfl fun a hk => ?_
  refine se (hs.pick [(1, 1)] rfl) hk (hK_r5_4 _ _ ?_)
  refine tsst hk rfl rfl (fun K_r5_5 hK_r5_5 w hF => ?_) wt_stop
  have hs := hs.f hF
  refine snk rfl hk rfl rfl rfl fun a hk => ?_
  refine se (hs.pick [(1, 1)] rfl) hk (hK_r5_5 _ _ ?_)
  refine tsst hk rfl rfl (fun K_r5_6 hK_r5_6 w hF => ?_) wt_stop
  have hs := hs.f hF
  refine sf ⟨b0_, 0, none⟩ rfl hk rfl rfl rfl fd65_0 rfl fun a hk => ?_
  refine se (hs.pick [(1, 1)] rfl) hk (hK_r5_6 _ _ ?_)
  refine tsst hk rfl rfl (fun K_r5_7 hK_r5_7 w hF => ?_) wt_stop
  have hs := hs.f hF
  refine sl rfl hk rfl rfl rfl ag28 (box_cell hs (k := 1) rfl rfl) fun a hk => ?_
  refine se (hs.pick [(1, 1)] rfl) hk (hK_r5_7 _ _ ?_)
  refine tsst hk rfl rfl (fun K_r5_8 hK_r5_8 w hF => ?_) wt_stop
  have hs := hs.f hF
  refine sle rfl hk rfl rfl rfl un28 fun a hk => ?_
  refine se (hs.pick [(1, 1)] rfl) hk (hK_r5_8 _ _ ?_)
  refine tsst hk rfl rfl (fun K_r5_9 hK_r5_9 w hF => ?_) wt_stop
  have hs := hs.f hF
  refine sv (.bool (decide ((w64 (x0.at_ + 1)) ≤ (x0.code.length : Int)))) hk rfl rfl rfl fun a hk => ?_
  refine se (hs.pick [(1, 1)] rfl) hk (hK_r5_9 _ _ ?_)
  refine wtl_nil fun w hF _ => ?_
  have hs := hs.f hF
  refine hK4 _ _ ?_
  rcases cond_some H with ⟨c6, H⟩ | ⟨c6, H⟩
  ·have hk := hk.lit 19 c6 rfl
   refine cnd_true hk rfl rfl ?_
   apply wp_seq_k; intro K7 hK7
   rcases ite_some H with ⟨c_r8_15_1, H⟩ | ⟨_, H⟩
   rotate_left
   ·cases H
   obtain ⟨R9, hR9⟩ : ∃ R : Act → World → Prop, R = fun a w => Kn [(0, (.pointer (some ⟨b0_, 0, none⟩)))] 76 a ∧ Sat (blks [(1, [(b0_, .cells #[.slice A0_0 x0.code.length p0_0, .int .i64 x0.at_, .int .i64 x0.seed] 65 (0, 0))])]) w0 w [(2, k0_0)] [(1, [(b0_, .cells #[.slice A0_0 x0.code.length p0_0, .int .i64 (w64 (x0.at_ + 1)), .int .i64 (Int.tmod (w64 ((w64 ((w64 (x0.seed * 31)) + (IntKind.wrap .i64 (x0.code.getD (w64 ((w64 (x0.at_ + 1)) - 1)).toNat 0)))) + 7)) 2147483648)] 65 (0, 0))])] := ⟨_, rfl⟩
   refine wp_cutq R9 ?_ ?_
   ·skip
    refine wp_region_tree (.q 0 (.q 1 (.q 2 (.q 3 (.q 6 (.q 7 (.q 8 (.q 10 (.q 11 (.q 12 (.alt 4 (.q 5 (.alt 9 (.alt 13 (.alt 14 (.alt 15 (.alt 16 (.alt 17 (.alt 18 (.alt 19 (.alt 20 (.alt 21 (.alt 22 (.alt 23 .done .stop) .stop) .stop) .stop) .stop) .stop) .stop) .stop) .stop) .stop) .stop) (.alt 13 (.q 14 (.alt 9 (.alt 15 (.alt 16 (.alt 17 (.alt 18 (.alt 19 (.alt 20 (.alt 21 (.alt 22 (.alt 23 .done .stop) .stop) .stop) .stop) .stop) .stop) .stop) .stop) .stop) .stop)) .stop))) (.alt 9 (.alt 4 (.q 5 (.alt 13 (.alt 14 (.alt 15 (.alt 16 (.alt 17 (.alt 18 (.alt 19 (.alt 20 (.alt 21 (.alt 22 (.alt 23 .done .stop) .stop) .stop) .stop) .stop) .stop) .stop) .stop) .stop) .stop) .stop)) (.alt 13 (.q 14 (.q 15 (.q 16 (.q 17 (.alt 4 (.alt 5 (.alt 18 (.alt 19 (.alt 20 (.alt 21 (.alt 22 (.alt 23 .done .stop) .stop) .stop) .stop) .stop) .stop) .stop) .stop))))) .stop)) (.alt 13 (.q 14 (.alt 4 (.q 5 (.alt 9 (.alt 15 (.alt 16 (.alt 17 (.alt 18 (.alt 19 (.alt 20 (.alt 21 (.alt 22 (.alt 23 .done .stop) .stop) .stop) .stop) .stop) .stop) .stop) .stop) .stop) .stop)) (.alt 9 (.q 15 (.q 16 (.q 17 (.alt 4 (.alt 5 (.alt 18 (.alt 19 (.alt 20 (.alt 21 (.alt 22 (.alt 23 .done .stop) .stop) .stop) .stop) .stop) .stop) .stop) .stop)))) .stop))) .stop))))))))))))) mo (by kernel_rfl) (hs.pick [] rfl) fun _ => ?_
    have hs := hs.drew
    refine tqst (.pointer (some ⟨b0_, 0, none⟩)) hk rfl rfl rfl rfl (fun w hs => sm _ rfl hk rfl rfl rfl fun a hk => qe hk) fun a hk => ?_
    refine tqst (.pointer (some ⟨b0_, 0, none⟩)) hk rfl rfl rfl rfl (fun w hs => sm _ rfl hk rfl rfl rfl fun a hk => qe hk) fun a hk => ?_
    refine tqst (.pointer (some ⟨b0_, 0, none⟩)) hk rfl rfl rfl rfl (fun w hs => snk rfl hk rfl rfl rfl fun a hk => qe hk) fun a hk => ?_
    refine tqst (.pointer (some ⟨b0_, 2, none⟩)) hk rfl rfl rfl rfl (fun w hs => sf ⟨b0_, 2, none⟩ rfl hk rfl rfl rfl fd65_2 rfl fun a hk => qe hk) fun a hk => ?_
    refine tqst (.pointer (some ⟨b0_, 0, none⟩)) hk rfl rfl rfl rfl (fun w hs => sm _ rfl hk rfl rfl rfl fun a hk => qe hk) fun a hk => ?_
    refine tqst (.pointer (some ⟨b0_, 0, none⟩)) hk rfl rfl rfl rfl (fun w hs => snk rfl hk rfl rfl rfl fun a hk => qe hk) fun a hk => ?_
    refine tqst (.pointer (some ⟨b0_, 0, none⟩)) hk rfl rfl rfl rfl (fun w hs => sf ⟨b0_, 0, none⟩ rfl hk rfl rfl rfl fd65_0 rfl fun a hk => qe hk) fun a hk => ?_
    refine tqst (.pointer (some ⟨b0_, 0, none⟩)) hk rfl rfl rfl rfl (fun w hs => sm _ rfl hk rfl rfl rfl fun a hk => qe hk) fun a hk => ?_
    refine tqst (.pointer (some ⟨b0_, 0, none⟩)) hk rfl rfl rfl rfl (fun w hs => snk rfl hk rfl rfl rfl fun a hk => qe hk) fun a hk => ?_
    refine tqst (.pointer (some ⟨b0_, 1, none⟩)) hk rfl rfl rfl rfl (fun w hs => sf ⟨b0_, 1, none⟩ rfl hk rfl rfl rfl fd65_1 rfl fun a hk => qe hk) fun a hk => ?_
    refine tsst hk rfl rfl (fun K_r8_4 hK_r8_4 w hF => ?_) ?_
    ·skip
     have hs := hs.f hF
     refine sl rfl hk rfl rfl rfl ag3 (box_cell hs (k := 1) rfl rfl) fun a hk => ?_
     refine se (hs.pick [] rfl) hk (hK_r8_4 _ _ ?_)
     refine tqst (.int .i64 (w64 (x0.seed * 31))) hk rfl rfl rfl rfl (fun w hs => sv (.int .i64 (w64 (x0.seed * 31))) hk rfl rfl rfl fun a hk => qe hk) fun a hk => ?_
     refine tsst hk rfl rfl (fun K_r8_9 hK_r8_9 w hF => ?_) ?_
     ·skip
      have hs := hs.f hF
      refine sl rfl hk rfl rfl rfl ag28 (box_cell hs (k := 1) rfl rfl) fun a hk => ?_
      refine se (hs.pick [] rfl) hk (hK_r8_9 _ _ ?_)
      refine tsst hk rfl rfl (fun K_r8_13 hK_r8_13 w hF => ?_) wt_stop
      have hs := hs.f hF
      refine sl rfl hk rfl rfl rfl ag3 (box_cell hs (k := 1) rfl rfl) fun a hk => ?_
      refine se (hs.pick [] rfl) hk (hK_r8_13 _ _ ?_)
      refine tsst hk rfl rfl (fun K_r8_14 hK_r8_14 w hF => ?_) wt_stop
      have hs := hs.f hF
      refine sv (.int .i64 (w64 ((w64 (x0.at_ + 1)) - 1))) hk rfl rfl rfl fun a hk => ?_
      refine se (hs.pick [] rfl) hk (hK_r8_14 _ _ ?_)
      refine tsst hk rfl rfl (fun K_r8_15 hK_r8_15 w hF => ?_) wt_stop
      have hs := hs.f hF
      obtain ⟨b_r8_15_2, q_r8_15_3, hAc_r8_15_1⟩ := (v0_0).some_ (w64 ((w64 (x0.at_ + 1)) - 1)) c_r8_15_1.1 c_r8_15_1.2
      refine si rfl hk rfl rfl rfl rfl un28 sz5 c_r8_15_1.1 c_r8_15_1.2 hAc_r8_15_1 fun a hk => ?_
      refine se (hs.pick [] rfl) hk (hK_r8_15 _ _ ?_)
      refine tsst hk rfl rfl (fun K_r8_16 hK_r8_16 w hF => ?_) wt_stop
      have hs := hs.f hF
      obtain ⟨_, rfl, e_r8_16_1⟩ := (v0_0).at_ 0 (w64 ((w64 (x0.at_ + 1)) - 1)) c_r8_15_1.1 c_r8_15_1.2
      refine sl (v := (.int .u8 (x0.code.getD (w64 ((w64 (x0.at_ + 1)) - 1)).toNat 0))) rfl hk rfl rfl rfl ag5 ((e_r8_16_1 0 _ rfl).cell (hs.hasD (k := 2) rfl)) fun a hk => ?_
      refine se (hs.pick [] rfl) hk (hK_r8_16 _ _ ?_)
      refine tsst hk rfl rfl (fun K_r8_17 hK_r8_17 w hF => ?_) wt_stop
      have hs := hs.f hF
      refine scn rfl hk rfl rfl rfl un3 un5 fun a hk => ?_
      refine se (hs.pick [] rfl) hk (hK_r8_17 _ _ ?_)
      refine tsst hk rfl rfl (fun K_r8_18 hK_r8_18 w hF => ?_) wt_stop
      have hs := hs.f hF
      refine sv (.int .i64 (w64 ((w64 (x0.seed * 31)) + (IntKind.wrap .i64 (x0.code.getD (w64 ((w64 (x0.at_ + 1)) - 1)).toNat 0))))) hk rfl rfl rfl fun a hk => ?_
      refine se (hs.pick [] rfl) hk (hK_r8_18 _ _ ?_)
      refine tsst hk rfl rfl (fun K_r8_19 hK_r8_19 w hF => ?_) wt_stop
      have hs := hs.f hF
      refine sv (.int .i64 (w64 ((w64 ((w64 (x0.seed * 31)) + (IntKind.wrap .i64 (x0.code.getD (w64 ((w64 (x0.at_ + 1)) - 1)).toNat 0)))) + 7))) hk rfl rfl rfl fun a hk => ?_
      refine se (hs.pick [] rfl) hk (hK_r8_19 _ _ ?_)
      refine tsst hk rfl rfl (fun K_r8_20 hK_r8_20 w hF => ?_) wt_stop
      have hs := hs.f hF
      refine sv (.int .i64 (Int.tmod (w64 ((w64 ((w64 (x0.seed * 31)) + (IntKind.wrap .i64 (x0.code.getD (w64 ((w64 (x0.at_ + 1)) - 1)).toNat 0)))) + 7)) 2147483648)) hk rfl rfl rfl fun a hk => ?_
      refine se (hs.pick [] rfl) hk (hK_r8_20 _ _ ?_)
      refine tsst hk rfl rfl (fun K_r8_21 hK_r8_21 w hF => ?_) wt_stop
      have hs := hs.f hF
      refine snk rfl hk rfl rfl rfl fun a hk => ?_
      refine se (hs.pick [] rfl) hk (hK_r8_21 _ _ ?_)
      refine tsst hk rfl rfl (fun K_r8_22 hK_r8_22 w hF => ?_) wt_stop
      have hs := hs.f hF
      refine sf ⟨b0_, 2, none⟩ rfl hk rfl rfl rfl fd65_2 rfl fun a hk => ?_
      refine se (hs.pick [] rfl) hk (hK_r8_22 _ _ ?_)
      refine tsst hk rfl rfl (fun K_r8_23 hK_r8_23 w hF => ?_) wt_stop
      have hs := hs.f hF
      refine ssx (cs' := #[.slice A0_0 x0.code.length p0_0, .int .i64 (w64 (x0.at_ + 1)), .int .i64 (Int.tmod (w64 ((w64 ((w64 (x0.seed * 31)) + (IntKind.wrap .i64 (x0.code.getD (w64 ((w64 (x0.at_ + 1)) - 1)).toNat 0)))) + 7)) 2147483648)]) 1 hs rfl rfl hk rfl rfl rfl rfl sz3 rfl rfl rfl rfl fun w a hk hs => ?_
      refine se (hs.pick [] rfl) hk (hK_r8_23 _ _ ?_)
      refine wtl_nil fun w hF _ => ?_
      have hs := hs.f hF
      show R9 _ _
      rw [hR9]
      exact ⟨(hk.c 0 rfl hk.k), (hs.pick [(1, 1)] rfl)⟩
     refine tsst hk rfl rfl (fun K_r8_13 hK_r8_13 w hF => ?_) wt_stop
     have hs := hs.f hF
     refine sl rfl hk rfl rfl rfl ag3 (box_cell hs (k := 1) rfl rfl) fun a hk => ?_
     refine se (hs.pick [] rfl) hk (hK_r8_13 _ _ ?_)
     refine tqst (.int .i64 (w64 ((w64 (x0.at_ + 1)) - 1))) hk rfl rfl rfl rfl (fun w hs => sv (.int .i64 (w64 ((w64 (x0.at_ + 1)) - 1))) hk rfl rfl rfl fun a hk => qe hk) fun a hk => ?_
     refine tsst hk rfl rfl (fun K_r8_9 hK_r8_9 w hF => ?_) wt_stop
     have hs := hs.f hF
     refine sl rfl hk rfl rfl rfl ag28 (box_cell hs (k := 1) rfl rfl) fun a hk => ?_
     refine se (hs.pick [] rfl) hk (hK_r8_9 _ _ ?_)
     refine tsst hk rfl rfl (fun K_r8_15 hK_r8_15 w hF => ?_) wt_stop
     have hs := hs.f hF
     obtain ⟨b_r8_15_2, q_r8_15_3, hAc_r8_15_1⟩ := (v0_0).some_ (w64 ((w64 (x0.at_ + 1)) - 1)) c_r8_15_1.1 c_r8_15_1.2
     refine si rfl hk rfl rfl rfl rfl un28 sz5 c_r8_15_1.1 c_r8_15_1.2 hAc_r8_15_1 fun a hk => ?_
     refine se (hs.pick [] rfl) hk (hK_r8_15 _ _ ?_)
     refine tsst hk rfl rfl (fun K_r8_16 hK_r8_16 w hF => ?_) wt_stop
     have hs := hs.f hF
     obtain ⟨_, rfl, e_r8_16_1⟩ := (v0_0).at_ 0 (w64 ((w64 (x0.at_ + 1)) - 1)) c_r8_15_1.1 c_r8_15_1.2
     refine sl (v := (.int .u8 (x0.code.getD (w64 ((w64 (x0.at_ + 1)) - 1)).toNat 0))) rfl hk rfl rfl rfl ag5 ((e_r8_16_1 0 _ rfl).cell (hs.hasD (k := 2) rfl)) fun a hk => ?_
     refine se (hs.pick [] rfl) hk (hK_r8_16 _ _ ?_)
     refine tsst hk rfl rfl (fun K_r8_17 hK_r8_17 w hF => ?_) wt_stop
     have hs := hs.f hF
     refine scn rfl hk rfl rfl rfl un3 un5 fun a hk => ?_
     refine se (hs.pick [] rfl) hk (hK_r8_17 _ _ ?_)
     refine tsst hk rfl rfl (fun K_r8_18 hK_r8_18 w hF => ?_) wt_stop
     have hs := hs.f hF
     refine sv (.int .i64 (w64 ((w64 (x0.seed * 31)) + (IntKind.wrap .i64 (x0.code.getD (w64 ((w64 (x0.at_ + 1)) - 1)).toNat 0))))) hk rfl rfl rfl fun a hk => ?_
     refine se (hs.pick [] rfl) hk (hK_r8_18 _ _ ?_)
     refine tsst hk rfl rfl (fun K_r8_19 hK_r8_19 w hF => ?_) wt_stop
     have hs := hs.f hF
     refine sv (.int .i64 (w64 ((w64 ((w64 (x0.seed * 31)) + (IntKind.wrap .i64 (x0.code.getD (w64 ((w64 (x0.at_ + 1)) - 1)).toNat 0)))) + 7))) hk rfl rfl rfl fun a hk => ?_
     refine se (hs.pick [] rfl) hk (hK_r8_19 _ _ ?_)
     refine tsst hk rfl rfl (fun K_r8_20 hK_r8_20 w hF => ?_) wt_stop
     have hs := hs.f hF
     refine sv (.int .i64 (Int.tmod (w64 ((w64 ((w64 (x0.seed * 31)) + (IntKind.wrap .i64 (x0.code.getD (w64 ((w64 (x0.at_ + 1)) - 1)).toNat 0)))) + 7)) 2147483648)) hk rfl rfl rfl fun a hk => ?_
     refine se (hs.pick [] rfl) hk (hK_r8_20 _ _ ?_)
     refine tsst hk rfl rfl (fun K_r8_21 hK_r8_21 w hF => ?_) wt_stop
     have hs := hs.f hF
     refine snk rfl hk rfl rfl rfl fun a hk => ?_
     refine se (hs.pick [] rfl) hk (hK_r8_21 _ _ ?_)
     refine tsst hk rfl rfl (fun K_r8_22 hK_r8_22 w hF => ?_) wt_stop
     have hs := hs.f hF
     refine sf ⟨b0_, 2, none⟩ rfl hk rfl rfl rfl fd65_2 rfl fun a hk => ?_
     refine se (hs.pick [] rfl) hk (hK_r8_22 _ _ ?_)
     refine tsst hk rfl rfl (fun K_r8_23 hK_r8_23 w hF => ?_) wt_stop
     have hs := hs.f hF
     refine ssx (cs' := #[.slice A0_0 x0.code.length p0_0, .int .i64 (w64 (x0.at_ + 1)), .int .i64 (Int.tmod (w64 ((w64 ((w64 (x0.seed * 31)) + (IntKind.wrap .i64 (x0.code.getD (w64 ((w64 (x0.at_ + 1)) - 1)).toNat 0)))) + 7)) 2147483648)]) 1 hs rfl rfl hk rfl rfl rfl rfl sz3 rfl rfl rfl rfl fun w a hk hs => ?_
     refine se (hs.pick [] rfl) hk (hK_r8_23 _ _ ?_)
     refine wtl_nil fun w hF _ => ?_
     have hs := hs.f hF
     show R9 _ _
     rw [hR9]
     exact ⟨(hk.c 0 rfl hk.k), (hs.pick [(1, 1)] rfl)⟩
    refine tsst hk rfl rfl (fun K_r8_9 hK_r8_9 w hF => ?_) ?_
    ·skip
     have hs := hs.f hF
     refine sl rfl hk rfl rfl rfl ag28 (box_cell hs (k := 1) rfl rfl) fun a hk => ?_
     refine se (hs.pick [] rfl) hk (hK_r8_9 _ _ ?_)
     refine tsst hk rfl rfl (fun K_r8_4 hK_r8_4 w hF => ?_) ?_
     ·skip
      have hs := hs.f hF
      refine sl rfl hk rfl rfl rfl ag3 (box_cell hs (k := 1) rfl rfl) fun a hk => ?_
      refine se (hs.pick [] rfl) hk (hK_r8_4 _ _ ?_)
      refine tqst (.int .i64 (w64 (x0.seed * 31))) hk rfl rfl rfl rfl (fun w hs => sv (.int .i64 (w64 (x0.seed * 31))) hk rfl rfl rfl fun a hk => qe hk) fun a hk => ?_
      refine tsst hk rfl rfl (fun K_r8_13 hK_r8_13 w hF => ?_) wt_stop
      have hs := hs.f hF
      refine sl rfl hk rfl rfl rfl ag3 (box_cell hs (k := 1) rfl rfl) fun a hk => ?_
      refine se (hs.pick [] rfl) hk (hK_r8_13 _ _ ?_)
      refine tsst hk rfl rfl (fun K_r8_14 hK_r8_14 w hF => ?_) wt_stop
      have hs := hs.f hF
      refine sv (.int .i64 (w64 ((w64 (x0.at_ + 1)) - 1))) hk rfl rfl rfl fun a hk => ?_
      refine se (hs.pick [] rfl) hk (hK_r8_14 _ _ ?_)
      refine tsst hk rfl rfl (fun K_r8_15 hK_r8_15 w hF => ?_) wt_stop
      have hs := hs.f hF
      obtain ⟨b_r8_15_2, q_r8_15_3, hAc_r8_15_1⟩ := (v0_0).some_ (w64 ((w64 (x0.at_ + 1)) - 1)) c_r8_15_1.1 c_r8_15_1.2
      refine si rfl hk rfl rfl rfl rfl un28 sz5 c_r8_15_1.1 c_r8_15_1.2 hAc_r8_15_1 fun a hk => ?_
      refine se (hs.pick [] rfl) hk (hK_r8_15 _ _ ?_)
      refine tsst hk rfl rfl (fun K_r8_16 hK_r8_16 w hF => ?_) wt_stop
      have hs := hs.f hF
      obtain ⟨_, rfl, e_r8_16_1⟩ := (v0_0).at_ 0 (w64 ((w64 (x0.at_ + 1)) - 1)) c_r8_15_1.1 c_r8_15_1.2
      refine sl (v := (.int .u8 (x0.code.getD (w64 ((w64 (x0.at_ + 1)) - 1)).toNat 0))) rfl hk rfl rfl rfl ag5 ((e_r8_16_1 0 _ rfl).cell (hs.hasD (k := 2) rfl)) fun a hk => ?_
      refine se (hs.pick [] rfl) hk (hK_r8_16 _ _ ?_)
      refine tsst hk rfl rfl (fun K_r8_17 hK_r8_17 w hF => ?_) wt_stop
      have hs := hs.f hF
      refine scn rfl hk rfl rfl rfl un3 un5 fun a hk => ?_
      refine se (hs.pick [] rfl) hk (hK_r8_17 _ _ ?_)
      refine tsst hk rfl rfl (fun K_r8_18 hK_r8_18 w hF => ?_) wt_stop
      have hs := hs.f hF
      refine sv (.int .i64 (w64 ((w64 (x0.seed * 31)) + (IntKind.wrap .i64 (x0.code.getD (w64 ((w64 (x0.at_ + 1)) - 1)).toNat 0))))) hk rfl rfl rfl fun a hk => ?_
      refine se (hs.pick [] rfl) hk (hK_r8_18 _ _ ?_)
      refine tsst hk rfl rfl (fun K_r8_19 hK_r8_19 w hF => ?_) wt_stop
      have hs := hs.f hF
      refine sv (.int .i64 (w64 ((w64 ((w64 (x0.seed * 31)) + (IntKind.wrap .i64 (x0.code.getD (w64 ((w64 (x0.at_ + 1)) - 1)).toNat 0)))) + 7))) hk rfl rfl rfl fun a hk => ?_
      refine se (hs.pick [] rfl) hk (hK_r8_19 _ _ ?_)
      refine tsst hk rfl rfl (fun K_r8_20 hK_r8_20 w hF => ?_) wt_stop
      have hs := hs.f hF
      refine sv (.int .i64 (Int.tmod (w64 ((w64 ((w64 (x0.seed * 31)) + (IntKind.wrap .i64 (x0.code.getD (w64 ((w64 (x0.at_ + 1)) - 1)).toNat 0)))) + 7)) 2147483648)) hk rfl rfl rfl fun a hk => ?_
      refine se (hs.pick [] rfl) hk (hK_r8_20 _ _ ?_)
      refine tsst hk rfl rfl (fun K_r8_21 hK_r8_21 w hF => ?_) wt_stop
      have hs := hs.f hF
      refine snk rfl hk rfl rfl rfl fun a hk => ?_
      refine se (hs.pick [] rfl) hk (hK_r8_21 _ _ ?_)
      refine tsst hk rfl rfl (fun K_r8_22 hK_r8_22 w hF => ?_) wt_stop
      have hs := hs.f hF
      refine sf ⟨b0_, 2, none⟩ rfl hk rfl rfl rfl fd65_2 rfl fun a hk => ?_
      refine se (hs.pick [] rfl) hk (hK_r8_22 _ _ ?_)
      refine tsst hk rfl rfl (fun K_r8_23 hK_r8_23 w hF => ?_) wt_stop
      have hs := hs.f hF
      refine ssx (cs' := #[.slice A0_0 x0.code.length p0_0, .int .i64 (w64 (x0.at_ + 1)), .int .i64 (Int.tmod (w64 ((w64 ((w64 (x0.seed * 31)) + (IntKind.wrap .i64 (x0.code.getD (w64 ((w64 (x0.at_ + 1)) - 1)).toNat 0)))) + 7)) 2147483648)]) 1 hs rfl rfl hk rfl rfl rfl rfl sz3 rfl rfl rfl rfl fun w a hk hs => ?_
      refine se (hs.pick [] rfl) hk (hK_r8_23 _ _ ?_)
      refine wtl_nil fun w hF _ => ?_
      have hs := hs.f hF
      show R9 _ _
      rw [hR9]
      exact ⟨(hk.c 0 rfl hk.k), (hs.pick [(1, 1)] rfl)⟩
     refine tsst hk rfl rfl (fun K_r8_13 hK_r8_13 w hF => ?_) wt_stop
     have hs := hs.f hF
     refine sl rfl hk rfl rfl rfl ag3 (box_cell hs (k := 1) rfl rfl) fun a hk => ?_
     refine se (hs.pick [] rfl) hk (hK_r8_13 _ _ ?_)
     refine tqst (.int .i64 (w64 ((w64 (x0.at_ + 1)) - 1))) hk rfl rfl rfl rfl (fun w hs => sv (.int .i64 (w64 ((w64 (x0.at_ + 1)) - 1))) hk rfl rfl rfl fun a hk => qe hk) fun a hk => ?_
     obtain ⟨b_r8_15_2, q_r8_15_3, hAc_r8_15_1⟩ := (v0_0).some_ (w64 ((w64 (x0.at_ + 1)) - 1)) c_r8_15_1.1 c_r8_15_1.2
     refine tqst (.pointer (some (padd A0_0 ((w64 ((w64 (x0.at_ + 1)) - 1)).toNat * 1)))) hk rfl rfl rfl rfl (fun w hs => si rfl hk rfl rfl rfl rfl un28 sz5 c_r8_15_1.1 c_r8_15_1.2 hAc_r8_15_1 fun a hk => qe hk) fun a hk => ?_
     obtain ⟨_, rfl, e_r8_16_1⟩ := (v0_0).at_ 0 (w64 ((w64 (x0.at_ + 1)) - 1)) c_r8_15_1.1 c_r8_15_1.2
     refine tqst (.int .u8 (x0.code.getD (w64 ((w64 (x0.at_ + 1)) - 1)).toNat 0)) hk rfl rfl rfl rfl (fun w hs => sl (v := (.int .u8 (x0.code.getD (w64 ((w64 (x0.at_ + 1)) - 1)).toNat 0))) rfl hk rfl rfl rfl ag5 ((e_r8_16_1 0 _ rfl).cell (hs.hasD (k := 2) rfl)) fun a hk => qe hk) fun a hk => ?_
     refine tqst (.int .i64 (IntKind.wrap .i64 (x0.code.getD (w64 ((w64 (x0.at_ + 1)) - 1)).toNat 0))) hk rfl rfl rfl rfl (fun w hs => scn rfl hk rfl rfl rfl un3 un5 fun a hk => qe hk) fun a hk => ?_
     refine tsst hk rfl rfl (fun K_r8_4 hK_r8_4 w hF => ?_) wt_stop
     have hs := hs.f hF
     refine sl rfl hk rfl rfl rfl ag3 (box_cell hs (k := 1) rfl rfl) fun a hk => ?_
     refine se (hs.pick [] rfl) hk (hK_r8_4 _ _ ?_)
     refine tsst hk rfl rfl (fun K_r8_5 hK_r8_5 w hF => ?_) wt_stop
     have hs := hs.f hF
     refine sv (.int .i64 (w64 (x0.seed * 31))) hk rfl rfl rfl fun a hk => ?_
     refine se (hs.pick [] rfl) hk (hK_r8_5 _ _ ?_)
     refine tsst hk rfl rfl (fun K_r8_18 hK_r8_18 w hF => ?_) wt_stop
     have hs := hs.f hF
     refine sv (.int .i64 (w64 ((w64 (x0.seed * 31)) + (IntKind.wrap .i64 (x0.code.getD (w64 ((w64 (x0.at_ + 1)) - 1)).toNat 0))))) hk rfl rfl rfl fun a hk => ?_
     refine se (hs.pick [] rfl) hk (hK_r8_18 _ _ ?_)
     refine tsst hk rfl rfl (fun K_r8_19 hK_r8_19 w hF => ?_) wt_stop
     have hs := hs.f hF
     refine sv (.int .i64 (w64 ((w64 ((w64 (x0.seed * 31)) + (IntKind.wrap .i64 (x0.code.getD (w64 ((w64 (x0.at_ + 1)) - 1)).toNat 0)))) + 7))) hk rfl rfl rfl fun a hk => ?_
     refine se (hs.pick [] rfl) hk (hK_r8_19 _ _ ?_)
     refine tsst hk rfl rfl (fun K_r8_20 hK_r8_20 w hF => ?_) wt_stop
     have hs := hs.f hF
     refine sv (.int .i64 (Int.tmod (w64 ((w64 ((w64 (x0.seed * 31)) + (IntKind.wrap .i64 (x0.code.getD (w64 ((w64 (x0.at_ + 1)) - 1)).toNat 0)))) + 7)) 2147483648)) hk rfl rfl rfl fun a hk => ?_
     refine se (hs.pick [] rfl) hk (hK_r8_20 _ _ ?_)
     refine tsst hk rfl rfl (fun K_r8_21 hK_r8_21 w hF => ?_) wt_stop
     have hs := hs.f hF
     refine snk rfl hk rfl rfl rfl fun a hk => ?_
     refine se (hs.pick [] rfl) hk (hK_r8_21 _ _ ?_)
     refine tsst hk rfl rfl (fun K_r8_22 hK_r8_22 w hF => ?_) wt_stop
     have hs := hs.f hF
     refine sf ⟨b0_, 2, none⟩ rfl hk rfl rfl rfl fd65_2 rfl fun a hk => ?_
     refine se (hs.pick [] rfl) hk (hK_r8_22 _ _ ?_)
     refine tsst hk rfl rfl (fun K_r8_23 hK_r8_23 w hF => ?_) wt_stop
     have hs := hs.f hF
     refine ssx (cs' := #[.slice A0_0 x0.code.length p0_0, .int .i64 (w64 (x0.at_ + 1)), .int .i64 (Int.tmod (w64 ((w64 ((w64 (x0.seed * 31)) + (IntKind.wrap .i64 (x0.code.getD (w64 ((w64 (x0.at_ + 1)) - 1)).toNat 0)))) + 7)) 2147483648)]) 1 hs rfl rfl hk rfl rfl rfl rfl sz3 rfl rfl rfl rfl fun w a hk hs => ?_
     refine se (hs.pick [] rfl) hk (hK_r8_23 _ _ ?_)
     refine wtl_nil fun w hF _ => ?_
     have hs := hs.f hF
     show R9 _ _
     rw [hR9]
     exact ⟨(hk.c 0 rfl hk.k), (hs.pick [(1, 1)] rfl)⟩
    refine tsst hk rfl rfl (fun K_r8_13 hK_r8_13 w hF => ?_) wt_stop
    have hs := hs.f hF
    refine sl rfl hk rfl rfl rfl ag3 (box_cell hs (k := 1) rfl rfl) fun a hk => ?_
    refine se (hs.pick [] rfl) hk (hK_r8_13 _ _ ?_)
    refine tqst (.int .i64 (w64 ((w64 (x0.at_ + 1)) - 1))) hk rfl rfl rfl rfl (fun w hs => sv (.int .i64 (w64 ((w64 (x0.at_ + 1)) - 1))) hk rfl rfl rfl fun a hk => qe hk) fun a hk => ?_
    refine tsst hk rfl rfl (fun K_r8_4 hK_r8_4 w hF => ?_) ?_
    ·skip
     have hs := hs.f hF
     refine sl rfl hk rfl rfl rfl ag3 (box_cell hs (k := 1) rfl rfl) fun a hk => ?_
     refine se (hs.pick [] rfl) hk (hK_r8_4 _ _ ?_)
     refine tqst (.int .i64 (w64 (x0.seed * 31))) hk rfl rfl rfl rfl (fun w hs => sv (.int .i64 (w64 (x0.seed * 31))) hk rfl rfl rfl fun a hk => qe hk) fun a hk => ?_
     refine tsst hk rfl rfl (fun K_r8_9 hK_r8_9 w hF => ?_) wt_stop
     have hs := hs.f hF
     refine sl rfl hk rfl rfl rfl ag28 (box_cell hs (k := 1) rfl rfl) fun a hk => ?_
     refine se (hs.pick [] rfl) hk (hK_r8_9 _ _ ?_)
     refine tsst hk rfl rfl (fun K_r8_15 hK_r8_15 w hF => ?_) wt_stop
     have hs := hs.f hF
     obtain ⟨b_r8_15_2, q_r8_15_3, hAc_r8_15_1⟩ := (v0_0).some_ (w64 ((w64 (x0.at_ + 1)) - 1)) c_r8_15_1.1 c_r8_15_1.2
     refine si rfl hk rfl rfl rfl rfl un28 sz5 c_r8_15_1.1 c_r8_15_1.2 hAc_r8_15_1 fun a hk => ?_
     refine se (hs.pick [] rfl) hk (hK_r8_15 _ _ ?_)
     refine tsst hk rfl rfl (fun K_r8_16 hK_r8_16 w hF => ?_) wt_stop
     have hs := hs.f hF
     obtain ⟨_, rfl, e_r8_16_1⟩ := (v0_0).at_ 0 (w64 ((w64 (x0.at_ + 1)) - 1)) c_r8_15_1.1 c_r8_15_1.2
     refine sl (v := (.int .u8 (x0.code.getD (w64 ((w64 (x0.at_ + 1)) - 1)).toNat 0))) rfl hk rfl rfl rfl ag5 ((e_r8_16_1 0 _ rfl).cell (hs.hasD (k := 2) rfl)) fun a hk => ?_
     refine se (hs.pick [] rfl) hk (hK_r8_16 _ _ ?_)
     refine tsst hk rfl rfl (fun K_r8_17 hK_r8_17 w hF => ?_) wt_stop
     have hs := hs.f hF
     refine scn rfl hk rfl rfl rfl un3 un5 fun a hk => ?_
     refine se (hs.pick [] rfl) hk (hK_r8_17 _ _ ?_)
     refine tsst hk rfl rfl (fun K_r8_18 hK_r8_18 w hF => ?_) wt_stop
     have hs := hs.f hF
     refine sv (.int .i64 (w64 ((w64 (x0.seed * 31)) + (IntKind.wrap .i64 (x0.code.getD (w64 ((w64 (x0.at_ + 1)) - 1)).toNat 0))))) hk rfl rfl rfl fun a hk => ?_
     refine se (hs.pick [] rfl) hk (hK_r8_18 _ _ ?_)
     refine tsst hk rfl rfl (fun K_r8_19 hK_r8_19 w hF => ?_) wt_stop
     have hs := hs.f hF
     refine sv (.int .i64 (w64 ((w64 ((w64 (x0.seed * 31)) + (IntKind.wrap .i64 (x0.code.getD (w64 ((w64 (x0.at_ + 1)) - 1)).toNat 0)))) + 7))) hk rfl rfl rfl fun a hk => ?_
     refine se (hs.pick [] rfl) hk (hK_r8_19 _ _ ?_)
     refine tsst hk rfl rfl (fun K_r8_20 hK_r8_20 w hF => ?_) wt_stop
     have hs := hs.f hF
     refine sv (.int .i64 (Int.tmod (w64 ((w64 ((w64 (x0.seed * 31)) + (IntKind.wrap .i64 (x0.code.getD (w64 ((w64 (x0.at_ + 1)) - 1)).toNat 0)))) + 7)) 2147483648)) hk rfl rfl rfl fun a hk => ?_
     refine se (hs.pick [] rfl) hk (hK_r8_20 _ _ ?_)
     refine tsst hk rfl rfl (fun K_r8_21 hK_r8_21 w hF => ?_) wt_stop
     have hs := hs.f hF
     refine snk rfl hk rfl rfl rfl fun a hk => ?_
     refine se (hs.pick [] rfl) hk (hK_r8_21 _ _ ?_)
     refine tsst hk rfl rfl (fun K_r8_22 hK_r8_22 w hF => ?_) wt_stop
     have hs := hs.f hF
     refine sf ⟨b0_, 2, none⟩ rfl hk rfl rfl rfl fd65_2 rfl fun a hk => ?_
     refine se (hs.pick [] rfl) hk (hK_r8_22 _ _ ?_)
     refine tsst hk rfl rfl (fun K_r8_23 hK_r8_23 w hF => ?_) wt_stop
     have hs := hs.f hF
     refine ssx (cs' := #[.slice A0_0 x0.code.length p0_0, .int .i64 (w64 (x0.at_ + 1)), .int .i64 (Int.tmod (w64 ((w64 ((w64 (x0.seed * 31)) + (IntKind.wrap .i64 (x0.code.getD (w64 ((w64 (x0.at_ + 1)) - 1)).toNat 0)))) + 7)) 2147483648)]) 1 hs rfl rfl hk rfl rfl rfl rfl sz3 rfl rfl rfl rfl fun w a hk hs => ?_
     refine se (hs.pick [] rfl) hk (hK_r8_23 _ _ ?_)
     refine wtl_nil fun w hF _ => ?_
     have hs := hs.f hF
     show R9 _ _
     rw [hR9]
     exact ⟨(hk.c 0 rfl hk.k), (hs.pick [(1, 1)] rfl)⟩
    refine tsst hk rfl rfl (fun K_r8_9 hK_r8_9 w hF => ?_) wt_stop
    have hs := hs.f hF
    refine sl rfl hk rfl rfl rfl ag28 (box_cell hs (k := 1) rfl rfl) fun a hk => ?_
    refine se (hs.pick [] rfl) hk (hK_r8_9 _ _ ?_)
    obtain ⟨b_r8_15_2, q_r8_15_3, hAc_r8_15_1⟩ := (v0_0).some_ (w64 ((w64 (x0.at_ + 1)) - 1)) c_r8_15_1.1 c_r8_15_1.2
    refine tqst (.pointer (some (padd A0_0 ((w64 ((w64 (x0.at_ + 1)) - 1)).toNat * 1)))) hk rfl rfl rfl rfl (fun w hs => si rfl hk rfl rfl rfl rfl un28 sz5 c_r8_15_1.1 c_r8_15_1.2 hAc_r8_15_1 fun a hk => qe hk) fun a hk => ?_
    obtain ⟨_, rfl, e_r8_16_1⟩ := (v0_0).at_ 0 (w64 ((w64 (x0.at_ + 1)) - 1)) c_r8_15_1.1 c_r8_15_1.2
    refine tqst (.int .u8 (x0.code.getD (w64 ((w64 (x0.at_ + 1)) - 1)).toNat 0)) hk rfl rfl rfl rfl (fun w hs => sl (v := (.int .u8 (x0.code.getD (w64 ((w64 (x0.at_ + 1)) - 1)).toNat 0))) rfl hk rfl rfl rfl ag5 ((e_r8_16_1 0 _ rfl).cell (hs.hasD (k := 2) rfl)) fun a hk => qe hk) fun a hk => ?_
    refine tqst (.int .i64 (IntKind.wrap .i64 (x0.code.getD (w64 ((w64 (x0.at_ + 1)) - 1)).toNat 0))) hk rfl rfl rfl rfl (fun w hs => scn rfl hk rfl rfl rfl un3 un5 fun a hk => qe hk) fun a hk => ?_
    refine tsst hk rfl rfl (fun K_r8_4 hK_r8_4 w hF => ?_) wt_stop
    have hs := hs.f hF
    refine sl rfl hk rfl rfl rfl ag3 (box_cell hs (k := 1) rfl rfl) fun a hk => ?_
    refine se (hs.pick [] rfl) hk (hK_r8_4 _ _ ?_)
    refine tsst hk rfl rfl (fun K_r8_5 hK_r8_5 w hF => ?_) wt_stop
    have hs := hs.f hF
    refine sv (.int .i64 (w64 (x0.seed * 31))) hk rfl rfl rfl fun a hk => ?_
    refine se (hs.pick [] rfl) hk (hK_r8_5 _ _ ?_)
    refine tsst hk rfl rfl (fun K_r8_18 hK_r8_18 w hF => ?_) wt_stop
    have hs := hs.f hF
    refine sv (.int .i64 (w64 ((w64 (x0.seed * 31)) + (IntKind.wrap .i64 (x0.code.getD (w64 ((w64 (x0.at_ + 1)) - 1)).toNat 0))))) hk rfl rfl rfl fun a hk => ?_
    refine se (hs.pick [] rfl) hk (hK_r8_18 _ _ ?_)
    refine tsst hk rfl rfl (fun K_r8_19 hK_r8_19 w hF => ?_) wt_stop
    have hs := hs.f hF
    refine sv (.int .i64 (w64 ((w64 ((w64 (x0.seed * 31)) + (IntKind.wrap .i64 (x0.code.getD (w64 ((w64 (x0.at_ + 1)) - 1)).toNat 0)))) + 7))) hk rfl rfl rfl fun a hk => ?_
    refine se (hs.pick [] rfl) hk (hK_r8_19 _ _ ?_)
    refine tsst hk rfl rfl (fun K_r8_20 hK_r8_20 w hF => ?_) wt_stop
    have hs := hs.f hF
    refine sv (.int .i64 (Int.tmod (w64 ((w64 ((w64 (x0.seed * 31)) + (IntKind.wrap .i64 (x0.code.getD (w64 ((w64 (x0.at_ + 1)) - 1)).toNat 0)))) + 7)) 2147483648)) hk rfl rfl rfl fun a hk => ?_
    refine se (hs.pick [] rfl) hk (hK_r8_20 _ _ ?_)
    refine tsst hk rfl rfl (fun K_r8_21 hK_r8_21 w hF => ?_) wt_stop
    have hs := hs.f hF
    refine snk rfl hk rfl rfl rfl fun a hk => ?_
    refine se (hs.pick [] rfl) hk (hK_r8_21 _ _ ?_)
    refine tsst hk rfl rfl (fun K_r8_22 hK_r8_22 w hF => ?_) wt_stop
    have hs := hs.f hF
    refine sf ⟨b0_, 2, none⟩ rfl hk rfl rfl rfl fd65_2 rfl fun a hk => ?_
    refine se (hs.pick [] rfl) hk (hK_r8_22 _ _ ?_)
    refine tsst hk rfl rfl (fun K_r8_23 hK_r8_23 w hF => ?_) wt_stop
    have hs := hs.f hF
    refine ssx (cs' := #[.slice A0_0 x0.code.length p0_0, .int .i64 (w64 (x0.at_ + 1)), .int .i64 (Int.tmod (w64 ((w64 ((w64 (x0.seed * 31)) + (IntKind.wrap .i64 (x0.code.getD (w64 ((w64 (x0.at_ + 1)) - 1)).toNat 0)))) + 7)) 2147483648)]) 1 hs rfl rfl hk rfl rfl rfl rfl sz3 rfl rfl rfl rfl fun w a hk hs => ?_
    refine se (hs.pick [] rfl) hk (hK_r8_23 _ _ ?_)
    refine wtl_nil fun w hF _ => ?_
    have hs := hs.f hF
    show R9 _ _
    rw [hR9]
    exact ⟨(hk.c 0 rfl hk.k), (hs.pick [(1, 1)] rfl)⟩
   ·intro a w hR0
    rw [hR9] at hR0
    obtain ⟨hk, hs⟩ := hR0
    refine hK7 _ _ ?_
    have hs := hs.pick [(1, 1)] rfl
    apply wp_seq_k; intro K10 hK10
    refine wp_region_tree (.q 0 (.q 1 (.q 2 (.q 3 (.alt 4 (.alt 5 (.alt 6 (.alt 7 (.alt 8 (.alt 9 (.alt 10 (.alt 11 (.last 12) .stop) .stop) .stop) .stop) .stop) .stop) .stop) .stop))))) mo (by kernel_rfl) (hs.pick [(1, 1)] rfl) fun _ => ?_
    have hs := hs.drew
    refine tqst (.pointer (some ⟨b0_, 0, none⟩)) hk rfl rfl rfl rfl (fun w hs => sm _ rfl hk rfl rfl rfl fun a hk => qe hk) fun a hk => ?_
    refine tqst (.pointer (some ⟨b0_, 0, none⟩)) hk rfl rfl rfl rfl (fun w hs => snk rfl hk rfl rfl rfl fun a hk => qe hk) fun a hk => ?_
    refine tqst (.pointer (some ⟨b0_, 0, none⟩)) hk rfl rfl rfl rfl (fun w hs => sf ⟨b0_, 0, none⟩ rfl hk rfl rfl rfl fd65_0 rfl fun a hk => qe hk) fun a hk => ?_
    refine tqst (.slice A0_0 x0.code.length p0_0) hk rfl rfl rfl rfl (fun w hs => sl rfl hk rfl rfl rfl ag28 (box_cell hs (k := 1) rfl rfl) fun a hk => qe hk) fun a hk => ?_
    refine tsst hk rfl rfl (fun K_r11_4 hK_r11_4 w hF => ?_) wt_stop
    have hs := hs.f hF
    refine sm _ rfl hk rfl rfl rfl fun a hk => ?_
    refine se (hs.pick [(1, 1)] rfl) hk (hK_r11_4 _ _ ?_)
    refine tsst hk rfl rfl (fun K_r11_5 hK_r11_5 w hF => ?_) wt_stop
    have hs := hs.f hF
    refine snk rfl hk rfl rfl rfl fun a hk => ?_
    refine se (hs.pick [(1, 1)] rfl) hk (hK_r11_5 _ _ ?_)
    refine tsst hk rfl rfl (fun K_r11_6 hK_r11_6 w hF => ?_) wt_stop
    have hs := hs.f hF
    refine sf ⟨b0_, 1, none⟩ rfl hk rfl rfl rfl fd65_1 rfl fun a hk => ?_
    refine se (hs.pick [(1, 1)] rfl) hk (hK_r11_6 _ _ ?_)
    refine tsst hk rfl rfl (fun K_r11_7 hK_r11_7 w hF => ?_) wt_stop
    have hs := hs.f hF
    refine sl rfl hk rfl rfl rfl ag3 (box_cell hs (k := 1) rfl rfl) fun a hk => ?_
    refine se (hs.pick [(1, 1)] rfl) hk (hK_r11_7 _ _ ?_)
    refine tsst hk rfl rfl (fun K_r11_8 hK_r11_8 w hF => ?_) wt_stop
    have hs := hs.f hF
    refine sv (.int .i64 (w64 ((w64 (x0.at_ + 1)) - 1))) hk rfl rfl rfl fun a hk => ?_
    refine se (hs.pick [(1, 1)] rfl) hk (hK_r11_8 _ _ ?_)
    refine tsst hk rfl rfl (fun K_r11_9 hK_r11_9 w hF => ?_) wt_stop
    have hs := hs.f hF
    rcases ite_some H with ⟨c12, H⟩ | ⟨_, H⟩
    rotate_left
    ·cases H
    obtain ⟨b13, q14, hAc12⟩ := (v0_0).some_ (w64 ((w64 (x0.at_ + 1)) - 1)) c12.1 c12.2
    refine si rfl hk rfl rfl rfl rfl un28 sz5 c12.1 c12.2 hAc12 fun a hk => ?_
    refine se (hs.pick [(1, 1)] rfl) hk (hK_r11_9 _ _ ?_)
    refine tsst hk rfl rfl (fun K_r11_10 hK_r11_10 w hF => ?_) wt_stop
    have hs := hs.f hF
    obtain ⟨_, rfl, e15⟩ := (v0_0).at_ 0 (w64 ((w64 (x0.at_ + 1)) - 1)) c12.1 c12.2
    refine sl (v := (.int .u8 (x0.code.getD (w64 ((w64 (x0.at_ + 1)) - 1)).toNat 0))) rfl hk rfl rfl rfl ag5 ((e15 0 _ rfl).cell (hs.hasD (k := 2) rfl)) fun a hk => ?_
    refine se (hs.pick [(1, 1)] rfl) hk (hK_r11_10 _ _ ?_)
    refine tsst hk rfl rfl (fun K_r11_11 hK_r11_11 w hF => ?_) wt_stop
    have hs := hs.f hF
    refine scn rfl hk rfl rfl rfl un3 un5 fun a hk => ?_
    refine se (hs.pick [(1, 1)] rfl) hk (hK_r11_11 _ _ ?_)
    refine tlst hk rfl rfl fun K_r11_12 hK_r11_12 w hF => ?_
    have hs := hs.f hF
    refine sa _ rfl hk rfl rfl rfl fun a hk => ?_
    refine se trivial hk (hK_r11_12 _ _ fun w hF => ?_)
    have hs := hs.f hF
    refine hK10 _ _ ?_
    refine wp_ret ?_
    obtain rfl := Option.some.inj H
    exact fin hk _ [(.int .i64 (IntKind.wrap .i64 (x0.code.getD (w64 ((w64 (x0.at_ + 1)) - 1)).toNat 0)))] rfl ⟨rfl, trivial⟩ ⟨rfl, (hs.pick [(0, 1)] rfl).dnil⟩
  ·have hk := hk.lit 19 c6 rfl
   refine cnd_false hk rfl rfl ?_
   refine wp_skip ?_
   refine hK3 _ _ ?_
   have hs := hs.pick [(1, 1)] rfl
   apply wp_seq_k; intro K16 hK16
   apply wp_seq_k; intro K17 hK17
   apply wp_region_lit
   refine sm _ rfl hk rfl rfl rfl fun a hk => ?_
   refine snk rfl hk rfl rfl rfl fun a hk => ?_
   refine sf ⟨b0_, 1, none⟩ rfl hk rfl rfl rfl fd65_1 rfl fun a hk => ?_
   refine sl rfl hk rfl rfl rfl ag3 (box_cell hs (k := 1) rfl rfl) fun a hk => ?_
   refine sv (.bool (decide ((w64 (x0.at_ + 1)) > 3000))) hk rfl rfl rfl fun a hk => ?_
   show wpList _ _ _ [] _ _
   refine wpList_nil ?_
   refine hK17 _ _ ?_
   rcases cond_some H with ⟨c18, H⟩ | ⟨c18, H⟩
   ·have hk := hk.lit 59 c18 rfl
    refine cnd_true hk rfl rfl ?_
    apply wp_seq_k; intro K19 hK19
    apply wp_region_lit
    refine sa _ rfl hk rfl rfl rfl fun a hk => ?_
    show wpList _ _ _ [] _ _
    refine wpList_nil ?_
    refine hK19 _ _ ?_
    refine wp_ret ?_
    obtain rfl := Option.some.inj H
    exact fin hk _ [(.int .i64 0)] rfl ⟨rfl, trivial⟩ ⟨rfl, (hs.pick [(0, 1)] rfl).dnil⟩
   ·have hk := hk.lit 59 c18 rfl
    refine cnd_false hk rfl rfl ?_
    refine wp_skip ?_
    refine hK16 _ _ ?_
    apply wp_seq_k; intro K20 hK20
    apply wp_region_lit
    refine sm _ rfl hk rfl rfl rfl fun a hk => ?_
    refine sm _ rfl hk rfl rfl rfl fun a hk => ?_
    refine snk rfl hk rfl rfl rfl fun a hk => ?_
    refine sf ⟨b0_, 2, none⟩ rfl hk rfl rfl rfl fd65_2 rfl fun a hk => ?_
    refine sl rfl hk rfl rfl rfl ag3 (box_cell hs (k := 1) rfl rfl) fun a hk => ?_
    refine sv (.int .i64 (w64 (x0.seed * 1103515245))) hk rfl rfl rfl fun a hk => ?_
    refine sv (.int .i64 (w64 ((w64 (x0.seed * 1103515245)) + 12345))) hk rfl rfl rfl fun a hk => ?_
    refine sv (.int .i64 (Int.tmod (w64 ((w64 (x0.seed * 1103515245)) + 12345)) 2147483648)) hk rfl rfl rfl fun a hk => ?_
    refine snk rfl hk rfl rfl rfl fun a hk => ?_
    refine sf ⟨b0_, 2, none⟩ rfl hk rfl rfl rfl fd65_2 rfl fun a hk => ?_
    refine ssx (cs' := #[.slice A0_0 x0.code.length p0_0, .int .i64 (w64 (x0.at_ + 1)), .int .i64 (Int.tmod (w64 ((w64 (x0.seed * 1103515245)) + 12345)) 2147483648)]) 1 hs rfl rfl hk rfl rfl rfl rfl sz3 rfl rfl rfl rfl fun w a hk hs => ?_
    show wpList _ _ _ [] _ _
    refine wpList_nil ?_
    refine hK20 _ _ ?_
    apply wp_seq_k; intro K21 hK21
    apply wp_region_lit
    refine sm _ rfl hk rfl rfl rfl fun a hk => ?_
    refine snk rfl hk rfl rfl rfl fun a hk => ?_
    refine sf ⟨b0_, 2, none⟩ rfl hk rfl rfl rfl fd65_2 rfl fun a hk => ?_
    refine sl rfl hk rfl rfl rfl ag3 (box_cell hs (k := 1) rfl rfl) fun a hk => ?_
    refine sv (.int .i64 (IntKind.wrap .i64 (Int.tdiv (Int.tmod (w64 ((w64 (x0.seed * 1103515245)) + 12345)) 2147483648) 65536))) hk rfl rfl rfl fun a hk => ?_
    refine sv (.int .i64 (Int.tmod (IntKind.wrap .i64 (Int.tdiv (Int.tmod (w64 ((w64 (x0.seed * 1103515245)) + 12345)) 2147483648) 65536)) 256)) hk rfl rfl rfl fun a hk => ?_
    refine sa _ rfl hk rfl rfl rfl fun a hk => ?_
    show wpList _ _ _ [] _ _
    refine wpList_nil ?_
    refine hK21 _ _ ?_
    have hs := hs.pick [(1, 1)] rfl
    refine wp_ret ?_
    obtain rfl := Option.some.inj H
    exact fin hk _ [(.int .i64 (Int.tmod (IntKind.wrap .i64 (Int.tdiv (Int.tmod (w64 ((w64 (x0.seed * 1103515245)) + 12345)) 2147483648) 65536)) 256))] rfl ⟨rfl, trivial⟩ ⟨rfl, (hs.pick [(0, 1)] rfl).dnil⟩

noncomputable def spec_l00Src_next.f (x0 : S_l00Src) (x1 : Int) : Option (Int × Int × Int) :=
  (bif (decide (x1 ≤ 1)) then (some (0, x0.at_, x0.seed)) else (bif (decide (x1 ≤ 256)) then ((spec_l00Src_byte.f x0).bind fun y10 => (if x1 = 0 then none else (some ((Int.tmod y10.1 x1), y10.2.1, y10.2.2)))) else ((spec_l00Src_byte.f x0).bind fun y14 => ((spec_l00Src_byte.f (⟨x0.code, y14.2.1, y14.2.2⟩ : S_l00Src)).bind fun y17 => ((spec_l00Src_byte.f (⟨x0.code, y17.2.1, y17.2.2⟩ : S_l00Src)).bind fun y20 => (if x1 = 0 then none else (some ((Int.tmod (w64 ((w64 ((w64 (y14.1 * 65536)) + (w64 (y17.1 * 256)))) + y20.1)) x1), y20.2.1, y20.2.2))))))))
set_option maxRecDepth 100000 in
set_option maxHeartbeats 0 in
theorem spec_l00Src_next_t (w0 : World) (b0_ : Nat) (x0 : S_l00Src) (A0_0 : Option Addr) (p0_0 : Nat) (k0_0 : Chunk) (v0_0 : View (Lay.int .u8) A0_0 p0_0 x0.code k0_0) (w0_0 : Has w0 k0_0) (x1 : Int) (hs0 : Sat (blks [(1, [(b0_, .cells #[.slice A0_0 x0.code.length p0_0, .int .i64 x0.at_, .int .i64 x0.seed] 65 (0, 0))])]) w0 w0 [(2, k0_0)] [(1, [(b0_, .cells #[.slice A0_0 x0.code.length p0_0, .int .i64 x0.at_, .int .i64 x0.seed] 65 (0, 0))])]) (r : Int × Int × Int) (H : spec_l00Src_next.f x0 x1 = some r) :
    Calls Tryz.prog 44 #[.pointer (some ⟨b0_, 0, none⟩), .int .i64 x1] w0 (Ret (fun v w => v = .int .i64 r.1 ∧ Sat (blks [(1, [(b0_, .cells #[.slice A0_0 x0.code.length p0_0, .int .i64 x0.at_, .int .i64 x0.seed] 65 (0, 0))])]) w0 w [] [(0, [(b0_, .cells #[.slice A0_0 x0.code.length p0_0, .int .i64 r.2.1, .int .i64 r.2.2] 65 (0, 0))])])) := by
  have hs := hs0
  unfold spec_l00Src_next.f at H
  refine enter Tryz.func44 rfl Tryz.ntmps44 rfl fun a hk => ?_
  apply wp_seq_k; intro K1 hK1
  apply wp_region_lit
  refine sa _ rfl hk rfl rfl rfl fun a hk => ?_
  show wpList _ _ _ [] _ _
  refine wpList_nil ?_
  refine hK1 _ _ ?_
  apply wp_seq_k; intro K2 hK2
  apply wp_seq_k; intro K3 hK3
  apply wp_region_lit
  refine sm _ rfl hk rfl rfl rfl fun a hk => ?_
  refine sv (.bool (decide (x1 ≤ 1))) hk rfl rfl rfl fun a hk => ?_
  show wpList _ _ _ [] _ _
  refine wpList_nil ?_
  refine hK3 _ _ ?_
  rcases cond_some H with ⟨c4, H⟩ | ⟨c4, H⟩
  ·have hk := hk.lit 9 c4 rfl
   refine cnd_true hk rfl rfl ?_
   apply wp_seq_k; intro K5 hK5
   apply wp_region_lit
   refine sa _ rfl hk rfl rfl rfl fun a hk => ?_
   show wpList _ _ _ [] _ _
   refine wpList_nil ?_
   refine hK5 _ _ ?_
   refine wp_ret ?_
   obtain rfl := Option.some.inj H
   exact fin hk _ [(.int .i64 0)] rfl ⟨rfl, trivial⟩ ⟨rfl, (hs.pick [(0, 1)] rfl).dnil⟩
  ·have hk := hk.lit 9 c4 rfl
   refine cnd_false hk rfl rfl ?_
   refine wp_skip ?_
   refine hK2 _ _ ?_
   apply wp_seq_k; intro K6 hK6
   apply wp_seq_k; intro K7 hK7
   apply wp_region_lit
   refine sm _ rfl hk rfl rfl rfl fun a hk => ?_
   refine sv (.bool (decide (x1 ≤ 256))) hk rfl rfl rfl fun a hk => ?_
   show wpList _ _ _ [] _ _
   refine wpList_nil ?_
   refine hK7 _ _ ?_
   have hs := hs.pick [(1, 1)] rfl
   rcases cond_some H with ⟨c8, H⟩ | ⟨c8, H⟩
   ·have hk := hk.lit 11 c8 rfl
    refine cnd_true hk rfl rfl ?_
    apply wp_seq_k; intro K9 hK9
    apply wp_region_lit
    refine sm _ rfl hk rfl rfl rfl fun a hk => ?_
    obtain ⟨y10, h11, H⟩ := bind_some H
    refine sc rfl en71 hk rfl rfl rfl (spec_l00Src_byte_t _ b0_ x0 A0_0 p0_0 _ v0_0 (hs.hasD (k := 2) rfl) ((hs.hand [(1, 1)] rfl).dpick [(2, 2)] rfl) _ h11) ?_
    rintro _ w ⟨rfl, hG⟩ a hk
    have hs := hs.back [(1, 1)] rfl hG [1] rfl
    refine sm _ rfl hk rfl rfl rfl fun a hk => ?_
    rcases ite_some H with ⟨_, H⟩ | ⟨c12, H⟩
    ·cases H
    refine srm rfl hk rfl rfl rfl rfl c12 fun a hk => ?_
    refine sa _ rfl hk rfl rfl rfl fun a hk => ?_
    show wpList _ _ _ [] _ _
    refine wpList_nil ?_
    refine hK9 _ _ ?_
    refine wp_ret ?_
    obtain rfl := Option.some.inj H
    exact fin hk _ [(.int .i64 (Int.tmod y10.1 x1))] rfl ⟨rfl, trivial⟩ ⟨rfl, (hs.pick [(0, 1)] rfl).dnil⟩
   ·have hk := hk.lit 11 c8 rfl
    refine cnd_false hk rfl rfl ?_
    refine wp_skip ?_
    refine hK6 _ _ ?_
    apply wp_seq_k; intro K13 hK13
    apply wp_region_lit
    refine sm _ rfl hk rfl rfl rfl fun a hk => ?_
    obtain ⟨y14, h15, H⟩ := bind_some H
    refine sc rfl en71 hk rfl rfl rfl (spec_l00Src_byte_t _ b0_ x0 A0_0 p0_0 _ v0_0 (hs.hasD (k := 2) rfl) ((hs.hand [(1, 1)] rfl).dpick [(2, 2)] rfl) _ h15) ?_
    rintro _ w ⟨rfl, hG⟩ a hk
    have hs := hs.back [(1, 1)] rfl hG [1] rfl
    refine sa _ rfl hk rfl rfl rfl fun a hk => ?_
    show wpList _ _ _ [] _ _
    refine wpList_nil ?_
    refine hK13 _ _ ?_
    apply wp_seq_k; intro K16 hK16
    apply wp_region_lit
    refine sm _ rfl hk rfl rfl rfl fun a hk => ?_
    obtain ⟨y17, h18, H⟩ := bind_some H
    refine sc rfl en71 hk rfl rfl rfl (spec_l00Src_byte_t _ b0_ (⟨x0.code, y14.2.1, y14.2.2⟩ : S_l00Src) A0_0 p0_0 _ v0_0 (hs.hasD (k := 2) rfl) ((hs.hand [(1, 1)] rfl).dpick [(2, 2)] rfl) _ h18) ?_
    rintro _ w ⟨rfl, hG⟩ a hk
    have hs := hs.back [(1, 1)] rfl hG [1] rfl
    refine sa _ rfl hk rfl rfl rfl fun a hk => ?_
    show wpList _ _ _ [] _ _
    refine wpList_nil ?_
    refine hK16 _ _ ?_
    apply wp_seq_k; intro K19 hK19
    apply wp_region_lit
    refine sm _ rfl hk rfl rfl rfl fun a hk => ?_
    obtain ⟨y20, h21, H⟩ := bind_some H
    refine sc rfl en71 hk rfl rfl rfl (spec_l00Src_byte_t _ b0_ (⟨x0.code, y17.2.1, y17.2.2⟩ : S_l00Src) A0_0 p0_0 _ v0_0 (hs.hasD (k := 2) rfl) ((hs.hand [(1, 1)] rfl).dpick [(2, 2)] rfl) _ h21) ?_
    rintro _ w ⟨rfl, hG⟩ a hk
    have hs := hs.back [(1, 1)] rfl hG [1] rfl
    refine sa _ rfl hk rfl rfl rfl fun a hk => ?_
    show wpList _ _ _ [] _ _
    refine wpList_nil ?_
    refine hK19 _ _ ?_
    have hs := hs.pick [(1, 1)] rfl
    apply wp_seq_k; intro K22 hK22
    apply wp_region_lit
    refine sm _ rfl hk rfl rfl rfl fun a hk => ?_
    refine sv (.int .i64 (w64 (y14.1 * 65536))) hk rfl rfl rfl fun a hk => ?_
    refine sm _ rfl hk rfl rfl rfl fun a hk => ?_
    refine sv (.int .i64 (w64 (y17.1 * 256))) hk rfl rfl rfl fun a hk => ?_
    refine sv (.int .i64 (w64 ((w64 (y14.1 * 65536)) + (w64 (y17.1 * 256))))) hk rfl rfl rfl fun a hk => ?_
    refine sm _ rfl hk rfl rfl rfl fun a hk => ?_
    refine sv (.int .i64 (w64 ((w64 ((w64 (y14.1 * 65536)) + (w64 (y17.1 * 256)))) + y20.1))) hk rfl rfl rfl fun a hk => ?_
    refine sm _ rfl hk rfl rfl rfl fun a hk => ?_
    rcases ite_some H with ⟨_, H⟩ | ⟨c23, H⟩
    ·cases H
    refine srm rfl hk rfl rfl rfl rfl c23 fun a hk => ?_
    refine sa _ rfl hk rfl rfl rfl fun a hk => ?_
    show wpList _ _ _ [] _ _
    refine wpList_nil ?_
    refine hK22 _ _ ?_
    refine wp_ret ?_
    obtain rfl := Option.some.inj H
    exact fin hk _ [(.int .i64 (Int.tmod (w64 ((w64 ((w64 (y14.1 * 65536)) + (w64 (y17.1 * 256)))) + y20.1)) x1))] rfl ⟨rfl, trivial⟩ ⟨rfl, (hs.pick [(0, 1)] rfl).dnil⟩

end Go.Proofs.YtfjhdkmdidadiaaGreatDoor
