/- Further functions. -/
import Derived.Test.YtjlhmcieholdiaaGXMapOf
namespace Go.Proofs.Ytjlhmcieholdiaa
open Go Go.Z Go.Proofs Go.MuLone Go.ChangeShapes Go.WideShapes Go.ChangeAt Go.RowKit
set_option linter.unusedVariables false
set_option linter.unusedSimpArgs false
noncomputable def impl_areAll_int.f (l0 : List Int) (q1 : Int → Option (Bool)) : Option (Bool) :=
  ((slices_ContainsFunc_int_int.f l0 (fun z0 => impl_areAll_int__c1.f z0 q1)).bind fun y4 => (some (!y4)))
set_option maxRecDepth 100000 in
set_option maxHeartbeats 0 in
theorem impl_areAll_int_t (w0 : World) (A0_ : Option Addr) (p0_ : Nat) (l0 : List Int) (k0_ : Chunk) (v0_ : View (Lay.int .i64) A0_ p0_ l0 k0_) (w0_ : Has w0 k0_) (f1_ : FuncId) (c1_ : List Value) (e1_ : Enters Try.prog f1_) (q1 : Int → Option (Bool)) (k1_ : Chunk) (t1_ : ∀ w, Has w k1_ → ∀ (z0 : Int) (r : Bool), q1 z0 = some r → Calls Try.prog f1_ (([.int .i64 z0] : List Value) ++ c1_).toArray w (Ret (fun v w2 => v = .bool r ∧ Sat [] w w2 [] []))) (w1_ : Has w0 k1_) (r : Bool) (H : impl_areAll_int.f l0 q1 = some r) :
    Calls Try.prog 80 #[.slice A0_ l0.length p0_, .func (.func f1_) #[] c1_.toArray] w0 (Ret (fun v w => v = .bool r ∧ Sat [] w0 w [] [])) := by
  have hs : Sat [] w0 w0 [(1, k0_), (2, k1_)] [] := Sat.init w0 [(1, k0_), (2, k1_)] [] (by simp only [List.mem_cons, List.not_mem_nil, or_false]; rintro x (rfl | rfl) <;> assumption) (by simp) List.nodup_nil (by simp [blks])
  unfold impl_areAll_int.f at H
  refine enter Try.func80 rfl Try.ntmps80 rfl fun a hk => ?_
  apply wp_seq_k; intro K1 hK1
  apply wp_region_lit
  refine sbx 3 hs rfl hk rfl rfl rfl rfl fun b2 w a hk hs => ?_
  refine sa _ rfl hk rfl rfl rfl fun a hk => ?_
  show wpList _ _ _ [] _ _
  refine wpList_nil ?_
  refine hK1 _ _ ?_
  apply wp_seq_k; intro K3 hK3
  apply wp_region_lit
  refine sm _ rfl hk rfl rfl rfl fun a hk => ?_
  refine smf (cs := [.pointer (some ⟨b2, 0, none⟩)]) rfl hk rfl rfl rfl fun a hk => ?_
  obtain ⟨y4, h5, H⟩ := bind_some H
  refine sc rfl en141 hk rfl rfl rfl (slices_ContainsFunc_int_int_t _ A0_ p0_ l0 _ v0_ (hs.hasD (k := 1) rfl) 142 [.pointer (some ⟨b2, 0, none⟩)] en142 (fun z0 => impl_areAll_int__c1.f z0 q1) ([(b2, .cells #[.func (.func f1_) #[] c1_.toArray] 89 (0, 0))] ++ k1_) (fun w hz z0 r h => impl_areAll_int__c1_t w z0 _ f1_ c1_ e1_ q1 k1_ t1_ (Has.right hz) (Has.left hz) r h) (Has.app (hs.hasG (k := 3) rfl) (hs.hasD (k := 2) rfl)) _ h5) ?_
  rintro _ w ⟨rfl, hG⟩ a hk
  have hs := hs.call0 hG
  refine sv (.bool (!y4)) hk rfl rfl rfl fun a hk => ?_
  refine sa _ rfl hk rfl rfl rfl fun a hk => ?_
  show wpList _ _ _ [] _ _
  refine wpList_nil ?_
  refine hK3 _ _ ?_
  refine wp_ret ?_
  obtain rfl := Option.some.inj H
  exact fin hk _ [(.bool (!y4))] rfl ⟨rfl, trivial⟩ ⟨rfl, (hs.pick [] rfl).dnil⟩

noncomputable def slices_IndexFunc_impl_Block_impl_Block.s0 (l0 : List S_Block) (q1 : S_Block → Option (Bool)) (u6 : Int) : Option ((Int) ⊕ Ex (Unit) (Int)) :=
  (bif (decide (u6 < (l0.length : Int))) then (if 0 ≤ u6 ∧ u6 < (l0.length : Int) then ((q1 (l0.getD u6.toNat z_Block)).bind fun y25 => (bif y25 then (some (.inr (.ret u6))) else (some (.inl (w64 (u6 + 1)))))) else none) else (some (.inr (.out ()))))
noncomputable def slices_IndexFunc_impl_Block_impl_Block.f (l0 : List S_Block) (q1 : S_Block → Option (Bool)) : Option (Int) :=
  ((loopO (fun s => slices_IndexFunc_impl_Block_impl_Block.s0 l0 q1 s) 0).bind fun o => match o with | .out _ => (some (-1)) | .ret r => (some r))
set_option maxRecDepth 100000 in
set_option maxHeartbeats 0 in
theorem slices_IndexFunc_impl_Block_impl_Block_t (w0 : World) (A0_ : Option Addr) (p0_ : Nat) (l0 : List S_Block) (k0_ : Chunk) (v0_ : View L_Block A0_ p0_ l0 k0_) (w0_ : Has w0 k0_) (f1_ : FuncId) (c1_ : List Value) (e1_ : Enters Try.prog f1_) (q1 : S_Block → Option (Bool)) (k1_ : Chunk) (t1_ : ∀ w, Has w k1_ → ∀ (z0 : S_Block) (r : Bool), q1 z0 = some r → Calls Try.prog f1_ (([.agg #[.int .i64 z0.Id, .int .i64 z0.Leaf, .int .i64 z0.Value]] : List Value) ++ c1_).toArray w (Ret (fun v w2 => v = .bool r ∧ Sat [] w w2 [] []))) (w1_ : Has w0 k1_) (r : Int) (H : slices_IndexFunc_impl_Block_impl_Block.f l0 q1 = some r) :
    Calls Try.prog 131 #[.slice A0_ l0.length p0_, .func (.func f1_) #[] c1_.toArray] w0 (Ret (fun v w => v = .int .i64 r ∧ Sat [] w0 w [] [])) := by
  have hs : Sat [] w0 w0 [(1, k0_), (2, k1_)] [] := Sat.init w0 [(1, k0_), (2, k1_)] [] (by simp only [List.mem_cons, List.not_mem_nil, or_false]; rintro x (rfl | rfl) <;> assumption) (by simp) List.nodup_nil (by simp [blks])
  unfold slices_IndexFunc_impl_Block_impl_Block.f at H
  refine enter Try.func131 rfl Try.ntmps131 rfl fun a hk => ?_
  apply wp_seq_k; intro K1 hK1
  apply wp_region_lit
  refine sa _ rfl hk rfl rfl rfl fun a hk => ?_
  show wpList _ _ _ [] _ _
  refine wpList_nil ?_
  refine hK1 _ _ ?_
  apply wp_seq_k; intro K2 hK2
  apply wp_seq_k; intro K3 hK3
  apply wp_region_lit
  refine sm _ rfl hk rfl rfl rfl fun a hk => ?_
  refine sle rfl hk rfl rfl rfl un28 fun a hk => ?_
  refine sm _ rfl hk rfl rfl rfl fun a hk => ?_
  show wpList _ _ _ [] _ _
  refine wpList_nil ?_
  refine hK3 _ _ ?_
  obtain ⟨o7, h8, HL9⟩ := bind_some H
  clear H
  obtain ⟨R10, hR10⟩ : ∃ R : Act → World → Prop, R = fun a w => o7 = .out () ∧ Kn [] 19 a ∧ Sat [] w0 w [(1, k0_), (2, k1_)] [] := ⟨_, rfl⟩
  refine wp_cutq R10 ?_ ?_
  · refine wp_block ?_
    obtain ⟨fu12, h8⟩ := loopO_some h8
    obtain ⟨I11, hI11⟩ : ∃ I : Nat → Act → World → Prop, I = fun fu a w => ∃ (u6 : Int), loopN (fun s => slices_IndexFunc_impl_Block_impl_Block.s0 l0 q1 s) fu u6 = some o7 ∧ Kn [(0, (.slice A0_ l0.length p0_)), (1, (.func (.func f1_) #[] c1_.toArray)), (7, (.int .i64 (l0.length : Int))), (8, (.int .i64 u6))] 19 a ∧ Sat [] w0 w [(1, k0_), (2, k1_)] [] := ⟨_, rfl⟩
    refine wp_loop_ghost I11 fu12 ?_ ?_
    · rw [hI11]
      exact ⟨0, h8, (hk.c 0 rfl (hk.c 1 rfl (hk.c 7 rfl (hk.c 8 rfl hk.k)))), (hs.pick [] rfl)⟩
    · clear h8 hk hs
      intro fu12 a w hI0
      rw [hI11] at hI0
      obtain ⟨u6, hi, hk, hs⟩ := hI0
      obtain ⟨x13, H, h14⟩ := loop_round hi
      try dsimp only at H
      unfold slices_IndexFunc_impl_Block_impl_Block.s0 at H
      apply wp_seq_k; intro K15 hK15
      apply wp_region_lit
      refine sv (.bool (decide (u6 < (l0.length : Int)))) hk rfl rfl rfl fun a hk => ?_
      show wpList _ _ _ [] _ _
      refine wpList_nil ?_
      refine hK15 _ _ ?_
      apply wp_seq_k; intro K16 hK16
      rcases cond_some H with ⟨c17, H⟩ | ⟨c17, H⟩
      · have hk := hk.lit 9 c17 rfl
        refine cnd_true hk rfl rfl ?_
        refine wp_skip ?_
        refine hK16 _ _ ?_
        apply wp_seq_k; intro K18 hK18
        refine wp_block ?_
        apply wp_seq_k; intro K19 hK19
        apply wp_region_lit
        refine sm _ rfl hk rfl rfl rfl fun a hk => ?_
        refine sa _ rfl hk rfl rfl rfl fun a hk => ?_
        show wpList _ _ _ [] _ _
        refine wpList_nil ?_
        refine hK19 _ _ ?_
        apply wp_seq_k; intro K20 hK20
        apply wp_region_lit
        refine sm _ rfl hk rfl rfl rfl fun a hk => ?_
        refine sm _ rfl hk rfl rfl rfl fun a hk => ?_
        refine sm _ rfl hk rfl rfl rfl fun a hk => ?_
        rcases ite_some H with ⟨c21, H⟩ | ⟨_, H⟩
        rotate_left
        · cases H
        obtain ⟨b22, q23, hAc21⟩ := (v0_).some_ u6 c21.1 c21.2
        refine si rfl hk rfl rfl rfl rfl un28 sz102 c21.1 c21.2 hAc21 fun a hk => ?_
        obtain ⟨_, rfl, e24⟩ := (v0_).at_ z_Block u6 c21.1 c21.2
        refine sln [.int .i64 ((l0.getD u6.toNat z_Block).Id), .int .i64 ((l0.getD u6.toNat z_Block).Leaf), .int .i64 ((l0.getD u6.toNat z_Block).Value)] rfl hk rfl rfl rfl ag102 sz102 (cells_at e24 (hs.hasD (k := 1) rfl)) fun a hk => ?_
        obtain ⟨y25, h26, H⟩ := bind_some H
        refine scv (vs := ([(.agg #[.int .i64 ((l0.getD u6.toNat z_Block).Id), .int .i64 ((l0.getD u6.toNat z_Block).Leaf), .int .i64 ((l0.getD u6.toNat z_Block).Value)])] : List Value) ++ c1_) rfl rfl e1_ hk rfl rfl rfl (t1_ _ (hs.hasD (k := 2) rfl) (l0.getD u6.toNat z_Block) _ h26) ?_
        rintro _ w ⟨rfl, hG⟩ a hk
        have hs := hs.call0 hG
        show wpList _ _ _ [] _ _
        refine wpList_nil ?_
        refine hK20 _ _ ?_
        rcases cond_some H with ⟨c27, H⟩ | ⟨c27, H⟩
        · have hk := hk.lit 16 c27 rfl
          refine cnd_true hk rfl rfl ?_
          apply wp_seq_k; intro K28 hK28
          apply wp_region_lit
          refine sm _ rfl hk rfl rfl rfl fun a hk => ?_
          refine sa _ rfl hk rfl rfl rfl fun a hk => ?_
          show wpList _ _ _ [] _ _
          refine wpList_nil ?_
          refine hK28 _ _ ?_
          refine wp_ret ?_
          obtain rfl := Option.some.inj H
          have ho7 := h14
          try dsimp only at ho7
          subst ho7
          have H := HL9
          try dsimp only at H
          obtain rfl := Option.some.inj H
          exact fin hk _ [(.int .i64 u6)] rfl ⟨rfl, trivial⟩ ⟨rfl, (hs.pick [] rfl).dnil⟩
        · have hk := hk.lit 16 c27 rfl
          refine cnd_false hk rfl rfl ?_
          refine wp_skip ?_
          refine hK18 _ _ ?_
          apply wp_region_lit
          refine sv (.int .i64 (w64 (u6 + 1))) hk rfl rfl rfl fun a hk => ?_
          refine sm _ rfl hk rfl rfl rfl fun a hk => ?_
          show wpList _ _ _ [] _ _
          refine wpList_nil ?_
          obtain rfl := Option.some.inj H
          obtain ⟨m29, hmm29, h14⟩ := h14
          show ∃ n', n' < _ ∧ I11 n' _ _
          refine ⟨m29, hmm29, ?_⟩
          rw [hI11]
          exact ⟨(w64 (u6 + 1)), h14, (hk.c 0 rfl (hk.c 1 rfl (hk.c 7 rfl (hk.c 8 rfl hk.k)))), (hs.pick [] rfl)⟩
      · have hk := hk.lit 9 c17 rfl
        refine cnd_false hk rfl rfl ?_
        refine wp_exit ?_
        obtain rfl := Option.some.inj H
        show R10 _ _
        rw [hR10]
        exact ⟨h14.symm, hk.k, (hs.pick [] rfl)⟩
  · intro a w hR0
    rw [hR10] at hR0
    obtain ⟨rfl, hk, hs⟩ := hR0
    have H := HL9
    try dsimp only at H
    refine hK2 _ _ ?_
    apply wp_seq_k; intro K30 hK30
    apply wp_region_lit
    refine sa _ rfl hk rfl rfl rfl fun a hk => ?_
    show wpList _ _ _ [] _ _
    refine wpList_nil ?_
    refine hK30 _ _ ?_
    refine wp_ret ?_
    obtain rfl := Option.some.inj H
    exact fin hk _ [(.int .i64 (-1))] rfl ⟨rfl, trivial⟩ ⟨rfl, (hs.pick [] rfl).dnil⟩

noncomputable def slices_ContainsFunc_impl_Block_impl_Block.f (l0 : List S_Block) (q1 : S_Block → Option (Bool)) : Option (Bool) :=
  ((slices_IndexFunc_impl_Block_impl_Block.f l0 q1).bind fun y3 => (some (decide (y3 ≥ 0))))
set_option maxRecDepth 100000 in
set_option maxHeartbeats 0 in
theorem slices_ContainsFunc_impl_Block_impl_Block_t (w0 : World) (A0_ : Option Addr) (p0_ : Nat) (l0 : List S_Block) (k0_ : Chunk) (v0_ : View L_Block A0_ p0_ l0 k0_) (w0_ : Has w0 k0_) (f1_ : FuncId) (c1_ : List Value) (e1_ : Enters Try.prog f1_) (q1 : S_Block → Option (Bool)) (k1_ : Chunk) (t1_ : ∀ w, Has w k1_ → ∀ (z0 : S_Block) (r : Bool), q1 z0 = some r → Calls Try.prog f1_ (([.agg #[.int .i64 z0.Id, .int .i64 z0.Leaf, .int .i64 z0.Value]] : List Value) ++ c1_).toArray w (Ret (fun v w2 => v = .bool r ∧ Sat [] w w2 [] []))) (w1_ : Has w0 k1_) (r : Bool) (H : slices_ContainsFunc_impl_Block_impl_Block.f l0 q1 = some r) :
    Calls Try.prog 89 #[.slice A0_ l0.length p0_, .func (.func f1_) #[] c1_.toArray] w0 (Ret (fun v w => v = .bool r ∧ Sat [] w0 w [] [])) := by
  have hs : Sat [] w0 w0 [(1, k0_), (2, k1_)] [] := Sat.init w0 [(1, k0_), (2, k1_)] [] (by simp only [List.mem_cons, List.not_mem_nil, or_false]; rintro x (rfl | rfl) <;> assumption) (by simp) List.nodup_nil (by simp [blks])
  unfold slices_ContainsFunc_impl_Block_impl_Block.f at H
  refine enter Try.func89 rfl Try.ntmps89 rfl fun a hk => ?_
  apply wp_seq_k; intro K1 hK1
  apply wp_region_lit
  refine sa _ rfl hk rfl rfl rfl fun a hk => ?_
  show wpList _ _ _ [] _ _
  refine wpList_nil ?_
  refine hK1 _ _ ?_
  apply wp_seq_k; intro K2 hK2
  apply wp_region_lit
  refine sm _ rfl hk rfl rfl rfl fun a hk => ?_
  refine sm _ rfl hk rfl rfl rfl fun a hk => ?_
  obtain ⟨y3, h4, H⟩ := bind_some H
  refine sc rfl en131 hk rfl rfl rfl (slices_IndexFunc_impl_Block_impl_Block_t _ A0_ p0_ l0 _ v0_ (hs.hasD (k := 1) rfl) f1_ c1_ e1_ q1 k1_ t1_ (hs.hasD (k := 2) rfl) _ h4) ?_
  rintro _ w ⟨rfl, hG⟩ a hk
  have hs := hs.call0 hG
  refine sv (.bool (decide (y3 ≥ 0))) hk rfl rfl rfl fun a hk => ?_
  refine sa _ rfl hk rfl rfl rfl fun a hk => ?_
  show wpList _ _ _ [] _ _
  refine wpList_nil ?_
  refine hK2 _ _ ?_
  refine wp_ret ?_
  obtain rfl := Option.some.inj H
  exact fin hk _ [(.bool (decide (y3 ≥ 0)))] rfl ⟨rfl, trivial⟩ ⟨rfl, (hs.pick [] rfl).dnil⟩

noncomputable def impl_areAll_impl_Block__c1.f (x0 : S_Block) (q1 : S_Block → Option (Bool)) : Option (Bool) :=
  ((q1 x0).bind fun y4 => (some (!y4)))
set_option maxRecDepth 100000 in
set_option maxHeartbeats 0 in
theorem impl_areAll_impl_Block__c1_t (w0 : World) (x0 : S_Block) (b1_ : Nat) (f1_ : FuncId) (c1_ : List Value) (e1_ : Enters Try.prog f1_) (q1 : S_Block → Option (Bool)) (k1_ : Chunk) (t1_ : ∀ w, Has w k1_ → ∀ (z0 : S_Block) (r : Bool), q1 z0 = some r → Calls Try.prog f1_ (([.agg #[.int .i64 z0.Id, .int .i64 z0.Leaf, .int .i64 z0.Value]] : List Value) ++ c1_).toArray w (Ret (fun v w2 => v = .bool r ∧ Sat [] w w2 [] []))) (w1_ : Has w0 k1_) (h1_ : Has w0 [(b1_, .cells #[.func (.func f1_) #[] c1_.toArray] 104 (0, 0))]) (r : Bool) (H : impl_areAll_impl_Block__c1.f x0 q1 = some r) :
    Calls Try.prog 143 #[.agg #[.int .i64 x0.Id, .int .i64 x0.Leaf, .int .i64 x0.Value], .pointer (some ⟨b1_, 0, none⟩)] w0 (Ret (fun v w => v = .bool r ∧ Sat [] w0 w [] [])) := by
  have hs : Sat [] w0 w0 [(2, k1_), (1, [(b1_, .cells #[.func (.func f1_) #[] c1_.toArray] 104 (0, 0))])] [] := Sat.init w0 [(2, k1_), (1, [(b1_, .cells #[.func (.func f1_) #[] c1_.toArray] 104 (0, 0))])] [] (by simp only [List.mem_cons, List.not_mem_nil, or_false]; rintro x (rfl | rfl) <;> assumption) (by simp) List.nodup_nil (by simp [blks])
  unfold impl_areAll_impl_Block__c1.f at H
  refine enter Try.func143 rfl Try.ntmps143 rfl fun a hk => ?_
  apply wp_seq_k; intro K1 hK1
  apply wp_region_lit
  refine sbx 3 hs rfl hk rfl rfl rfl rfl fun b2 w a hk hs => ?_
  refine sa _ rfl hk rfl rfl rfl fun a hk => ?_
  show wpList _ _ _ [] _ _
  refine wpList_nil ?_
  refine hK1 _ _ ?_
  apply wp_seq_k; intro K3 hK3
  apply wp_region_lit
  refine sl rfl hk rfl rfl rfl ag104 (box_cellD hs (k := 1) rfl rfl) fun a hk => ?_
  refine sln [.int .i64 x0.Id, .int .i64 x0.Leaf, .int .i64 x0.Value] rfl hk rfl rfl rfl ag102 sz102 (box_cells hs (k := 3) rfl) fun a hk => ?_
  obtain ⟨y4, h5, H⟩ := bind_some H
  refine scv (vs := ([(.agg #[.int .i64 x0.Id, .int .i64 x0.Leaf, .int .i64 x0.Value])] : List Value) ++ c1_) rfl rfl e1_ hk rfl rfl rfl (t1_ _ (hs.hasD (k := 2) rfl) x0 _ h5) ?_
  rintro _ w ⟨rfl, hG⟩ a hk
  have hs := hs.call0 hG
  refine sv (.bool (!y4)) hk rfl rfl rfl fun a hk => ?_
  refine sa _ rfl hk rfl rfl rfl fun a hk => ?_
  show wpList _ _ _ [] _ _
  refine wpList_nil ?_
  refine hK3 _ _ ?_
  refine wp_ret ?_
  obtain rfl := Option.some.inj H
  exact fin hk _ [(.bool (!y4))] rfl ⟨rfl, trivial⟩ ⟨rfl, (hs.pick [] rfl).dnil⟩

noncomputable def impl_areAll_impl_Block.f (l0 : List S_Block) (q1 : S_Block → Option (Bool)) : Option (Bool) :=
  ((slices_ContainsFunc_impl_Block_impl_Block.f l0 (fun z0 => impl_areAll_impl_Block__c1.f z0 q1)).bind fun y4 => (some (!y4)))
set_option maxRecDepth 100000 in
set_option maxHeartbeats 0 in
theorem impl_areAll_impl_Block_t (w0 : World) (A0_ : Option Addr) (p0_ : Nat) (l0 : List S_Block) (k0_ : Chunk) (v0_ : View L_Block A0_ p0_ l0 k0_) (w0_ : Has w0 k0_) (f1_ : FuncId) (c1_ : List Value) (e1_ : Enters Try.prog f1_) (q1 : S_Block → Option (Bool)) (k1_ : Chunk) (t1_ : ∀ w, Has w k1_ → ∀ (z0 : S_Block) (r : Bool), q1 z0 = some r → Calls Try.prog f1_ (([.agg #[.int .i64 z0.Id, .int .i64 z0.Leaf, .int .i64 z0.Value]] : List Value) ++ c1_).toArray w (Ret (fun v w2 => v = .bool r ∧ Sat [] w w2 [] []))) (w1_ : Has w0 k1_) (r : Bool) (H : impl_areAll_impl_Block.f l0 q1 = some r) :
    Calls Try.prog 81 #[.slice A0_ l0.length p0_, .func (.func f1_) #[] c1_.toArray] w0 (Ret (fun v w => v = .bool r ∧ Sat [] w0 w [] [])) := by
  have hs : Sat [] w0 w0 [(1, k0_), (2, k1_)] [] := Sat.init w0 [(1, k0_), (2, k1_)] [] (by simp only [List.mem_cons, List.not_mem_nil, or_false]; rintro x (rfl | rfl) <;> assumption) (by simp) List.nodup_nil (by simp [blks])
  unfold impl_areAll_impl_Block.f at H
  refine enter Try.func81 rfl Try.ntmps81 rfl fun a hk => ?_
  apply wp_seq_k; intro K1 hK1
  apply wp_region_lit
  refine sbx 3 hs rfl hk rfl rfl rfl rfl fun b2 w a hk hs => ?_
  refine sa _ rfl hk rfl rfl rfl fun a hk => ?_
  show wpList _ _ _ [] _ _
  refine wpList_nil ?_
  refine hK1 _ _ ?_
  apply wp_seq_k; intro K3 hK3
  apply wp_region_lit
  refine sm _ rfl hk rfl rfl rfl fun a hk => ?_
  refine smf (cs := [.pointer (some ⟨b2, 0, none⟩)]) rfl hk rfl rfl rfl fun a hk => ?_
  obtain ⟨y4, h5, H⟩ := bind_some H
  refine sc rfl en89 hk rfl rfl rfl (slices_ContainsFunc_impl_Block_impl_Block_t _ A0_ p0_ l0 _ v0_ (hs.hasD (k := 1) rfl) 143 [.pointer (some ⟨b2, 0, none⟩)] en143 (fun z0 => impl_areAll_impl_Block__c1.f z0 q1) ([(b2, .cells #[.func (.func f1_) #[] c1_.toArray] 104 (0, 0))] ++ k1_) (fun w hz z0 r h => impl_areAll_impl_Block__c1_t w z0 _ f1_ c1_ e1_ q1 k1_ t1_ (Has.right hz) (Has.left hz) r h) (Has.app (hs.hasG (k := 3) rfl) (hs.hasD (k := 2) rfl)) _ h5) ?_
  rintro _ w ⟨rfl, hG⟩ a hk
  have hs := hs.call0 hG
  refine sv (.bool (!y4)) hk rfl rfl rfl fun a hk => ?_
  refine sa _ rfl hk rfl rfl rfl fun a hk => ?_
  show wpList _ _ _ [] _ _
  refine wpList_nil ?_
  refine hK3 _ _ ?_
  refine wp_ret ?_
  obtain rfl := Option.some.inj H
  exact fin hk _ [(.bool (!y4))] rfl ⟨rfl, trivial⟩ ⟨rfl, (hs.pick [] rfl).dnil⟩

noncomputable def slices_Reverse_int_int.s0 (l0 : List Int) (u_r8_13_7 : List Int) (u_r8_13_11 : Int) (u_r8_13_12 : Int) : Option (((List Int) × Int × Int) ⊕ Ex ((List Int)) ((List Int))) :=
  (bif (decide (u_r8_13_11 < u_r8_13_12)) then (if 0 ≤ u_r8_13_12 ∧ u_r8_13_12 < (l0.length : Int) then (if 0 ≤ u_r8_13_11 ∧ u_r8_13_11 < (l0.length : Int) then (if 0 ≤ u_r8_13_11 ∧ u_r8_13_11 < (l0.length : Int) then (if 0 ≤ u_r8_13_12 ∧ u_r8_13_12 < (l0.length : Int) then (some (.inl (((u_r8_13_7.set u_r8_13_11.toNat (u_r8_13_7.getD u_r8_13_12.toNat 0)).set u_r8_13_12.toNat (u_r8_13_7.getD u_r8_13_11.toNat 0)), (w64 (u_r8_13_11 + 1)), (w64 (u_r8_13_12 - 1))))) else none) else none) else none) else none) else (some (.inr (.out u_r8_13_7))))
noncomputable def slices_Reverse_int_int.f (l0 : List Int) : Option ((List Int)) :=
  ((loopO (fun s => slices_Reverse_int_int.s0 l0 s.1 s.2.1 s.2.2) (l0, 0, (w64 ((l0.length : Int) - 1)))).bind fun o => match o with | .out u_r8_13_17 => (some u_r8_13_17) | .ret r => (some r))
set_option maxRecDepth 100000 in
set_option maxHeartbeats 0 in
theorem slices_Reverse_int_int_t (w0 : World) (A0_ : Option Addr) (p0_ : Nat) (l0 : List Int) (k0_ : Chunk) (v0_ : Own (Lay.int .i64) 3 A0_ p0_ l0 k0_) (hs0 : Sat (blks [(103261, k0_)]) w0 w0 [] [(103261, k0_)]) (r : (List Int)) (H : slices_Reverse_int_int.f l0 = some r) :
    Calls Try.prog 178 #[.slice A0_ l0.length p0_] w0 (Ret (fun v w => ∃ (k0 : Chunk), v = .tuple #[] ∧ (Own (Lay.int .i64) 3 A0_ p0_ r k0 ∧ r.length = l0.length) ∧ Sat (blks [(103261, k0_)]) w0 w [] [(0, k0)])) := by
  have hs := hs0
  unfold slices_Reverse_int_int.f at H
  refine enter Try.func178 rfl Try.ntmps178 rfl fun a hk => ?_
  apply wp_seq_k; intro K1 hK1
  apply wp_region_lit
  refine sm _ rfl hk rfl rfl rfl fun a hk => ?_
  refine sle rfl hk rfl rfl rfl un22 fun a hk => ?_
  refine sv (.int .i64 (w64 ((l0.length : Int) - 1))) hk rfl rfl rfl fun a hk => ?_
  refine sa _ rfl hk rfl rfl rfl fun a hk => ?_
  refine sa _ rfl hk rfl rfl rfl fun a hk => ?_
  show wpList _ _ _ [] _ _
  refine wpList_nil ?_
  refine hK1 _ _ ?_
  obtain ⟨o_r8_13_21, h_r8_13_22, HL_r8_13_23⟩ := bind_some H
  clear H
  obtain ⟨R_r8_13_24, hR_r8_13_24⟩ : ∃ R : Act → World → Prop, R = fun a w => ∃ (u_r8_13_17 : List Int) (k_r8_13_18 : Chunk), o_r8_13_21 = .out u_r8_13_17 ∧ Kn [(0, (.slice A0_ l0.length p0_))] 28 a ∧ Sat (blks [(103261, k0_)]) w0 w [] [(103261, k_r8_13_18)] ∧ Own (Lay.int .i64) 3 A0_ p0_ u_r8_13_17 k_r8_13_18 ∧ u_r8_13_17.length = l0.length := ⟨_, rfl⟩
  refine wp_cutq R_r8_13_24 ?_ ?_
  · refine wp_block ?_
    obtain ⟨fu_r8_13_26, h_r8_13_22⟩ := loopO_some h_r8_13_22
    obtain ⟨I_r8_13_25, hI_r8_13_25⟩ : ∃ I : Nat → Act → World → Prop, I = fun fu a w => ∃ (u_r8_13_7 : List Int) (u_r8_13_11 : Int) (u_r8_13_12 : Int) (k_r8_13_8 : Chunk), loopN (fun s => slices_Reverse_int_int.s0 l0 s.1 s.2.1 s.2.2) fu (u_r8_13_7, u_r8_13_11, u_r8_13_12) = some o_r8_13_21 ∧ Kn [(0, (.slice A0_ l0.length p0_)), (2, (.int .i64 u_r8_13_11)), (3, (.int .i64 u_r8_13_12))] 28 a ∧ Sat (blks [(103261, k0_)]) w0 w [] [(103261, k_r8_13_8)] ∧ Own (Lay.int .i64) 3 A0_ p0_ u_r8_13_7 k_r8_13_8 ∧ u_r8_13_7.length = l0.length := ⟨_, rfl⟩
    refine wp_loop_ghost I_r8_13_25 fu_r8_13_26 ?_ ?_
    · rw [hI_r8_13_25]
      exact ⟨l0, 0, (w64 ((l0.length : Int) - 1)), _, h_r8_13_22, (hk.c 0 rfl (hk.c 2 rfl (hk.c 3 rfl hk.k))), (hs.pick [(103261, 103261)] rfl), v0_, rfl⟩
    · clear h_r8_13_22 hk hs
      intro fu_r8_13_26 a w hI0
      rw [hI_r8_13_25] at hI0
      obtain ⟨u_r8_13_7, u_r8_13_11, u_r8_13_12, k_r8_13_8, hi, hk, hs, o_r8_13_9, lh_r8_13_10⟩ := hI0
      obtain ⟨x_r8_13_27, H, h_r8_13_28⟩ := loop_round hi
      try dsimp only at H
      unfold slices_Reverse_int_int.s0 at H
      apply wp_seq_k; intro K2 hK2
      apply wp_seq_k; intro K3 hK3
      apply wp_region_lit
      refine sm _ rfl hk rfl rfl rfl fun a hk => ?_
      refine sm _ rfl hk rfl rfl rfl fun a hk => ?_
      refine sv (.bool (decide (u_r8_13_11 < u_r8_13_12))) hk rfl rfl rfl fun a hk => ?_
      show wpList _ _ _ [] _ _
      refine wpList_nil ?_
      refine hK3 _ _ ?_
      rcases cond_some H with ⟨c_r8_13_30, H⟩ | ⟨c_r8_13_30, H⟩
      · have hk := hk.lit 9 c_r8_13_30 rfl
        refine cnd_true hk rfl rfl ?_
        refine wp_skip ?_
        refine hK2 _ _ ?_
        apply wp_seq_k; intro K4 hK4
        refine wp_block ?_
        rcases ite_some H with ⟨c_r_r8_13_31_6_1, H⟩ | ⟨_, H⟩
        rotate_left
        · cases H
        rcases ite_some H with ⟨c_r_r8_13_31_10_1, H⟩ | ⟨_, H⟩
        rotate_left
        · cases H
        rcases ite_some H with ⟨c_r_r8_13_31_12_1, H⟩ | ⟨_, H⟩
        rotate_left
        · cases H
        rcases ite_some H with ⟨c_r_r8_13_31_14_1, H⟩ | ⟨_, H⟩
        rotate_left
        · cases H
        obtain ⟨R_r8_13_32, hR_r8_13_32⟩ : ∃ R : Act → World → Prop, R = fun a w => ∃ (k_r_r8_13_31_15_1 : Chunk), Kn [(0, (.slice A0_ l0.length p0_)), (2, (.int .i64 u_r8_13_11)), (3, (.int .i64 u_r8_13_12))] 28 a ∧ Sat (blks [(103261, k0_)]) w0 w [] [(103261, k_r_r8_13_31_15_1)] ∧ Own (Lay.int .i64) 3 A0_ p0_ ((u_r8_13_7.set u_r8_13_11.toNat (u_r8_13_7.getD u_r8_13_12.toNat 0)).set u_r8_13_12.toNat (u_r8_13_7.getD u_r8_13_11.toNat 0)) k_r_r8_13_31_15_1 ∧ ((u_r8_13_7.set u_r8_13_11.toNat (u_r8_13_7.getD u_r8_13_12.toNat 0)).set u_r8_13_12.toNat (u_r8_13_7.getD u_r8_13_11.toNat 0)).length = l0.length := ⟨_, rfl⟩
        refine wp_cutq R_r8_13_32 ?_ ?_
        · skip
          refine wp_region_tree (.q 0 (.q 1 (.q 2 (.q 3 (.q 4 (.q 5 (.q 6 (.q 8 (.q 9 (.q 10 (.alt 7 (.alt 11 (.alt 12 (.alt 13 (.alt 14 (.last 15) .stop) .stop) .stop) .stop) (.alt 11 (.alt 7 (.alt 12 (.alt 13 (.alt 14 (.last 15) .stop) .stop) .stop) .stop) .stop)))))))))))) mo (by kernel_rfl) (hs.pick [] rfl) fun _ => ?_
          have hs := hs.drew
          refine tqst (.slice A0_ l0.length p0_) hk rfl rfl rfl rfl (fun w hs => sm _ rfl hk rfl rfl rfl fun a hk => qe hk) fun a hk => ?_
          refine tqst (.int .i64 u_r8_13_11) hk rfl rfl rfl rfl (fun w hs => sm _ rfl hk rfl rfl rfl fun a hk => qe hk) fun a hk => ?_
          refine tqst (.slice A0_ l0.length p0_) hk rfl rfl rfl rfl (fun w hs => sm _ rfl hk rfl rfl rfl fun a hk => qe hk) fun a hk => ?_
          refine tqst (.int .i64 u_r8_13_12) hk rfl rfl rfl rfl (fun w hs => sm _ rfl hk rfl rfl rfl fun a hk => qe hk) fun a hk => ?_
          refine tqst (.slice A0_ l0.length p0_) hk rfl rfl rfl rfl (fun w hs => sm _ rfl hk rfl rfl rfl fun a hk => qe hk) fun a hk => ?_
          refine tqst (.int .i64 u_r8_13_12) hk rfl rfl rfl rfl (fun w hs => sm _ rfl hk rfl rfl rfl fun a hk => qe hk) fun a hk => ?_
          obtain ⟨b_r_r8_13_31_6_2, q_r_r8_13_31_6_3, hAc_r_r8_13_31_6_1⟩ := (o_r8_13_9.view).some_ u_r8_13_12 c_r_r8_13_31_6_1.1 (by rw [lh_r8_13_10]; exact c_r_r8_13_31_6_1.2)
          refine tqst (.pointer (some (padd A0_ (u_r8_13_12.toNat * 1)))) hk rfl rfl rfl rfl (fun w hs => si rfl hk rfl rfl rfl rfl un22 sz3 c_r_r8_13_31_6_1.1 c_r_r8_13_31_6_1.2 hAc_r_r8_13_31_6_1 fun a hk => qe hk) fun a hk => ?_
          refine tqst (.slice A0_ l0.length p0_) hk rfl rfl rfl rfl (fun w hs => sm _ rfl hk rfl rfl rfl fun a hk => qe hk) fun a hk => ?_
          refine tqst (.int .i64 u_r8_13_11) hk rfl rfl rfl rfl (fun w hs => sm _ rfl hk rfl rfl rfl fun a hk => qe hk) fun a hk => ?_
          obtain ⟨b_r_r8_13_31_10_2, q_r_r8_13_31_10_3, hAc_r_r8_13_31_10_1⟩ := (o_r8_13_9.view).some_ u_r8_13_11 c_r_r8_13_31_10_1.1 (by rw [lh_r8_13_10]; exact c_r_r8_13_31_10_1.2)
          refine tqst (.pointer (some (padd A0_ (u_r8_13_11.toNat * 1)))) hk rfl rfl rfl rfl (fun w hs => si rfl hk rfl rfl rfl rfl un22 sz3 c_r_r8_13_31_10_1.1 c_r_r8_13_31_10_1.2 hAc_r_r8_13_31_10_1 fun a hk => qe hk) fun a hk => ?_
          refine tsst hk rfl rfl (fun K_r_r8_13_31_7 hK_r_r8_13_31_7 w hF => ?_) ?_
          · skip
            have hs := hs.f hF
            obtain ⟨_, rfl, e_r_r8_13_31_7_1⟩ := (o_r8_13_9.view).at_ 0 u_r8_13_12 c_r_r8_13_31_6_1.1 (by rw [lh_r8_13_10]; exact c_r_r8_13_31_6_1.2)
            refine sl (v := (.int .i64 (u_r8_13_7.getD u_r8_13_12.toNat 0))) rfl hk rfl rfl rfl ag3 ((e_r_r8_13_31_7_1 0 _ rfl).cell (hs.hasG (k := 103261) rfl)) fun a hk => ?_
            refine se (hs.pick [] rfl) hk (hK_r_r8_13_31_7 _ _ ?_)
            refine tsst hk rfl rfl (fun K_r_r8_13_31_11 hK_r_r8_13_31_11 w hF => ?_) wt_stop
            have hs := hs.f hF
            obtain ⟨_, rfl, e_r_r8_13_31_11_1⟩ := (o_r8_13_9.view).at_ 0 u_r8_13_11 c_r_r8_13_31_10_1.1 (by rw [lh_r8_13_10]; exact c_r_r8_13_31_10_1.2)
            refine sl (v := (.int .i64 (u_r8_13_7.getD u_r8_13_11.toNat 0))) rfl hk rfl rfl rfl ag3 ((e_r_r8_13_31_11_1 0 _ rfl).cell (hs.hasG (k := 103261) rfl)) fun a hk => ?_
            refine se (hs.pick [] rfl) hk (hK_r_r8_13_31_11 _ _ ?_)
            refine tsst hk rfl rfl (fun K_r_r8_13_31_12 hK_r_r8_13_31_12 w hF => ?_) wt_stop
            have hs := hs.f hF
            obtain ⟨b_r_r8_13_31_12_2, q_r_r8_13_31_12_3, hAc_r_r8_13_31_12_1⟩ := (o_r8_13_9.view).some_ u_r8_13_11 c_r_r8_13_31_12_1.1 (by rw [lh_r8_13_10]; exact c_r_r8_13_31_12_1.2)
            refine si rfl hk rfl rfl rfl rfl un22 sz3 c_r_r8_13_31_12_1.1 c_r_r8_13_31_12_1.2 hAc_r_r8_13_31_12_1 fun a hk => ?_
            refine se (hs.pick [] rfl) hk (hK_r_r8_13_31_12 _ _ ?_)
            refine tsst hk rfl rfl (fun K_r_r8_13_31_13 hK_r_r8_13_31_13 w hF => ?_) wt_stop
            have hs := hs.f hF
            refine so (j := 0) 103261 0 (u_r8_13_7.getD u_r8_13_12.toNat 0) hs rfl o_r8_13_9 c_r_r8_13_31_12_1.1 (by rw [lh_r8_13_10]; exact c_r_r8_13_31_12_1.2) rfl hk rfl rfl rfl rfl rfl sz3 (by simp [Value.cells, Value.oneCell']) (Nat.le_of_ble_eq_true rfl) (fun _ _ h => ⟨by rw [h.1]; rfl, h.2⟩) fun k_r_r8_13_31_13_1 w a hk o_r_r8_13_31_13_2 hs => ?_
            have lh_r_r8_13_31_13_3 : (u_r8_13_7.set u_r8_13_11.toNat (u_r8_13_7.getD u_r8_13_12.toNat 0)).length = l0.length := by rw [List.length_set]; exact lh_r8_13_10
            refine se (hs.pick [] rfl) hk (hK_r_r8_13_31_13 _ _ ?_)
            refine tsst hk rfl rfl (fun K_r_r8_13_31_14 hK_r_r8_13_31_14 w hF => ?_) wt_stop
            have hs := hs.f hF
            obtain ⟨b_r_r8_13_31_14_2, q_r_r8_13_31_14_3, hAc_r_r8_13_31_14_1⟩ := (o_r_r8_13_31_13_2.view).some_ u_r8_13_12 c_r_r8_13_31_14_1.1 (by rw [lh_r_r8_13_31_13_3]; exact c_r_r8_13_31_14_1.2)
            refine si rfl hk rfl rfl rfl rfl un22 sz3 c_r_r8_13_31_14_1.1 c_r_r8_13_31_14_1.2 hAc_r_r8_13_31_14_1 fun a hk => ?_
            refine se (hs.pick [] rfl) hk (hK_r_r8_13_31_14 _ _ ?_)
            refine tlst hk rfl rfl fun K_r_r8_13_31_15 hK_r_r8_13_31_15 w hF => ?_
            have hs := hs.f hF
            refine so (j := 0) 103261 0 (u_r8_13_7.getD u_r8_13_11.toNat 0) hs rfl o_r_r8_13_31_13_2 c_r_r8_13_31_14_1.1 (by rw [lh_r_r8_13_31_13_3]; exact c_r_r8_13_31_14_1.2) rfl hk rfl rfl rfl rfl rfl sz3 (by simp [Value.cells, Value.oneCell']) (Nat.le_of_ble_eq_true rfl) (fun _ _ h => ⟨by rw [h.1]; rfl, h.2⟩) fun k_r_r8_13_31_15_1 w a hk o_r_r8_13_31_15_2 hs => ?_
            have lh_r_r8_13_31_15_3 : ((u_r8_13_7.set u_r8_13_11.toNat (u_r8_13_7.getD u_r8_13_12.toNat 0)).set u_r8_13_12.toNat (u_r8_13_7.getD u_r8_13_11.toNat 0)).length = l0.length := by rw [List.length_set]; exact lh_r_r8_13_31_13_3
            refine se trivial hk (hK_r_r8_13_31_15 _ _ fun w hF => ?_)
            have hs := hs.f hF
            show R_r8_13_32 _ _
            rw [hR_r8_13_32]
            exact ⟨k_r_r8_13_31_15_1, (hk.c 0 rfl (hk.c 2 rfl (hk.c 3 rfl hk.k))), (hs.pick [(103261, 103261)] rfl), o_r_r8_13_31_15_2, lh_r_r8_13_31_15_3⟩
          refine tsst hk rfl rfl (fun K_r_r8_13_31_11 hK_r_r8_13_31_11 w hF => ?_) wt_stop
          have hs := hs.f hF
          obtain ⟨_, rfl, e_r_r8_13_31_11_1⟩ := (o_r8_13_9.view).at_ 0 u_r8_13_11 c_r_r8_13_31_10_1.1 (by rw [lh_r8_13_10]; exact c_r_r8_13_31_10_1.2)
          refine sl (v := (.int .i64 (u_r8_13_7.getD u_r8_13_11.toNat 0))) rfl hk rfl rfl rfl ag3 ((e_r_r8_13_31_11_1 0 _ rfl).cell (hs.hasG (k := 103261) rfl)) fun a hk => ?_
          refine se (hs.pick [] rfl) hk (hK_r_r8_13_31_11 _ _ ?_)
          refine tsst hk rfl rfl (fun K_r_r8_13_31_7 hK_r_r8_13_31_7 w hF => ?_) wt_stop
          have hs := hs.f hF
          obtain ⟨_, rfl, e_r_r8_13_31_7_1⟩ := (o_r8_13_9.view).at_ 0 u_r8_13_12 c_r_r8_13_31_6_1.1 (by rw [lh_r8_13_10]; exact c_r_r8_13_31_6_1.2)
          refine sl (v := (.int .i64 (u_r8_13_7.getD u_r8_13_12.toNat 0))) rfl hk rfl rfl rfl ag3 ((e_r_r8_13_31_7_1 0 _ rfl).cell (hs.hasG (k := 103261) rfl)) fun a hk => ?_
          refine se (hs.pick [] rfl) hk (hK_r_r8_13_31_7 _ _ ?_)
          refine tsst hk rfl rfl (fun K_r_r8_13_31_12 hK_r_r8_13_31_12 w hF => ?_) wt_stop
          have hs := hs.f hF
          obtain ⟨b_r_r8_13_31_12_2, q_r_r8_13_31_12_3, hAc_r_r8_13_31_12_1⟩ := (o_r8_13_9.view).some_ u_r8_13_11 c_r_r8_13_31_12_1.1 (by rw [lh_r8_13_10]; exact c_r_r8_13_31_12_1.2)
          refine si rfl hk rfl rfl rfl rfl un22 sz3 c_r_r8_13_31_12_1.1 c_r_r8_13_31_12_1.2 hAc_r_r8_13_31_12_1 fun a hk => ?_
          refine se (hs.pick [] rfl) hk (hK_r_r8_13_31_12 _ _ ?_)
          refine tsst hk rfl rfl (fun K_r_r8_13_31_13 hK_r_r8_13_31_13 w hF => ?_) wt_stop
          have hs := hs.f hF
          refine so (j := 0) 103261 0 (u_r8_13_7.getD u_r8_13_12.toNat 0) hs rfl o_r8_13_9 c_r_r8_13_31_12_1.1 (by rw [lh_r8_13_10]; exact c_r_r8_13_31_12_1.2) rfl hk rfl rfl rfl rfl rfl sz3 (by simp [Value.cells, Value.oneCell']) (Nat.le_of_ble_eq_true rfl) (fun _ _ h => ⟨by rw [h.1]; rfl, h.2⟩) fun k_r_r8_13_31_13_1 w a hk o_r_r8_13_31_13_2 hs => ?_
          have lh_r_r8_13_31_13_3 : (u_r8_13_7.set u_r8_13_11.toNat (u_r8_13_7.getD u_r8_13_12.toNat 0)).length = l0.length := by rw [List.length_set]; exact lh_r8_13_10
          refine se (hs.pick [] rfl) hk (hK_r_r8_13_31_13 _ _ ?_)
          refine tsst hk rfl rfl (fun K_r_r8_13_31_14 hK_r_r8_13_31_14 w hF => ?_) wt_stop
          have hs := hs.f hF
          obtain ⟨b_r_r8_13_31_14_2, q_r_r8_13_31_14_3, hAc_r_r8_13_31_14_1⟩ := (o_r_r8_13_31_13_2.view).some_ u_r8_13_12 c_r_r8_13_31_14_1.1 (by rw [lh_r_r8_13_31_13_3]; exact c_r_r8_13_31_14_1.2)
          refine si rfl hk rfl rfl rfl rfl un22 sz3 c_r_r8_13_31_14_1.1 c_r_r8_13_31_14_1.2 hAc_r_r8_13_31_14_1 fun a hk => ?_
          refine se (hs.pick [] rfl) hk (hK_r_r8_13_31_14 _ _ ?_)
          refine tlst hk rfl rfl fun K_r_r8_13_31_15 hK_r_r8_13_31_15 w hF => ?_
          have hs := hs.f hF
          refine so (j := 0) 103261 0 (u_r8_13_7.getD u_r8_13_11.toNat 0) hs rfl o_r_r8_13_31_13_2 c_r_r8_13_31_14_1.1 (by rw [lh_r_r8_13_31_13_3]; exact c_r_r8_13_31_14_1.2) rfl hk rfl rfl rfl rfl rfl sz3 (by simp [Value.cells, Value.oneCell']) (Nat.le_of_ble_eq_true rfl) (fun _ _ h => ⟨by rw [h.1]; rfl, h.2⟩) fun k_r_r8_13_31_15_1 w a hk o_r_r8_13_31_15_2 hs => ?_
          have lh_r_r8_13_31_15_3 : ((u_r8_13_7.set u_r8_13_11.toNat (u_r8_13_7.getD u_r8_13_12.toNat 0)).set u_r8_13_12.toNat (u_r8_13_7.getD u_r8_13_11.toNat 0)).length = l0.length := by rw [List.length_set]; exact lh_r_r8_13_31_13_3
          refine se trivial hk (hK_r_r8_13_31_15 _ _ fun w hF => ?_)
          have hs := hs.f hF
          show R_r8_13_32 _ _
          rw [hR_r8_13_32]
          exact ⟨k_r_r8_13_31_15_1, (hk.c 0 rfl (hk.c 2 rfl (hk.c 3 rfl hk.k))), (hs.pick [(103261, 103261)] rfl), o_r_r8_13_31_15_2, lh_r_r8_13_31_15_3⟩
        · intro a w hR0
          rw [hR_r8_13_32] at hR0
          obtain ⟨k_r_r8_13_31_15_1, hk, hs, o_r_r8_13_31_15_2, lh_r_r8_13_31_15_3⟩ := hR0
          refine hK4 _ _ ?_
          apply wp_region_lit
          refine sm _ rfl hk rfl rfl rfl fun a hk => ?_
          refine sv (.int .i64 (w64 (u_r8_13_11 + 1))) hk rfl rfl rfl fun a hk => ?_
          refine sm _ rfl hk rfl rfl rfl fun a hk => ?_
          refine sv (.int .i64 (w64 (u_r8_13_12 - 1))) hk rfl rfl rfl fun a hk => ?_
          refine sa _ rfl hk rfl rfl rfl fun a hk => ?_
          refine sa _ rfl hk rfl rfl rfl fun a hk => ?_
          show wpList _ _ _ [] _ _
          refine wpList_nil ?_
          obtain rfl := Option.some.inj H
          obtain ⟨m_r8_13_33, hmm_r8_13_33, h_r8_13_28⟩ := h_r8_13_28
          show ∃ n', n' < _ ∧ I_r8_13_25 n' _ _
          refine ⟨m_r8_13_33, hmm_r8_13_33, ?_⟩
          rw [hI_r8_13_25]
          exact ⟨((u_r8_13_7.set u_r8_13_11.toNat (u_r8_13_7.getD u_r8_13_12.toNat 0)).set u_r8_13_12.toNat (u_r8_13_7.getD u_r8_13_11.toNat 0)), (w64 (u_r8_13_11 + 1)), (w64 (u_r8_13_12 - 1)), _, h_r8_13_28, (hk.c 0 rfl (hk.c 2 rfl (hk.c 3 rfl hk.k))), (hs.pick [(103261, 103261)] rfl), o_r_r8_13_31_15_2, lh_r_r8_13_31_15_3⟩
      · have hk := hk.lit 9 c_r8_13_30 rfl
        refine cnd_false hk rfl rfl ?_
        refine wp_exit ?_
        obtain rfl := Option.some.inj H
        show R_r8_13_24 _ _
        rw [hR_r8_13_24]
        exact ⟨u_r8_13_7, _, h_r8_13_28.symm, (hk.c 0 rfl hk.k), (hs.pick [(103261, 103261)] rfl), o_r8_13_9, lh_r8_13_10⟩
  · intro a w hR0
    rw [hR_r8_13_24] at hR0
    obtain ⟨u_r8_13_17, k_r8_13_18, rfl, hk, hs, o_r8_13_19, lh_r8_13_20⟩ := hR0
    have H := HL_r8_13_23
    try dsimp only at H
    obtain rfl := Option.some.inj H
    exact fin0 hk _ [] rfl trivial ⟨_, rfl, ⟨o_r8_13_19, lh_r8_13_20⟩, (hs.pick [(0, 103261)] rfl).dnil⟩

noncomputable def impl_pathOf.s0  (u12 : List Int) (u11 : Int) : Option (((List Int) × Int) ⊕ Ex (Unit) ((List Int))) :=
  (if u12.length + ([u11]).length ≤ 1073741824 then (bif (u11 == 0) then ((slices_Reverse_int_int.f (u12 ++ ([u11]))).bind fun y38 => (some (.inr (.ret y38)))) else (some (.inl ((u12 ++ ([u11])), (IntKind.wrap .i64 (Int.tdiv (w64 (u11 - 1)) 2)))))) else none)
noncomputable def impl_pathOf.f (x0 : Int) : Option ((List Int)) :=
  ((loopO (fun s => impl_pathOf.s0  s.1 s.2) (([] : List Int), (w64 (7 + x0)))).bind fun o => match o with | .out _ => none | .ret r => (some r))
set_option maxRecDepth 100000 in
set_option maxHeartbeats 0 in
theorem impl_pathOf_t (w0 : World) (x0 : Int) (r : (List Int)) (H : impl_pathOf.f x0 = some r) :
    Calls Try.prog 130 #[.int .i64 x0] w0 (Ret (fun v w => ∃ (A0 : Option Addr) (p0 : Nat) (k0 : Chunk), v = .slice A0 r.length p0 ∧ Own (Lay.int .i64) 3 A0 p0 r k0 ∧ Sat [] w0 w [] [(0, k0)])) := by
  have hs : Sat [] w0 w0 [] [] := Sat.init w0 [] [] (by simp) (by simp) List.nodup_nil (by simp [blks])
  unfold impl_pathOf.f at H
  refine enter Try.func130 rfl Try.ntmps130 rfl fun a hk => ?_
  apply wp_seq_k; intro K1 hK1
  apply wp_region_lit
  refine sa _ rfl hk rfl rfl rfl fun a hk => ?_
  show wpList _ _ _ [] _ _
  refine wpList_nil ?_
  refine hK1 _ _ ?_
  apply wp_seq_k; intro K2 hK2
  apply wp_region_lit
  refine sa _ rfl hk rfl rfl rfl fun a hk => ?_
  show wpList _ _ _ [] _ _
  refine wpList_nil ?_
  refine hK2 _ _ ?_
  apply wp_seq_k; intro K3 hK3
  apply wp_region_lit
  refine sm _ rfl hk rfl rfl rfl fun a hk => ?_
  refine sv (.int .i64 (w64 (7 + x0))) hk rfl rfl rfl fun a hk => ?_
  refine sa _ rfl hk rfl rfl rfl fun a hk => ?_
  show wpList _ _ _ [] _ _
  refine wpList_nil ?_
  refine hK3 _ _ ?_
  obtain ⟨o17, h18, HL19⟩ := bind_some H
  clear H
  obtain ⟨R20, hR20⟩ : ∃ R : Act → World → Prop, R = fun a w => o17 = .out () ∧ Kn [] 19 a ∧ Sat [] w0 w [] [] := ⟨_, rfl⟩
  refine wp_cutq R20 ?_ ?_
  · refine wp_block ?_
    obtain ⟨fu22, h18⟩ := loopO_some h18
    obtain ⟨I21, hI21⟩ : ∃ I : Nat → Act → World → Prop, I = fun fu a w => ∃ (u12 : List Int) (u11 : Int) (A15 : Option Addr) (p16 : Nat) (k13 : Chunk), loopN (fun s => impl_pathOf.s0  s.1 s.2) fu (u12, u11) = some o17 ∧ Kn [(3, (.slice A15 u12.length p16)), (4, (.int .i64 u11))] 19 a ∧ Sat [] w0 w [] [(3, k13)] ∧ Own (Lay.int .i64) 3 A15 p16 u12 k13 := ⟨_, rfl⟩
    refine wp_loop_ghost I21 fu22 ?_ ?_
    · rw [hI21]
      exact ⟨([] : List Int), (w64 (7 + x0)), none, 0, _, h18, (hk.c 3 rfl (hk.c 4 rfl hk.k)), ((hs.addNil 1003).pick [(3, 1003)] rfl), Own.nil _ _⟩
    · clear h18 hk hs
      intro fu22 a w hI0
      rw [hI21] at hI0
      obtain ⟨u12, u11, A15, p16, k13, hi, hk, hs, o14⟩ := hI0
      obtain ⟨x23, H, h24⟩ := loop_round hi
      try dsimp only at H
      unfold impl_pathOf.s0 at H
      apply wp_seq_k; intro K25 hK25
      refine wp_block ?_
      apply wp_seq_k; intro K26 hK26
      apply wp_region_lit
      refine sm _ rfl hk rfl rfl rfl fun a hk => ?_
      refine sm _ rfl hk rfl rfl rfl fun a hk => ?_
      refine sbs (L := (Lay.int .i64)) (pv := [(0, (.int .i64 u11))]) (xs := [u11]) (ess := [[.int .i64 u11]]) 4 hs rfl hk rfl rfl rfl un22 (bs3_0 u11) (AllOwn.cons0 ⟨rfl, rfl⟩ AllOwn.nil) rfl rfl rfl fun b27 k28 w a hk o29 hs => ?_
      rcases ite_some H with ⟨c30, H⟩ | ⟨_, H⟩
      rotate_left
      · cases H
      refine sap 3 (xs := u12) (ys := [u11]) (flat_flat : ((Lay.int .i64)).Flat) hs rfl o14 o29.view (hs.hasG (k := 4) rfl) rfl hk rfl rfl rfl rfl rfl rfl un22 mk3 rfl rfl rfl c30 fun A31 p32 k33 w a hk o34 hs => ?_
      refine sa _ rfl hk rfl rfl rfl fun a hk => ?_
      show wpList _ _ _ [] _ _
      refine wpList_nil ?_
      refine hK26 _ _ ?_
      apply wp_seq_k; intro K35 hK35
      apply wp_region_lit
      refine sm _ rfl hk rfl rfl rfl fun a hk => ?_
      refine sv (.bool (u11 == 0)) hk rfl rfl rfl fun a hk => ?_
      show wpList _ _ _ [] _ _
      refine wpList_nil ?_
      refine hK35 _ _ ?_
      rcases cond_some H with ⟨c36, H⟩ | ⟨c36, H⟩
      · have hk := hk.lit 15 c36 rfl
        refine cnd_true hk rfl rfl ?_
        apply wp_seq_k; intro K37 hK37
        apply wp_region_lit
        refine sm _ rfl hk rfl rfl rfl fun a hk => ?_
        obtain ⟨y38, h39, H⟩ := bind_some H
        refine sc rfl en178 hk rfl rfl rfl (slices_Reverse_int_int_t _ A31 p32 (u12 ++ ([u11])) _ o34 ((hs.hand [(103261, 3)] rfl).dpick [] rfl) _ h39) ?_
        rintro _ w ⟨k40, rfl, ⟨o41, lh42⟩, hG⟩ a hk
        have hs := hs.back [(103261, 3)] rfl hG [3] rfl
        have lh43 : y38.length = (u12 ++ ([u11])).length := lh42
        show wpList _ _ _ [] _ _
        refine wpList_nil ?_
        refine hK37 _ _ ?_
        apply wp_seq_k; intro K44 hK44
        apply wp_region_lit
        refine sm _ rfl hk rfl rfl rfl fun a hk => ?_
        refine sa _ rfl hk rfl rfl rfl fun a hk => ?_
        show wpList _ _ _ [] _ _
        refine wpList_nil ?_
        refine hK44 _ _ ?_
        refine wp_ret ?_
        obtain rfl := Option.some.inj H
        have ho17 := h24
        try dsimp only at ho17
        subst ho17
        have H := HL19
        try dsimp only at H
        obtain rfl := Option.some.inj H
        exact fin hk _ [(.slice A31 (u12 ++ ([u11])).length p32)] rfl ⟨rfl, trivial⟩ ⟨A31, p32, _, (by first | (rw [lh43]; done) | (rw [lh43]; rfl)), o41, (hs.pick [(0, 3)] rfl).dnil⟩
      · have hk := hk.lit 15 c36 rfl
        refine cnd_false hk rfl rfl ?_
        refine wp_skip ?_
        refine hK25 _ _ ?_
        apply wp_region_lit
        refine sm _ rfl hk rfl rfl rfl fun a hk => ?_
        refine sv (.int .i64 (w64 (u11 - 1))) hk rfl rfl rfl fun a hk => ?_
        refine sv (.int .i64 (IntKind.wrap .i64 (Int.tdiv (w64 (u11 - 1)) 2))) hk rfl rfl rfl fun a hk => ?_
        refine sa _ rfl hk rfl rfl rfl fun a hk => ?_
        show wpList _ _ _ [] _ _
        refine wpList_nil ?_
        obtain rfl := Option.some.inj H
        obtain ⟨m45, hmm45, h24⟩ := h24
        show ∃ n', n' < _ ∧ I21 n' _ _
        refine ⟨m45, hmm45, ?_⟩
        rw [hI21]
        exact ⟨(u12 ++ ([u11])), (IntKind.wrap .i64 (Int.tdiv (w64 (u11 - 1)) 2)), A31, p32, _, h24, (hk.c 3 rfl (hk.c 4 rfl hk.k)), (hs.pick [(3, 3)] rfl), o34⟩
  · intro a w hR0
    rw [hR20] at hR0
    obtain ⟨rfl, hk, hs⟩ := hR0
    have H := HL19
    try dsimp only at H
    cases H

noncomputable def slices_Index_int_int.s0 (l0 : List Int) (x1 : Int) (u6 : Int) : Option ((Int) ⊕ Ex (Unit) (Int)) :=
  (bif (decide (u6 < (l0.length : Int))) then (if 0 ≤ u6 ∧ u6 < (l0.length : Int) then (bif (x1 == (l0.getD u6.toNat 0)) then (some (.inr (.ret u6))) else (some (.inl (w64 (u6 + 1))))) else none) else (some (.inr (.out ()))))
noncomputable def slices_Index_int_int.f (l0 : List Int) (x1 : Int) : Option (Int) :=
  ((loopO (fun s => slices_Index_int_int.s0 l0 x1 s) 0).bind fun o => match o with | .out _ => (some (-1)) | .ret r => (some r))
set_option maxRecDepth 100000 in
set_option maxHeartbeats 0 in
theorem slices_Index_int_int_t (w0 : World) (A0_ : Option Addr) (p0_ : Nat) (l0 : List Int) (k0_ : Chunk) (v0_ : View (Lay.int .i64) A0_ p0_ l0 k0_) (w0_ : Has w0 k0_) (x1 : Int) (r : Int) (H : slices_Index_int_int.f l0 x1 = some r) :
    Calls Try.prog 182 #[.slice A0_ l0.length p0_, .int .i64 x1] w0 (Ret (fun v w => v = .int .i64 r ∧ Sat [] w0 w [] [])) := by
  have hs : Sat [] w0 w0 [(1, k0_)] [] := Sat.init w0 [(1, k0_)] [] (by simp only [List.mem_cons, List.not_mem_nil, or_false]; rintro x (rfl) <;> assumption) (by simp) List.nodup_nil (by simp [blks])
  unfold slices_Index_int_int.f at H
  refine enter Try.func182 rfl Try.ntmps182 rfl fun a hk => ?_
  apply wp_seq_k; intro K1 hK1
  apply wp_region_lit
  refine sa _ rfl hk rfl rfl rfl fun a hk => ?_
  show wpList _ _ _ [] _ _
  refine wpList_nil ?_
  refine hK1 _ _ ?_
  apply wp_seq_k; intro K2 hK2
  apply wp_seq_k; intro K3 hK3
  apply wp_region_lit
  refine sm _ rfl hk rfl rfl rfl fun a hk => ?_
  refine sle rfl hk rfl rfl rfl un22 fun a hk => ?_
  refine sm _ rfl hk rfl rfl rfl fun a hk => ?_
  show wpList _ _ _ [] _ _
  refine wpList_nil ?_
  refine hK3 _ _ ?_
  obtain ⟨o7, h8, HL9⟩ := bind_some H
  clear H
  obtain ⟨R10, hR10⟩ : ∃ R : Act → World → Prop, R = fun a w => o7 = .out () ∧ Kn [] 19 a ∧ Sat [] w0 w [(1, k0_)] [] := ⟨_, rfl⟩
  refine wp_cutq R10 ?_ ?_
  · refine wp_block ?_
    obtain ⟨fu12, h8⟩ := loopO_some h8
    obtain ⟨I11, hI11⟩ : ∃ I : Nat → Act → World → Prop, I = fun fu a w => ∃ (u6 : Int), loopN (fun s => slices_Index_int_int.s0 l0 x1 s) fu u6 = some o7 ∧ Kn [(0, (.slice A0_ l0.length p0_)), (1, (.int .i64 x1)), (7, (.int .i64 (l0.length : Int))), (8, (.int .i64 u6))] 19 a ∧ Sat [] w0 w [(1, k0_)] [] := ⟨_, rfl⟩
    refine wp_loop_ghost I11 fu12 ?_ ?_
    · rw [hI11]
      exact ⟨0, h8, (hk.c 0 rfl (hk.c 1 rfl (hk.c 7 rfl (hk.c 8 rfl hk.k)))), (hs.pick [] rfl)⟩
    · clear h8 hk hs
      intro fu12 a w hI0
      rw [hI11] at hI0
      obtain ⟨u6, hi, hk, hs⟩ := hI0
      obtain ⟨x13, H, h14⟩ := loop_round hi
      try dsimp only at H
      unfold slices_Index_int_int.s0 at H
      apply wp_seq_k; intro K15 hK15
      apply wp_region_lit
      refine sv (.bool (decide (u6 < (l0.length : Int)))) hk rfl rfl rfl fun a hk => ?_
      show wpList _ _ _ [] _ _
      refine wpList_nil ?_
      refine hK15 _ _ ?_
      apply wp_seq_k; intro K16 hK16
      rcases cond_some H with ⟨c17, H⟩ | ⟨c17, H⟩
      · have hk := hk.lit 9 c17 rfl
        refine cnd_true hk rfl rfl ?_
        refine wp_skip ?_
        refine hK16 _ _ ?_
        apply wp_seq_k; intro K18 hK18
        refine wp_block ?_
        apply wp_seq_k; intro K19 hK19
        apply wp_region_lit
        refine sm _ rfl hk rfl rfl rfl fun a hk => ?_
        refine sa _ rfl hk rfl rfl rfl fun a hk => ?_
        show wpList _ _ _ [] _ _
        refine wpList_nil ?_
        refine hK19 _ _ ?_
        apply wp_seq_k; intro K20 hK20
        apply wp_region_lit
        refine sm _ rfl hk rfl rfl rfl fun a hk => ?_
        refine sm _ rfl hk rfl rfl rfl fun a hk => ?_
        refine sm _ rfl hk rfl rfl rfl fun a hk => ?_
        rcases ite_some H with ⟨c21, H⟩ | ⟨_, H⟩
        rotate_left
        · cases H
        obtain ⟨b22, q23, hAc21⟩ := (v0_).some_ u6 c21.1 c21.2
        refine si rfl hk rfl rfl rfl rfl un22 sz3 c21.1 c21.2 hAc21 fun a hk => ?_
        obtain ⟨_, rfl, e24⟩ := (v0_).at_ 0 u6 c21.1 c21.2
        refine sl (v := (.int .i64 (l0.getD u6.toNat 0))) rfl hk rfl rfl rfl ag3 ((e24 0 _ rfl).cell (hs.hasD (k := 1) rfl)) fun a hk => ?_
        refine sv (.bool (x1 == (l0.getD u6.toNat 0))) hk rfl rfl rfl fun a hk => ?_
        show wpList _ _ _ [] _ _
        refine wpList_nil ?_
        refine hK20 _ _ ?_
        rcases cond_some H with ⟨c25, H⟩ | ⟨c25, H⟩
        · have hk := hk.lit 16 c25 rfl
          refine cnd_true hk rfl rfl ?_
          apply wp_seq_k; intro K26 hK26
          apply wp_region_lit
          refine sm _ rfl hk rfl rfl rfl fun a hk => ?_
          refine sa _ rfl hk rfl rfl rfl fun a hk => ?_
          show wpList _ _ _ [] _ _
          refine wpList_nil ?_
          refine hK26 _ _ ?_
          refine wp_ret ?_
          obtain rfl := Option.some.inj H
          have ho7 := h14
          try dsimp only at ho7
          subst ho7
          have H := HL9
          try dsimp only at H
          obtain rfl := Option.some.inj H
          exact fin hk _ [(.int .i64 u6)] rfl ⟨rfl, trivial⟩ ⟨rfl, (hs.pick [] rfl).dnil⟩
        · have hk := hk.lit 16 c25 rfl
          refine cnd_false hk rfl rfl ?_
          refine wp_skip ?_
          refine hK18 _ _ ?_
          apply wp_region_lit
          refine sv (.int .i64 (w64 (u6 + 1))) hk rfl rfl rfl fun a hk => ?_
          refine sm _ rfl hk rfl rfl rfl fun a hk => ?_
          show wpList _ _ _ [] _ _
          refine wpList_nil ?_
          obtain rfl := Option.some.inj H
          obtain ⟨m27, hmm27, h14⟩ := h14
          show ∃ n', n' < _ ∧ I11 n' _ _
          refine ⟨m27, hmm27, ?_⟩
          rw [hI11]
          exact ⟨(w64 (u6 + 1)), h14, (hk.c 0 rfl (hk.c 1 rfl (hk.c 7 rfl (hk.c 8 rfl hk.k)))), (hs.pick [] rfl)⟩
      · have hk := hk.lit 9 c17 rfl
        refine cnd_false hk rfl rfl ?_
        refine wp_exit ?_
        obtain rfl := Option.some.inj H
        show R10 _ _
        rw [hR10]
        exact ⟨h14.symm, hk.k, (hs.pick [] rfl)⟩
  · intro a w hR0
    rw [hR10] at hR0
    obtain ⟨rfl, hk, hs⟩ := hR0
    have H := HL9
    try dsimp only at H
    refine hK2 _ _ ?_
    apply wp_seq_k; intro K28 hK28
    apply wp_region_lit
    refine sa _ rfl hk rfl rfl rfl fun a hk => ?_
    show wpList _ _ _ [] _ _
    refine wpList_nil ?_
    refine hK28 _ _ ?_
    refine wp_ret ?_
    obtain rfl := Option.some.inj H
    exact fin hk _ [(.int .i64 (-1))] rfl ⟨rfl, trivial⟩ ⟨rfl, (hs.pick [] rfl).dnil⟩

noncomputable def slices_Contains_int_int.f (l0 : List Int) (x1 : Int) : Option (Bool) :=
  ((slices_Index_int_int.f l0 x1).bind fun y3 => (some (decide (y3 ≥ 0))))
set_option maxRecDepth 100000 in
set_option maxHeartbeats 0 in
theorem slices_Contains_int_int_t (w0 : World) (A0_ : Option Addr) (p0_ : Nat) (l0 : List Int) (k0_ : Chunk) (v0_ : View (Lay.int .i64) A0_ p0_ l0 k0_) (w0_ : Has w0 k0_) (x1 : Int) (r : Bool) (H : slices_Contains_int_int.f l0 x1 = some r) :
    Calls Try.prog 144 #[.slice A0_ l0.length p0_, .int .i64 x1] w0 (Ret (fun v w => v = .bool r ∧ Sat [] w0 w [] [])) := by
  have hs : Sat [] w0 w0 [(1, k0_)] [] := Sat.init w0 [(1, k0_)] [] (by simp only [List.mem_cons, List.not_mem_nil, or_false]; rintro x (rfl) <;> assumption) (by simp) List.nodup_nil (by simp [blks])
  unfold slices_Contains_int_int.f at H
  refine enter Try.func144 rfl Try.ntmps144 rfl fun a hk => ?_
  apply wp_seq_k; intro K1 hK1
  apply wp_region_lit
  refine sa _ rfl hk rfl rfl rfl fun a hk => ?_
  show wpList _ _ _ [] _ _
  refine wpList_nil ?_
  refine hK1 _ _ ?_
  apply wp_seq_k; intro K2 hK2
  apply wp_region_lit
  refine sm _ rfl hk rfl rfl rfl fun a hk => ?_
  refine sm _ rfl hk rfl rfl rfl fun a hk => ?_
  obtain ⟨y3, h4, H⟩ := bind_some H
  refine sc rfl en182 hk rfl rfl rfl (slices_Index_int_int_t _ A0_ p0_ l0 _ v0_ (hs.hasD (k := 1) rfl) x1 _ h4) ?_
  rintro _ w ⟨rfl, hG⟩ a hk
  have hs := hs.call0 hG
  refine sv (.bool (decide (y3 ≥ 0))) hk rfl rfl rfl fun a hk => ?_
  refine sa _ rfl hk rfl rfl rfl fun a hk => ?_
  show wpList _ _ _ [] _ _
  refine wpList_nil ?_
  refine hK2 _ _ ?_
  refine wp_ret ?_
  obtain rfl := Option.some.inj H
  exact fin hk _ [(.bool (decide (y3 ≥ 0)))] rfl ⟨rfl, trivial⟩ ⟨rfl, (hs.pick [] rfl).dnil⟩

noncomputable def impl_isOnPath.f (x0 : Int) (x1 : Int) : Option (Bool) :=
  ((impl_pathOf.f x1).bind fun y3 => ((slices_Contains_int_int.f y3 x0).bind fun y9 => (some y9)))
set_option maxRecDepth 100000 in
set_option maxHeartbeats 0 in
theorem impl_isOnPath_t (w0 : World) (x0 : Int) (x1 : Int) (r : Bool) (H : impl_isOnPath.f x0 x1 = some r) :
    Calls Try.prog 83 #[.int .i64 x0, .int .i64 x1] w0 (Ret (fun v w => v = .bool r ∧ Sat [] w0 w [] [])) := by
  have hs : Sat [] w0 w0 [] [] := Sat.init w0 [] [] (by simp) (by simp) List.nodup_nil (by simp [blks])
  unfold impl_isOnPath.f at H
  refine enter Try.func83 rfl Try.ntmps83 rfl fun a hk => ?_
  apply wp_seq_k; intro K1 hK1
  apply wp_region_lit
  refine sa _ rfl hk rfl rfl rfl fun a hk => ?_
  show wpList _ _ _ [] _ _
  refine wpList_nil ?_
  refine hK1 _ _ ?_
  apply wp_seq_k; intro K2 hK2
  apply wp_region_lit
  refine sm _ rfl hk rfl rfl rfl fun a hk => ?_
  obtain ⟨y3, h4, H⟩ := bind_some H
  refine sc rfl en130 hk rfl rfl rfl (impl_pathOf_t _ x1 _ h4) ?_
  rintro _ w ⟨A5, p6, k7, rfl, o8, hG⟩ a hk
  have hs := hs.call0k hG [1] rfl
  refine sm _ rfl hk rfl rfl rfl fun a hk => ?_
  obtain ⟨y9, h10, H⟩ := bind_some H
  refine sc rfl en144 hk rfl rfl rfl (slices_Contains_int_int_t _ A5 p6 y3 _ o8.view (hs.hasG (k := 1) rfl) x0 _ h10) ?_
  rintro _ w ⟨rfl, hG⟩ a hk
  have hs := hs.call0 hG
  refine sa _ rfl hk rfl rfl rfl fun a hk => ?_
  show wpList _ _ _ [] _ _
  refine wpList_nil ?_
  refine hK2 _ _ ?_
  refine wp_ret ?_
  obtain rfl := Option.some.inj H
  exact fin hk _ [(.bool y9)] rfl ⟨rfl, trivial⟩ ⟨rfl, (hs.pick [] rfl).dnil⟩

noncomputable def impl_OramOK_c1.f (x0 : S_Block) (x1 : Int) : Option (Bool) :=
  ((((impl_isLeaf.f x0.Leaf).bind fun y10 => (bif y10 then ((impl_isOnPath.f x1 x0.Leaf).bind fun y13 => (some y13)) else (some false))) : Option (Bool)).bind fun u5 => (some u5))
set_option maxRecDepth 100000 in
set_option maxHeartbeats 0 in
theorem impl_OramOK_c1_t (w0 : World) (x0 : S_Block) (b1_ : Nat) (x1 : Int) (h1_ : Has w0 [(b1_, .cells #[.int .i64 x1] 3 (0, 0))]) (r : Bool) (H : impl_OramOK_c1.f x0 x1 = some r) :
    Calls Try.prog 82 #[.agg #[.int .i64 x0.Id, .int .i64 x0.Leaf, .int .i64 x0.Value], .pointer (some ⟨b1_, 0, none⟩)] w0 (Ret (fun v w => v = .bool r ∧ Sat [] w0 w [] [])) := by
  have hs : Sat [] w0 w0 [(1, [(b1_, .cells #[.int .i64 x1] 3 (0, 0))])] [] := Sat.init w0 [(1, [(b1_, .cells #[.int .i64 x1] 3 (0, 0))])] [] (by simp only [List.mem_cons, List.not_mem_nil, or_false]; rintro x (rfl) <;> assumption) (by simp) List.nodup_nil (by simp [blks])
  unfold impl_OramOK_c1.f at H
  refine enter Try.func82 rfl Try.ntmps82 rfl fun a hk => ?_
  apply wp_seq_k; intro K1 hK1
  apply wp_region_lit
  refine sbx 2 hs rfl hk rfl rfl rfl rfl fun b2 w a hk hs => ?_
  refine sa _ rfl hk rfl rfl rfl fun a hk => ?_
  show wpList _ _ _ [] _ _
  refine wpList_nil ?_
  refine hK1 _ _ ?_
  apply wp_seq_k; intro K3 hK3
  obtain ⟨o6, h7, HL8⟩ := bind_some H
  clear H
  obtain ⟨R9, hR9⟩ : ∃ R : Act → World → Prop, R = fun a w => ∃ (u5 : Bool), u5 = o6 ∧ Kn [(3, (.bool u5))] 13 a ∧ Sat [] w0 w [(1, [(b1_, .cells #[.int .i64 x1] 3 (0, 0))])] [] := ⟨_, rfl⟩
  refine wp_cutq R9 ?_ ?_
  · have H := h7
    apply wp_region_lit
    refine sf ⟨b2, 1, none⟩ rfl hk rfl rfl rfl fd102_1 rfl fun a hk => ?_
    refine sl rfl hk rfl rfl rfl ag3 (box_cell hs (k := 2) rfl rfl) fun a hk => ?_
    obtain ⟨y10, h11, H⟩ := bind_some H
    refine sc rfl en64 hk rfl rfl rfl (impl_isLeaf_t _ x0.Leaf _ h11) ?_
    rintro _ w ⟨rfl, hG⟩ a hk
    have hs := hs.call0 hG
    refine sm _ rfl hk rfl rfl rfl fun a hk => ?_
    rcases cond_some H with ⟨c12, H⟩ | ⟨c12, H⟩
    · have hk := hk.lit 7 c12 rfl
      refine sl rfl hk rfl rfl rfl ag3 (box_cellD hs (k := 1) rfl rfl) fun a hk => ?_
      refine sf ⟨b2, 1, none⟩ rfl hk rfl rfl rfl fd102_1 rfl fun a hk => ?_
      refine sl rfl hk rfl rfl rfl ag3 (box_cell hs (k := 2) rfl rfl) fun a hk => ?_
      obtain ⟨y13, h14, H⟩ := bind_some H
      refine sc rfl en83 hk rfl rfl rfl (impl_isOnPath_t _ x1 x0.Leaf _ h14) ?_
      rintro _ w ⟨rfl, hG⟩ a hk
      have hs := hs.call0 hG
      refine sv (.bool y13) hk rfl rfl rfl fun a hk => ?_
      refine sa _ rfl hk rfl rfl rfl fun a hk => ?_
      show wpList _ _ _ [] _ _
      refine wpList_nil ?_
      obtain rfl := Option.some.inj H
      show R9 _ _
      rw [hR9]
      exact ⟨y13, rfl, (hk.c 3 rfl hk.k), (hs.pick [] rfl)⟩
    · have hk := hk.lit 7 c12 rfl
      refine sk hk rfl rfl rfl fun a hk => ?_
      refine sk hk rfl rfl rfl fun a hk => ?_
      refine sk hk rfl rfl rfl fun a hk => ?_
      refine sk hk rfl rfl rfl fun a hk => ?_
      refine sv (.bool false) hk rfl rfl rfl fun a hk => ?_
      refine sa _ rfl hk rfl rfl rfl fun a hk => ?_
      show wpList _ _ _ [] _ _
      refine wpList_nil ?_
      obtain rfl := Option.some.inj H
      show R9 _ _
      rw [hR9]
      exact ⟨false, rfl, (hk.c 3 rfl hk.k), (hs.pick [] rfl)⟩
  · intro a w hR0
    rw [hR9] at hR0
    obtain ⟨u5, rfl, hk, hs⟩ := hR0
    have H := HL8
    try dsimp only at H
    refine hK3 _ _ ?_
    refine wp_ret ?_
    obtain rfl := Option.some.inj H
    exact fin hk _ [(.bool u5)] rfl ⟨rfl, trivial⟩ ⟨rfl, (hs.pick [] rfl).dnil⟩

noncomputable def slices_Clone_impl_Block_impl_Block.f (l0 : List S_Block) : Option (List S_Block) :=
  (if l0.length ≤ 1073741824 then (some l0) else none)
set_option maxRecDepth 100000 in
set_option maxHeartbeats 0 in
theorem slices_Clone_impl_Block_impl_Block_t (w0 : World) (A0_ : Option Addr) (p0_ : Nat) (l0 : List S_Block) (k0_ : Chunk) (v0_ : View L_Block A0_ p0_ l0 k0_) (w0_ : Has w0 k0_) (r : List S_Block) (H : slices_Clone_impl_Block_impl_Block.f l0 = some r) :
    Calls Try.prog 145 #[.slice A0_ l0.length p0_] w0 (Ret (fun v w => ∃ (A0 : Option Addr) (p0 : Nat) (k0 : Chunk), v = .slice A0 r.length p0 ∧ Own L_Block 102 A0 p0 r k0 ∧ Sat [] w0 w [] [(0, k0)])) := by
  have hs : Sat [] w0 w0 [(1, k0_)] [] := Sat.init w0 [(1, k0_)] [] (by simp only [List.mem_cons, List.not_mem_nil, or_false]; rintro x (rfl) <;> assumption) (by simp) List.nodup_nil (by simp [blks])
  unfold slices_Clone_impl_Block_impl_Block.f at H
  rcases ite_some H with ⟨c, H⟩ | ⟨_, H⟩
  rotate_left
  · cases H
  obtain rfl := Option.some.inj H
  refine enter Try.func145 rfl Try.ntmps145 rfl fun a hk => ?_
  apply wp_seq_k; intro K1 hK1
  apply wp_region_lit
  refine sa _ rfl hk rfl rfl rfl fun a hk => ?_
  refine wpList_nil ?_
  refine hK1 _ _ ?_
  apply wp_seq_k; intro K3 hK3
  apply wp_seq_k; intro K2 hK2
  apply wp_region_lit
  refine sm _ rfl hk rfl rfl rfl fun a hk => ?_
  refine snl rfl hk rfl rfl rfl un28 fun a hk => ?_
  refine wpList_nil ?_
  refine hK2 _ _ ?_
  cases A0_ with
  | none =>
    obtain rfl := v0_.none_nil
    refine cnd_true hk rfl rfl ?_
    apply wp_seq_k; intro K4 hK4
    apply wp_region_lit
    refine sa _ rfl hk rfl rfl rfl fun a hk => ?_
    refine wpList_nil ?_
    refine hK4 _ _ ?_
    refine wp_ret ?_
    have hs := hs.addNil 9
    exact fin hk _ [(.slice none 0 0)] rfl ⟨rfl, trivial⟩ ⟨none, 0, [], rfl, Own.nil _ _, (hs.pick [(0, 9)] rfl).dnil⟩
  | some A0_ =>
    refine cnd_false hk rfl rfl ?_
    refine wp_skip ?_
    refine hK3 _ _ ?_
    apply wp_seq_k; intro K5 hK5
    apply wp_region_lit
    refine sbs0 2 L_Block hs rfl hk rfl rfl un28 sz102 fun b k w a hk o hs => ?_
    refine sm _ rfl hk rfl rfl rfl fun a hk => ?_
    refine sap 2 (xs := ([] : List S_Block)) (ys := l0) (flat_flat : (L_Block).Flat) hs rfl o v0_ (hs.hasD (k := 1) rfl) rfl hk rfl rfl rfl rfl rfl rfl un28 mk102 rfl rfl rfl (by simpa using c) fun A p k w a hk o hs => ?_
    refine sa _ rfl hk rfl rfl rfl fun a hk => ?_
    refine wpList_nil ?_
    refine hK5 _ _ ?_
    refine wp_ret ?_
    exact fin hk _ [(.slice A ([] ++ l0).length p)] rfl ⟨rfl, trivial⟩ ⟨A, p, _, rfl, o, (hs.pick [(0, 2)] rfl).dnil⟩

set_option maxRecDepth 100000 in
set_option maxHeartbeats 1000000 in
theorem slices_Grow_impl_Block_impl_Block_n {M : List Nat} {w00 w : World} {Δ Γ : List (Nat × Chunk)} (k n : Nat) (hs : Sat M w00 w Δ Γ) (hn : n ≤ 1073741824) :
    Calls Try.prog 183 #[.slice none 0 0, .int .i64 n] w (Ret (fun v w' => ∃ A cap c, v = .slice A ([] : List S_Block).length cap ∧ Own L_Block 102 A cap [] c ∧ Sat M w00 w' Δ ((k, c) :: Γ))) := by
  refine enter Try.func183 rfl Try.ntmps183 rfl fun a hk => ?_
  apply wp_seq_k; intro K1 hK1
  apply wp_region_lit
  refine sa _ rfl hk rfl rfl rfl fun a hk => ?_
  show wpList _ _ _ [] _ _
  refine wpList_nil ?_
  refine hK1 _ _ ?_
  apply wp_seq_k; intro K2 hK2
  apply wp_seq_k; intro K3 hK3
  apply wp_region_lit
  refine sm _ rfl hk rfl rfl rfl fun a hk => ?_
  refine sv (.bool (decide ((n : Int) < 0))) hk rfl rfl rfl fun a hk => ?_
  show wpList _ _ _ [] _ _
  refine wpList_nil ?_
  refine hK3 _ _ ?_
  have hk := hk.lit 6 (decide_eq_false (by omega)) rfl
  refine cnd_false hk rfl rfl ?_
  refine wp_skip ?_
  refine hK2 _ _ ?_
  apply wp_seq_k; intro K6 hK6
  apply wp_seq_k; intro K4 hK4
  apply wp_region_lit
  refine sm _ rfl hk rfl rfl rfl fun a hk => ?_
  refine sm _ rfl hk rfl rfl rfl fun a hk => ?_
  refine scap rfl hk rfl rfl rfl un28 fun a hk => ?_
  refine sm _ rfl hk rfl rfl rfl fun a hk => ?_
  refine sle rfl hk rfl rfl rfl un28 fun a hk => ?_
  refine sv (.int .i64 (w64 (((0 : Nat) : Int) - ((0 : Nat) : Int)))) hk rfl rfl rfl fun a hk => ?_
  rw [show w64 (((0 : Nat) : Int) - ((0 : Nat) : Int)) = 0 from rfl] at hk
  refine sv (.int .i64 (w64 ((n : Int) - 0))) hk rfl rfl rfl fun a hk => ?_
  rw [w64id (x := (n : Int) - 0) (by omega) (by omega), Int.sub_zero] at hk
  refine sa _ rfl hk rfl rfl rfl fun a hk => ?_
  show wpList _ _ _ [] _ _
  refine wpList_nil ?_
  refine hK4 _ _ ?_
  apply wp_seq_k; intro K5 hK5
  apply wp_region_lit
  refine sm _ rfl hk rfl rfl rfl fun a hk => ?_
  refine sv (.bool (decide ((0 : Int) < (n : Int)))) hk rfl rfl rfl fun a hk => ?_
  show wpList _ _ _ [] _ _
  refine wpList_nil ?_
  refine hK5 _ _ ?_
  by_cases h0 : 0 < n
  · have hk := hk.lit 16 (decide_eq_true (by omega)) rfl
    refine cnd_true hk rfl rfl ?_
    apply wp_region_lit
    refine sm _ rfl hk rfl rfl rfl fun a hk => ?_
    refine sm _ rfl hk rfl rfl rfl fun a hk => ?_
    refine scap rfl hk rfl rfl rfl un28 fun a hk => ?_
    refine sll_h rfl hk rfl rfl rfl rfl un28 sz102 (by omega) (by omega) fun a hk => ?_
    have hk := hk.re (v' := .slice none 0 0) 20 rfl (by simp)
    refine sm _ rfl hk rfl rfl rfl fun a hk => ?_
    have hs := hs.addNil k
    refine sapn k (xs := ([] : List S_Block)) (z := z_Block) hs (kget_cons _ _ _) (Own.nil _ 102) (by first | exact ⟨rfl, rfl⟩ | exact lz102) rfl hk rfl rfl rfl rfl rfl un28 (by kernel_rfl : Try.prog.underlying 3 = some (.int .i64)) mk102 rfl rfl rfl (by simp; omega) fun A1 p1 c1 w a hk o hs => ?_
    simp only [kdel, Nat.beq_refl, if_true] at hs
    have hne : ([] ++ List.replicate (n : Int).toNat z_Block : List S_Block) ≠ [] := by
      intro e
      have := congrArg List.length e
      simp at this; omega
    obtain ⟨b, rfl, cs, ess, cd, rfl, -, -, hcs, -, htop⟩ := o.opened hne
    have hs := hs.less (k := k) [(b, .cells cs 102 (0, 0))] cd (kget_cons _ _ _) (by simp)
    simp only [kdel, Nat.beq_refl, if_true] at hs
    refine sm _ rfl hk rfl rfl rfl fun a hk => ?_
    refine sle rfl hk rfl rfl rfl un28 fun a hk => ?_
    refine sll_h rfl hk rfl rfl rfl rfl un28 sz102 (by omega) (by omega) fun a hk => ?_
    have hk := hk.re (v' := .slice (some ⟨b, 0, none⟩) 0 p1) 25 rfl sl_head
    refine sa _ rfl hk rfl rfl rfl fun a hk => ?_
    show wpList _ _ _ [] _ _
    refine wpList_nil ?_
    refine hK6 _ _ ?_
    apply wp_seq_k; intro K7 hK7
    apply wp_region_lit
    refine sm _ rfl hk rfl rfl rfl fun a hk => ?_
    refine sa _ rfl hk rfl rfl rfl fun a hk => ?_
    show wpList _ _ _ [] _ _
    refine wpList_nil ?_
    refine hK7 _ _ ?_
    refine wp_ret ?_
    exact fin hk _ [(.slice (some ⟨b, 0, none⟩) 0 p1)] rfl ⟨rfl, trivial⟩ ⟨_, p1, _, rfl, .inr ⟨b, rfl, cs, [], [], rfl, .nil, by simp, hcs, Nat.zero_le _, htop⟩, hs⟩
  · have hk := hk.lit 16 (decide_eq_false (by omega)) rfl
    refine cnd_false hk rfl rfl ?_
    refine wp_skip ?_
    refine hK6 _ _ ?_
    apply wp_seq_k; intro K7 hK7
    apply wp_region_lit
    refine sm _ rfl hk rfl rfl rfl fun a hk => ?_
    refine sa _ rfl hk rfl rfl rfl fun a hk => ?_
    show wpList _ _ _ [] _ _
    refine wpList_nil ?_
    refine hK7 _ _ ?_
    refine wp_ret ?_
    exact fin hk _ [(.slice none 0 0)] rfl ⟨rfl, trivial⟩ ⟨none, 0, [], rfl, Own.nil _ _, hs.addNil k⟩
theorem slices_Grow_impl_Block_impl_Block_t {M : List Nat} {w00 w : World} {Δ Γ : List (Nat × Chunk)} (k : Nat) {n : Int} (hs : Sat M w00 w Δ Γ) (hn : 0 ≤ n ∧ n ≤ 1073741824) :
    Calls Try.prog 183 #[.slice none 0 0, .int .i64 n] w (Ret (fun v w' => ∃ A cap c, v = .slice A ([] : List S_Block).length cap ∧ Own L_Block 102 A cap [] c ∧ Sat M w00 w' Δ ((k, c) :: Γ))) := by
  obtain ⟨m, rfl⟩ := Int.eq_ofNat_of_zero_le hn.1
  exact slices_Grow_impl_Block_impl_Block_n k m hs (by omega)

noncomputable def slices_Concat_impl_Block_impl_Block.s0 (l0 : List (List S_Block)) (u7 : Int) (u8 : Int) : Option ((Int × Int) ⊕ Ex (Int) ((List S_Block))) :=
  (bif (decide (u8 < (l0.length : Int))) then (if 0 ≤ u8 ∧ u8 < (l0.length : Int) then (bif (decide ((w64 (u7 + ((l0.getD u8.toNat []).length : Int))) < 0)) then none else (some (.inl ((w64 (u7 + ((l0.getD u8.toNat []).length : Int))), (w64 (u8 + 1)))))) else none) else (some (.inr (.out u7))))
noncomputable def slices_Concat_impl_Block_impl_Block.s1 (l0 : List (List S_Block)) (u49 : List S_Block) (u48 : Int) : Option (((List S_Block) × Int) ⊕ Ex ((List S_Block)) ((List S_Block))) :=
  (bif (decide (u48 < (l0.length : Int))) then (if 0 ≤ u48 ∧ u48 < (l0.length : Int) then (if u49.length + (l0.getD u48.toNat []).length ≤ 1073741824 then (some (.inl ((u49 ++ (l0.getD u48.toNat [])), (w64 (u48 + 1))))) else none) else none) else (some (.inr (.out u49))))
noncomputable def slices_Concat_impl_Block_impl_Block.f (l0 : List (List S_Block)) : Option ((List S_Block)) :=
  ((loopO (fun s => slices_Concat_impl_Block_impl_Block.s0 l0 s.1 s.2) (0, 0)).bind fun o => match o with | .out u9 => (if 0 ≤ u9 ∧ u9 ≤ 1073741824 then ((loopO (fun s => slices_Concat_impl_Block_impl_Block.s1 l0 s.1 s.2) (([] : List S_Block), 0)).bind fun o => match o with | .out u54 => (some u54) | .ret r => (some r)) else none) | .ret r => (some r))
set_option maxRecDepth 100000 in
set_option maxHeartbeats 0 in
theorem slices_Concat_impl_Block_impl_Block_t (w0 : World) (A0_ : Option Addr) (p0_ : Nat) (l0 : List (List S_Block)) (k0_ : Chunk) (v0_ : View (Lay.sl L_Block 102) A0_ p0_ l0 k0_) (w0_ : Has w0 k0_) (r : (List S_Block)) (H : slices_Concat_impl_Block_impl_Block.f l0 = some r) :
    Calls Try.prog 146 #[.slice A0_ l0.length p0_] w0 (Ret (fun v w => ∃ (A0 : Option Addr) (p0 : Nat) (k0 : Chunk), v = .slice A0 r.length p0 ∧ Own L_Block 102 A0 p0 r k0 ∧ Sat [] w0 w [] [(0, k0)])) := by
  have hs : Sat [] w0 w0 [(1, k0_)] [] := Sat.init w0 [(1, k0_)] [] (by simp only [List.mem_cons, List.not_mem_nil, or_false]; rintro x (rfl) <;> assumption) (by simp) List.nodup_nil (by simp [blks])
  unfold slices_Concat_impl_Block_impl_Block.f at H
  refine enter Try.func146 rfl Try.ntmps146 rfl fun a hk => ?_
  apply wp_seq_k; intro K1 hK1
  apply wp_region_lit
  refine sa _ rfl hk rfl rfl rfl fun a hk => ?_
  show wpList _ _ _ [] _ _
  refine wpList_nil ?_
  refine hK1 _ _ ?_
  apply wp_seq_k; intro K2 hK2
  apply wp_region_lit
  refine sa _ rfl hk rfl rfl rfl fun a hk => ?_
  show wpList _ _ _ [] _ _
  refine wpList_nil ?_
  refine hK2 _ _ ?_
  apply wp_seq_k; intro K3 hK3
  apply wp_seq_k; intro K4 hK4
  apply wp_region_lit
  refine sm _ rfl hk rfl rfl rfl fun a hk => ?_
  refine sle rfl hk rfl rfl rfl un29 fun a hk => ?_
  refine sm _ rfl hk rfl rfl rfl fun a hk => ?_
  show wpList _ _ _ [] _ _
  refine wpList_nil ?_
  refine hK4 _ _ ?_
  obtain ⟨o10, h11, HL12⟩ := bind_some H
  clear H
  obtain ⟨R13, hR13⟩ : ∃ R : Act → World → Prop, R = fun a w => ∃ (u9 : Int), o10 = .out u9 ∧ Kn [(0, (.slice A0_ l0.length p0_)), (3, (.int .i64 u9))] 36 a ∧ Sat [] w0 w [(1, k0_)] [] := ⟨_, rfl⟩
  refine wp_cutq R13 ?_ ?_
  · refine wp_block ?_
    obtain ⟨fu15, h11⟩ := loopO_some h11
    obtain ⟨I14, hI14⟩ : ∃ I : Nat → Act → World → Prop, I = fun fu a w => ∃ (u7 : Int) (u8 : Int), loopN (fun s => slices_Concat_impl_Block_impl_Block.s0 l0 s.1 s.2) fu (u7, u8) = some o10 ∧ Kn [(0, (.slice A0_ l0.length p0_)), (3, (.int .i64 u7)), (9, (.slice A0_ l0.length p0_)), (10, (.int .i64 (l0.length : Int))), (11, (.int .i64 u8))] 36 a ∧ Sat [] w0 w [(1, k0_)] [] := ⟨_, rfl⟩
    refine wp_loop_ghost I14 fu15 ?_ ?_
    · rw [hI14]
      exact ⟨0, 0, h11, (hk.c 0 rfl (hk.c 3 rfl (hk.c 9 rfl (hk.c 10 rfl (hk.c 11 rfl hk.k))))), (hs.pick [] rfl)⟩
    · clear h11 hk hs
      intro fu15 a w hI0
      rw [hI14] at hI0
      obtain ⟨u7, u8, hi, hk, hs⟩ := hI0
      obtain ⟨x16, H, h17⟩ := loop_round hi
      try dsimp only at H
      unfold slices_Concat_impl_Block_impl_Block.s0 at H
      apply wp_seq_k; intro K18 hK18
      apply wp_region_lit
      refine sv (.bool (decide (u8 < (l0.length : Int)))) hk rfl rfl rfl fun a hk => ?_
      show wpList _ _ _ [] _ _
      refine wpList_nil ?_
      refine hK18 _ _ ?_
      apply wp_seq_k; intro K19 hK19
      rcases cond_some H with ⟨c20, H⟩ | ⟨c20, H⟩
      · have hk := hk.lit 12 c20 rfl
        refine cnd_true hk rfl rfl ?_
        refine wp_skip ?_
        refine hK19 _ _ ?_
        apply wp_seq_k; intro K21 hK21
        refine wp_block ?_
        apply wp_seq_k; intro K22 hK22
        apply wp_region_lit
        rcases ite_some H with ⟨c23, H⟩ | ⟨_, H⟩
        rotate_left
        · cases H
        obtain ⟨b24, q25, hAc23⟩ := (v0_).some_ u8 c23.1 c23.2
        refine si rfl hk rfl rfl rfl rfl un29 sz28 c23.1 c23.2 hAc23 fun a hk => ?_
        obtain ⟨_, ⟨_, rfl, A27, p28, rfl, v29⟩, e26⟩ := (v0_).at_ [] u8 c23.1 c23.2
        refine sl (v := (.slice A27 (l0.getD u8.toNat []).length p28)) rfl hk rfl rfl rfl ag28 ((e26 0 _ rfl).cell (hs.hasD (k := 1) rfl)) fun a hk => ?_
        refine sa _ rfl hk rfl rfl rfl fun a hk => ?_
        show wpList _ _ _ [] _ _
        refine wpList_nil ?_
        refine hK22 _ _ ?_
        apply wp_seq_k; intro K30 hK30
        apply wp_region_lit
        refine sm _ rfl hk rfl rfl rfl fun a hk => ?_
        refine sm _ rfl hk rfl rfl rfl fun a hk => ?_
        refine sle rfl hk rfl rfl rfl un28 fun a hk => ?_
        refine sv (.int .i64 (w64 (u7 + ((l0.getD u8.toNat []).length : Int)))) hk rfl rfl rfl fun a hk => ?_
        refine sa _ rfl hk rfl rfl rfl fun a hk => ?_
        show wpList _ _ _ [] _ _
        refine wpList_nil ?_
        refine hK30 _ _ ?_
        apply wp_seq_k; intro K31 hK31
        apply wp_region_lit
        refine sm _ rfl hk rfl rfl rfl fun a hk => ?_
        refine sv (.bool (decide ((w64 (u7 + ((l0.getD u8.toNat []).length : Int))) < 0))) hk rfl rfl rfl fun a hk => ?_
        show wpList _ _ _ [] _ _
        refine wpList_nil ?_
        refine hK31 _ _ ?_
        rcases cond_some H with ⟨c32, H⟩ | ⟨c32, H⟩
        · have hk := hk.lit 20 c32 rfl
          refine cnd_true hk rfl rfl ?_
          apply wp_region_lit
          cases H
        · have hk := hk.lit 20 c32 rfl
          refine cnd_false hk rfl rfl ?_
          refine wp_skip ?_
          refine hK21 _ _ ?_
          apply wp_region_lit
          refine sv (.int .i64 (w64 (u8 + 1))) hk rfl rfl rfl fun a hk => ?_
          refine sm _ rfl hk rfl rfl rfl fun a hk => ?_
          show wpList _ _ _ [] _ _
          refine wpList_nil ?_
          obtain rfl := Option.some.inj H
          obtain ⟨m33, hmm33, h17⟩ := h17
          show ∃ n', n' < _ ∧ I14 n' _ _
          refine ⟨m33, hmm33, ?_⟩
          rw [hI14]
          exact ⟨(w64 (u7 + ((l0.getD u8.toNat []).length : Int))), (w64 (u8 + 1)), h17, (hk.c 0 rfl (hk.c 3 rfl (hk.c 9 rfl (hk.c 10 rfl (hk.c 11 rfl hk.k))))), (hs.pick [] rfl)⟩
      · have hk := hk.lit 12 c20 rfl
        refine cnd_false hk rfl rfl ?_
        refine wp_exit ?_
        obtain rfl := Option.some.inj H
        show R13 _ _
        rw [hR13]
        exact ⟨u7, h17.symm, (hk.c 0 rfl (hk.c 3 rfl hk.k)), (hs.pick [] rfl)⟩
  · intro a w hR0
    rw [hR13] at hR0
    obtain ⟨u9, rfl, hk, hs⟩ := hR0
    have H := HL12
    try dsimp only at H
    refine hK3 _ _ ?_
    apply wp_seq_k; intro K34 hK34
    apply wp_region_lit
    refine sm _ rfl hk rfl rfl rfl fun a hk => ?_
    rcases ite_some H with ⟨c35, H⟩ | ⟨_, H⟩
    rotate_left
    · cases H
    refine sc rfl en183 hk rfl rfl rfl (slices_Grow_impl_Block_impl_Block_t 3 hs c35) ?_
    rintro _ w ⟨A36, p37, k38, rfl, o39, hs⟩ a hk
    refine sa _ rfl hk rfl rfl rfl fun a hk => ?_
    show wpList _ _ _ [] _ _
    refine wpList_nil ?_
    refine hK34 _ _ ?_
    apply wp_seq_k; intro K40 hK40
    apply wp_seq_k; intro K41 hK41
    apply wp_region_lit
    refine sm _ rfl hk rfl rfl rfl fun a hk => ?_
    refine sle rfl hk rfl rfl rfl un29 fun a hk => ?_
    refine sm _ rfl hk rfl rfl rfl fun a hk => ?_
    show wpList _ _ _ [] _ _
    refine wpList_nil ?_
    refine hK41 _ _ ?_
    obtain ⟨o59, h60, HL61⟩ := bind_some H
    clear H
    obtain ⟨R62, hR62⟩ : ∃ R : Act → World → Prop, R = fun a w => ∃ (u54 : List S_Block) (A57 : Option Addr) (p58 : Nat) (k55 : Chunk), o59 = .out u54 ∧ Kn [(6, (.slice A57 u54.length p58))] 36 a ∧ Sat [] w0 w [(1, k0_)] [(3, k55)] ∧ Own L_Block 102 A57 p58 u54 k55 := ⟨_, rfl⟩
    refine wp_cutq R62 ?_ ?_
    · refine wp_block ?_
      obtain ⟨fu64, h60⟩ := loopO_some h60
      obtain ⟨I63, hI63⟩ : ∃ I : Nat → Act → World → Prop, I = fun fu a w => ∃ (u49 : List S_Block) (u48 : Int) (A52 : Option Addr) (p53 : Nat) (k50 : Chunk), loopN (fun s => slices_Concat_impl_Block_impl_Block.s1 l0 s.1 s.2) fu (u49, u48) = some o59 ∧ Kn [(6, (.slice A52 u49.length p53)), (25, (.slice A0_ l0.length p0_)), (26, (.int .i64 (l0.length : Int))), (27, (.int .i64 u48))] 36 a ∧ Sat [] w0 w [(1, k0_)] [(3, k50)] ∧ Own L_Block 102 A52 p53 u49 k50 := ⟨_, rfl⟩
      refine wp_loop_ghost I63 fu64 ?_ ?_
      · rw [hI63]
        exact ⟨([] : List S_Block), 0, A36, p37, _, h60, (hk.c 6 rfl (hk.c 25 rfl (hk.c 26 rfl (hk.c 27 rfl hk.k)))), (hs.pick [(3, 3)] rfl), o39⟩
      · clear h60 hk hs
        intro fu64 a w hI0
        rw [hI63] at hI0
        obtain ⟨u49, u48, A52, p53, k50, hi, hk, hs, o51⟩ := hI0
        obtain ⟨x65, H, h66⟩ := loop_round hi
        try dsimp only at H
        unfold slices_Concat_impl_Block_impl_Block.s1 at H
        apply wp_seq_k; intro K67 hK67
        apply wp_region_lit
        refine sv (.bool (decide (u48 < (l0.length : Int)))) hk rfl rfl rfl fun a hk => ?_
        show wpList _ _ _ [] _ _
        refine wpList_nil ?_
        refine hK67 _ _ ?_
        apply wp_seq_k; intro K68 hK68
        rcases cond_some H with ⟨c69, H⟩ | ⟨c69, H⟩
        · have hk := hk.lit 28 c69 rfl
          refine cnd_true hk rfl rfl ?_
          refine wp_skip ?_
          refine hK68 _ _ ?_
          apply wp_seq_k; intro K70 hK70
          refine wp_block ?_
          apply wp_seq_k; intro K71 hK71
          apply wp_region_lit
          rcases ite_some H with ⟨c72, H⟩ | ⟨_, H⟩
          rotate_left
          · cases H
          obtain ⟨b73, q74, hAc72⟩ := (v0_).some_ u48 c72.1 c72.2
          refine si rfl hk rfl rfl rfl rfl un29 sz28 c72.1 c72.2 hAc72 fun a hk => ?_
          obtain ⟨_, ⟨_, rfl, A76, p77, rfl, v78⟩, e75⟩ := (v0_).at_ [] u48 c72.1 c72.2
          refine sl (v := (.slice A76 (l0.getD u48.toNat []).length p77)) rfl hk rfl rfl rfl ag28 ((e75 0 _ rfl).cell (hs.hasD (k := 1) rfl)) fun a hk => ?_
          refine sa _ rfl hk rfl rfl rfl fun a hk => ?_
          show wpList _ _ _ [] _ _
          refine wpList_nil ?_
          refine hK71 _ _ ?_
          apply wp_region_lit
          refine sm _ rfl hk rfl rfl rfl fun a hk => ?_
          refine sm _ rfl hk rfl rfl rfl fun a hk => ?_
          rcases ite_some H with ⟨c79, H⟩ | ⟨_, H⟩
          rotate_left
          · cases H
          refine sap 3 (xs := u49) (ys := (l0.getD u48.toNat [])) (flat_flat : (L_Block).Flat) hs rfl o51 v78 (hs.hasD (k := 1) rfl) rfl hk rfl rfl rfl rfl rfl rfl un28 mk102 rfl rfl rfl c79 fun A80 p81 k82 w a hk o83 hs => ?_
          refine sa _ rfl hk rfl rfl rfl fun a hk => ?_
          show wpList _ _ _ [] _ _
          refine wpList_nil ?_
          refine hK70 _ _ ?_
          apply wp_region_lit
          refine sv (.int .i64 (w64 (u48 + 1))) hk rfl rfl rfl fun a hk => ?_
          refine sm _ rfl hk rfl rfl rfl fun a hk => ?_
          show wpList _ _ _ [] _ _
          refine wpList_nil ?_
          obtain rfl := Option.some.inj H
          obtain ⟨m84, hmm84, h66⟩ := h66
          show ∃ n', n' < _ ∧ I63 n' _ _
          refine ⟨m84, hmm84, ?_⟩
          rw [hI63]
          exact ⟨(u49 ++ (l0.getD u48.toNat [])), (w64 (u48 + 1)), A80, p81, _, h66, (hk.c 6 rfl (hk.c 25 rfl (hk.c 26 rfl (hk.c 27 rfl hk.k)))), (hs.pick [(3, 3)] rfl), o83⟩
        · have hk := hk.lit 28 c69 rfl
          refine cnd_false hk rfl rfl ?_
          refine wp_exit ?_
          obtain rfl := Option.some.inj H
          show R62 _ _
          rw [hR62]
          exact ⟨u49, A52, p53, _, h66.symm, (hk.c 6 rfl hk.k), (hs.pick [(3, 3)] rfl), o51⟩
    · intro a w hR0
      rw [hR62] at hR0
      obtain ⟨u54, A57, p58, k55, rfl, hk, hs, o56⟩ := hR0
      have H := HL61
      try dsimp only at H
      refine hK40 _ _ ?_
      apply wp_seq_k; intro K85 hK85
      apply wp_region_lit
      refine sm _ rfl hk rfl rfl rfl fun a hk => ?_
      refine sa _ rfl hk rfl rfl rfl fun a hk => ?_
      show wpList _ _ _ [] _ _
      refine wpList_nil ?_
      refine hK85 _ _ ?_
      refine wp_ret ?_
      obtain rfl := Option.some.inj H
      exact fin hk _ [(.slice A57 u54.length p58)] rfl ⟨rfl, trivial⟩ ⟨A57, p58, _, rfl, o56, (hs.pick [(0, 3)] rfl).dnil⟩

noncomputable def impl_Oram_all.f (x0 : S_Oram) : Option ((List S_Block)) :=
  ((slices_Clone_impl_Block_impl_Block.f x0.Stash).bind fun y5 => ((slices_Concat_impl_Block_impl_Block.f x0.Buckets).bind fun y11 => (if y5.length + y11.length ≤ 1073741824 then (some (y5 ++ y11)) else none)))
set_option maxRecDepth 100000 in
set_option maxHeartbeats 0 in
theorem impl_Oram_all_t (w0 : World) (x0 : S_Oram) (A0_0 : Option Addr) (p0_0 : Nat) (k0_0 : Chunk) (v0_0 : View (Lay.int .i64) A0_0 p0_0 x0.Pos k0_0) (w0_0 : Has w0 k0_0) (A0_1 : Option Addr) (p0_1 : Nat) (k0_1 : Chunk) (v0_1 : View L_Block A0_1 p0_1 x0.Stash k0_1) (w0_1 : Has w0 k0_1) (A0_2 : Option Addr) (p0_2 : Nat) (k0_2 : Chunk) (v0_2 : View (Lay.sl L_Block 102) A0_2 p0_2 x0.Buckets k0_2) (w0_2 : Has w0 k0_2) (r : (List S_Block)) (H : impl_Oram_all.f x0 = some r) :
    Calls Try.prog 84 #[.agg #[.slice A0_0 x0.Pos.length p0_0, .slice A0_1 x0.Stash.length p0_1, .slice A0_2 x0.Buckets.length p0_2]] w0 (Ret (fun v w => ∃ (A0 : Option Addr) (p0 : Nat) (k0 : Chunk), v = .slice A0 r.length p0 ∧ Own L_Block 102 A0 p0 r k0 ∧ Sat [] w0 w [] [(0, k0)])) := by
  have hs : Sat [] w0 w0 [(1, k0_0), (2, k0_1), (3, k0_2)] [] := Sat.init w0 [(1, k0_0), (2, k0_1), (3, k0_2)] [] (by simp only [List.mem_cons, List.not_mem_nil, or_false]; rintro x (rfl | rfl | rfl) <;> assumption) (by simp) List.nodup_nil (by simp [blks])
  unfold impl_Oram_all.f at H
  refine enter Try.func84 rfl Try.ntmps84 rfl fun a hk => ?_
  apply wp_seq_k; intro K1 hK1
  apply wp_region_lit
  refine sbx 4 hs rfl hk rfl rfl rfl rfl fun b2 w a hk hs => ?_
  refine sa _ rfl hk rfl rfl rfl fun a hk => ?_
  show wpList _ _ _ [] _ _
  refine wpList_nil ?_
  refine hK1 _ _ ?_
  apply wp_seq_k; intro K3 hK3
  refine wp_region_tree (.q 0 (.q 1 (.q 3 (.q 4 (.alt 2 (.alt 5 (.alt 6 (.last 7) .stop) .stop) .stop))))) mo (by kernel_rfl) (hs.pick [(4, 4)] rfl) fun _ => ?_
  have hs := hs.drew
  refine tqst (.pointer (some ⟨b2, 1, none⟩)) hk rfl rfl rfl rfl (fun w hs => sf ⟨b2, 1, none⟩ rfl hk rfl rfl rfl fd31_1 rfl fun a hk => qe hk) fun a hk => ?_
  refine tqst (.slice A0_1 x0.Stash.length p0_1) hk rfl rfl rfl rfl (fun w hs => sl rfl hk rfl rfl rfl ag28 (box_cell hs (k := 4) rfl rfl) fun a hk => qe hk) fun a hk => ?_
  refine tqst (.pointer (some ⟨b2, 2, none⟩)) hk rfl rfl rfl rfl (fun w hs => sf ⟨b2, 2, none⟩ rfl hk rfl rfl rfl fd31_2 rfl fun a hk => qe hk) fun a hk => ?_
  refine tqst (.slice A0_2 x0.Buckets.length p0_2) hk rfl rfl rfl rfl (fun w hs => sl rfl hk rfl rfl rfl ag29 (box_cell hs (k := 4) rfl rfl) fun a hk => qe hk) fun a hk => ?_
  refine tsst hk rfl rfl (fun K_r4_2 hK_r4_2 w hF => ?_) wt_stop
  have hs := hs.f hF
  obtain ⟨y5, h6, H⟩ := bind_some H
  refine sc rfl en145 hk rfl rfl rfl (slices_Clone_impl_Block_impl_Block_t _ A0_1 p0_1 x0.Stash _ v0_1 (hs.hasD (k := 2) rfl) _ h6) ?_
  rintro _ w ⟨A7, p8, k9, rfl, o10, hG⟩ a hk
  have hs := hs.call0k hG [6] rfl
  refine se (hs.pick [(4, 4)] rfl) hk (hK_r4_2 _ _ ?_)
  refine tsst hk rfl rfl (fun K_r4_5 hK_r4_5 w hF => ?_) wt_stop
  have hs := hs.f hF
  obtain ⟨y11, h12, H⟩ := bind_some H
  refine sc rfl en146 hk rfl rfl rfl (slices_Concat_impl_Block_impl_Block_t _ A0_2 p0_2 x0.Buckets _ v0_2 (hs.hasD (k := 3) rfl) _ h12) ?_
  rintro _ w ⟨A13, p14, k15, rfl, o16, hG⟩ a hk
  have hs := hs.call0k hG [7] rfl
  refine se (hs.pick [(4, 4)] rfl) hk (hK_r4_5 _ _ ?_)
  refine tsst hk rfl rfl (fun K_r4_6 hK_r4_6 w hF => ?_) wt_stop
  have hs := hs.f hF
  rcases ite_some H with ⟨c17, H⟩ | ⟨_, H⟩
  rotate_left
  · cases H
  refine sap 6 (xs := y5) (ys := y11) (flat_flat : (L_Block).Flat) hs rfl o10 o16.view (hs.hasG (k := 7) rfl) rfl hk rfl rfl rfl rfl rfl rfl un28 mk102 rfl rfl rfl c17 fun A18 p19 k20 w a hk o21 hs => ?_
  refine se (hs.pick [(4, 4)] rfl) hk (hK_r4_6 _ _ ?_)
  refine tlst hk rfl rfl fun K_r4_7 hK_r4_7 w hF => ?_
  have hs := hs.f hF
  refine sa _ rfl hk rfl rfl rfl fun a hk => ?_
  refine se trivial hk (hK_r4_7 _ _ fun w hF => ?_)
  have hs := hs.f hF
  refine hK3 _ _ ?_
  refine wp_ret ?_
  obtain rfl := Option.some.inj H
  exact fin hk _ [(.slice A18 (y5 ++ y11).length p19)] rfl ⟨rfl, trivial⟩ ⟨A18, p19, _, rfl, o21, (hs.pick [(0, 6)] rfl).dnil⟩

noncomputable def impl_isId.f (x0 : Int) : Option (Bool) :=
  ((impl_within.f x0 0 11).bind fun y3 => (some y3))
set_option maxRecDepth 100000 in
set_option maxHeartbeats 0 in
theorem impl_isId_t (w0 : World) (x0 : Int) (r : Bool) (H : impl_isId.f x0 = some r) :
    Calls Try.prog 63 #[.int .i64 x0] w0 (Ret (fun v w => v = .bool r ∧ Sat [] w0 w [] [])) := by
  have hs : Sat [] w0 w0 [] [] := Sat.init w0 [] [] (by simp) (by simp) List.nodup_nil (by simp [blks])
  unfold impl_isId.f at H
  refine enter Try.func63 rfl Try.ntmps63 rfl fun a hk => ?_
  apply wp_seq_k; intro K1 hK1
  apply wp_region_lit
  refine sa _ rfl hk rfl rfl rfl fun a hk => ?_
  show wpList _ _ _ [] _ _
  refine wpList_nil ?_
  refine hK1 _ _ ?_
  apply wp_seq_k; intro K2 hK2
  apply wp_region_lit
  refine sm _ rfl hk rfl rfl rfl fun a hk => ?_
  obtain ⟨y3, h4, H⟩ := bind_some H
  refine sc rfl en92 hk rfl rfl rfl (impl_within_t _ x0 0 11 _ h4) ?_
  rintro _ w ⟨rfl, hG⟩ a hk
  have hs := hs.call0 hG
  refine sa _ rfl hk rfl rfl rfl fun a hk => ?_
  show wpList _ _ _ [] _ _
  refine wpList_nil ?_
  refine hK2 _ _ ?_
  refine wp_ret ?_
  obtain rfl := Option.some.inj H
  exact fin hk _ [(.bool y3)] rfl ⟨rfl, trivial⟩ ⟨rfl, (hs.pick [] rfl).dnil⟩

noncomputable def impl_isValue.f (x0 : Int) : Option (Bool) :=
  ((impl_within.f x0 0 999999).bind fun y3 => (some y3))
set_option maxRecDepth 100000 in
set_option maxHeartbeats 0 in
theorem impl_isValue_t (w0 : World) (x0 : Int) (r : Bool) (H : impl_isValue.f x0 = some r) :
    Calls Try.prog 65 #[.int .i64 x0] w0 (Ret (fun v w => v = .bool r ∧ Sat [] w0 w [] [])) := by
  have hs : Sat [] w0 w0 [] [] := Sat.init w0 [] [] (by simp) (by simp) List.nodup_nil (by simp [blks])
  unfold impl_isValue.f at H
  refine enter Try.func65 rfl Try.ntmps65 rfl fun a hk => ?_
  apply wp_seq_k; intro K1 hK1
  apply wp_region_lit
  refine sa _ rfl hk rfl rfl rfl fun a hk => ?_
  show wpList _ _ _ [] _ _
  refine wpList_nil ?_
  refine hK1 _ _ ?_
  apply wp_seq_k; intro K2 hK2
  apply wp_region_lit
  refine sm _ rfl hk rfl rfl rfl fun a hk => ?_
  obtain ⟨y3, h4, H⟩ := bind_some H
  refine sc rfl en92 hk rfl rfl rfl (impl_within_t _ x0 0 999999 _ h4) ?_
  rintro _ w ⟨rfl, hG⟩ a hk
  have hs := hs.call0 hG
  refine sa _ rfl hk rfl rfl rfl fun a hk => ?_
  show wpList _ _ _ [] _ _
  refine wpList_nil ?_
  refine hK2 _ _ ?_
  refine wp_ret ?_
  obtain rfl := Option.some.inj H
  exact fin hk _ [(.bool y3)] rfl ⟨rfl, trivial⟩ ⟨rfl, (hs.pick [] rfl).dnil⟩

noncomputable def impl_isBlock.f (x0 : S_Block) : Option (Bool) :=
  ((((impl_isId.f x0.Id).bind fun y10 => (bif y10 then ((impl_isLeaf.f x0.Leaf).bind fun y13 => (bif y13 then ((impl_isValue.f x0.Value).bind fun y16 => (some y16)) else (some false))) else (some false))) : Option (Bool)).bind fun u5 => (some u5))
set_option maxRecDepth 100000 in
set_option maxHeartbeats 0 in
theorem impl_isBlock_t (w0 : World) (x0 : S_Block) (r : Bool) (H : impl_isBlock.f x0 = some r) :
    Calls Try.prog 85 #[.agg #[.int .i64 x0.Id, .int .i64 x0.Leaf, .int .i64 x0.Value]] w0 (Ret (fun v w => v = .bool r ∧ Sat [] w0 w [] [])) := by
  have hs : Sat [] w0 w0 [] [] := Sat.init w0 [] [] (by simp) (by simp) List.nodup_nil (by simp [blks])
  unfold impl_isBlock.f at H
  refine enter Try.func85 rfl Try.ntmps85 rfl fun a hk => ?_
  apply wp_seq_k; intro K1 hK1
  apply wp_region_lit
  refine sbx 1 hs rfl hk rfl rfl rfl rfl fun b2 w a hk hs => ?_
  refine sa _ rfl hk rfl rfl rfl fun a hk => ?_
  show wpList _ _ _ [] _ _
  refine wpList_nil ?_
  refine hK1 _ _ ?_
  apply wp_seq_k; intro K3 hK3
  obtain ⟨o6, h7, HL8⟩ := bind_some H
  clear H
  obtain ⟨R9, hR9⟩ : ∃ R : Act → World → Prop, R = fun a w => ∃ (u5 : Bool), u5 = o6 ∧ Kn [(2, (.bool u5))] 16 a ∧ Sat [] w0 w [] [] := ⟨_, rfl⟩
  refine wp_cutq R9 ?_ ?_
  · have H := h7
    apply wp_region_lit
    refine sf ⟨b2, 0, none⟩ rfl hk rfl rfl rfl fd102_0 rfl fun a hk => ?_
    refine sl rfl hk rfl rfl rfl ag3 (box_cell hs (k := 1) rfl rfl) fun a hk => ?_
    obtain ⟨y10, h11, H⟩ := bind_some H
    refine sc rfl en63 hk rfl rfl rfl (impl_isId_t _ x0.Id _ h11) ?_
    rintro _ w ⟨rfl, hG⟩ a hk
    have hs := hs.call0 hG
    refine sm _ rfl hk rfl rfl rfl fun a hk => ?_
    rcases cond_some H with ⟨c12, H⟩ | ⟨c12, H⟩
    · have hk := hk.lit 6 c12 rfl
      refine sf ⟨b2, 1, none⟩ rfl hk rfl rfl rfl fd102_1 rfl fun a hk => ?_
      refine sl rfl hk rfl rfl rfl ag3 (box_cell hs (k := 1) rfl rfl) fun a hk => ?_
      obtain ⟨y13, h14, H⟩ := bind_some H
      refine sc rfl en64 hk rfl rfl rfl (impl_isLeaf_t _ x0.Leaf _ h14) ?_
      rintro _ w ⟨rfl, hG⟩ a hk
      have hs := hs.call0 hG
      refine sv (.bool y13) hk rfl rfl rfl fun a hk => ?_
      refine sm _ rfl hk rfl rfl rfl fun a hk => ?_
      rcases cond_some H with ⟨c15, H⟩ | ⟨c15, H⟩
      · have hk := hk.lit 11 c15 rfl
        refine sf ⟨b2, 2, none⟩ rfl hk rfl rfl rfl fd102_2 rfl fun a hk => ?_
        refine sl rfl hk rfl rfl rfl ag3 (box_cell hs (k := 1) rfl rfl) fun a hk => ?_
        obtain ⟨y16, h17, H⟩ := bind_some H
        refine sc rfl en65 hk rfl rfl rfl (impl_isValue_t _ x0.Value _ h17) ?_
        rintro _ w ⟨rfl, hG⟩ a hk
        have hs := hs.call0 hG
        refine sv (.bool y16) hk rfl rfl rfl fun a hk => ?_
        refine sa _ rfl hk rfl rfl rfl fun a hk => ?_
        show wpList _ _ _ [] _ _
        refine wpList_nil ?_
        obtain rfl := Option.some.inj H
        show R9 _ _
        rw [hR9]
        exact ⟨y16, rfl, (hk.c 2 rfl hk.k), (hs.pick [] rfl)⟩
      · have hk := hk.lit 11 c15 rfl
        refine sk hk rfl rfl rfl fun a hk => ?_
        refine sk hk rfl rfl rfl fun a hk => ?_
        refine sk hk rfl rfl rfl fun a hk => ?_
        refine sv (.bool false) hk rfl rfl rfl fun a hk => ?_
        refine sa _ rfl hk rfl rfl rfl fun a hk => ?_
        show wpList _ _ _ [] _ _
        refine wpList_nil ?_
        obtain rfl := Option.some.inj H
        show R9 _ _
        rw [hR9]
        exact ⟨false, rfl, (hk.c 2 rfl hk.k), (hs.pick [] rfl)⟩
    · have hk := hk.lit 6 c12 rfl
      refine sk hk rfl rfl rfl fun a hk => ?_
      refine sk hk rfl rfl rfl fun a hk => ?_
      refine sk hk rfl rfl rfl fun a hk => ?_
      refine sv (.bool false) hk rfl rfl rfl fun a hk => ?_
      refine sm _ rfl hk rfl rfl rfl fun a hk => ?_
      refine sk hk rfl rfl rfl fun a hk => ?_
      refine sk hk rfl rfl rfl fun a hk => ?_
      refine sk hk rfl rfl rfl fun a hk => ?_
      refine sv (.bool false) hk rfl rfl rfl fun a hk => ?_
      refine sa _ rfl hk rfl rfl rfl fun a hk => ?_
      show wpList _ _ _ [] _ _
      refine wpList_nil ?_
      obtain rfl := Option.some.inj H
      show R9 _ _
      rw [hR9]
      exact ⟨false, rfl, (hk.c 2 rfl hk.k), (hs.pick [] rfl)⟩
  · intro a w hR0
    rw [hR9] at hR0
    obtain ⟨u5, rfl, hk, hs⟩ := hR0
    have H := HL8
    try dsimp only at H
    refine hK3 _ _ ?_
    refine wp_ret ?_
    obtain rfl := Option.some.inj H
    exact fin hk _ [(.bool u5)] rfl ⟨rfl, trivial⟩ ⟨rfl, (hs.pick [] rfl).dnil⟩

noncomputable def impl_OramOK.s0 (x0 : S_Oram) (u21 : Int) : Option ((Int) ⊕ Ex (Unit) (Bool)) :=
  (bif (decide (u21 < (x0.Buckets.length : Int))) then (if 0 ≤ u21 ∧ u21 < (x0.Buckets.length : Int) then (((bif (decide (((x0.Buckets.getD u21.toNat []).length : Int) > 2)) then (some true) else ((impl_areAll_impl_Block.f (x0.Buckets.getD u21.toNat []) (fun z0 => impl_OramOK_c1.f z0 u21)).bind fun y51 => (some (!y51)))) : Option (Bool)).bind fun u45 => (bif u45 then (some (.inr (.ret false))) else (some (.inl (w64 (u21 + 1)))))) else none) else (some (.inr (.out ()))))
noncomputable def impl_OramOK.s1 (x0 : S_Oram) (y63 : (List S_Block)) (u71 : List Bool) (u75 : Int) : Option (((List Bool) × Int) ⊕ Ex (Unit) (Bool)) :=
  (bif (decide (u75 < (y63.length : Int))) then (if 0 ≤ u75 ∧ u75 < (y63.length : Int) then ((((impl_isBlock.f (y63.getD u75.toNat z_Block)).bind fun y102 => (bif (!y102) then (some true) else (if 0 ≤ ((y63.getD u75.toNat z_Block).Id) ∧ ((y63.getD u75.toNat z_Block).Id) < (x0.Pos.length : Int) then (bif (((y63.getD u75.toNat z_Block).Leaf) != (x0.Pos.getD ((y63.getD u75.toNat z_Block).Id).toNat 0)) then (some true) else (if 0 ≤ ((y63.getD u75.toNat z_Block).Id) ∧ ((y63.getD u75.toNat z_Block).Id) < (12 : Int) then (some (u71.getD ((y63.getD u75.toNat z_Block).Id).toNat false)) else none)) else none))) : Option (Bool)).bind fun u97 => (bif u97 then (some (.inr (.ret false))) else (if 0 ≤ ((y63.getD u75.toNat z_Block).Id) ∧ ((y63.getD u75.toNat z_Block).Id) < (12 : Int) then (some (.inl ((u71.set ((y63.getD u75.toNat z_Block).Id).toNat true), (w64 (u75 + 1))))) else none))) else none) else (some (.inr (.out ()))))
noncomputable def impl_OramOK.f (x0 : S_Oram) : Option (Bool) :=
  (((bif ((x0.Pos.length : Int) != 12) then (some true) else ((impl_areAll_int.f x0.Pos impl_isLeaf.f).bind fun y12 => (bif (!y12) then (some true) else (some ((x0.Buckets.length : Int) != 15))))) : Option (Bool)).bind fun u6 => (bif u6 then (some false) else ((loopO (fun s => impl_OramOK.s0 x0 s) 0).bind fun o => match o with | .out _ => ((impl_Oram_all.f x0).bind fun y63 => ((loopO (fun s => impl_OramOK.s1 x0 y63 s.1 s.2) ((List.replicate 12 (false : Bool)), 0)).bind fun o => match o with | .out _ => (some true) | .ret r => (some r))) | .ret r => (some r))))
set_option maxRecDepth 100000 in
set_option maxHeartbeats 0 in
theorem impl_OramOK_t (w0 : World) (x0 : S_Oram) (A0_0 : Option Addr) (p0_0 : Nat) (k0_0 : Chunk) (v0_0 : View (Lay.int .i64) A0_0 p0_0 x0.Pos k0_0) (w0_0 : Has w0 k0_0) (A0_1 : Option Addr) (p0_1 : Nat) (k0_1 : Chunk) (v0_1 : View L_Block A0_1 p0_1 x0.Stash k0_1) (w0_1 : Has w0 k0_1) (A0_2 : Option Addr) (p0_2 : Nat) (k0_2 : Chunk) (v0_2 : View (Lay.sl L_Block 102) A0_2 p0_2 x0.Buckets k0_2) (w0_2 : Has w0 k0_2) (r : Bool) (H : impl_OramOK.f x0 = some r) :
    Calls Try.prog 19 #[.agg #[.slice A0_0 x0.Pos.length p0_0, .slice A0_1 x0.Stash.length p0_1, .slice A0_2 x0.Buckets.length p0_2]] w0 (Ret (fun v w => v = .bool r ∧ Sat [] w0 w [] [])) := by
  have hs : Sat [] w0 w0 [(1, k0_0), (2, k0_1), (3, k0_2)] [] := Sat.init w0 [(1, k0_0), (2, k0_1), (3, k0_2)] [] (by simp only [List.mem_cons, List.not_mem_nil, or_false]; rintro x (rfl | rfl | rfl) <;> assumption) (by simp) List.nodup_nil (by simp [blks])
  unfold impl_OramOK.f at H
  refine enter Try.func19 rfl Try.ntmps19 rfl fun a hk => ?_
  apply wp_seq_k; intro K1 hK1
  apply wp_region_lit
  refine sbx 4 hs rfl hk rfl rfl rfl rfl fun b2 w a hk hs => ?_
  refine sa _ rfl hk rfl rfl rfl fun a hk => ?_
  show wpList _ _ _ [] _ _
  refine wpList_nil ?_
  refine hK1 _ _ ?_
  apply wp_seq_k; intro K3 hK3
  apply wp_seq_k; intro K4 hK4
  obtain ⟨o7, h8, HL9⟩ := bind_some H
  clear H
  obtain ⟨R10, hR10⟩ : ∃ R : Act → World → Prop, R = fun a w => ∃ (u6 : Bool), u6 = o7 ∧ Kn [(1, (.pointer (some ⟨b2, 0, none⟩))), (23, (.bool u6))] 73 a ∧ Sat [] w0 w [(1, k0_0), (2, k0_1), (3, k0_2)] [(4, [(b2, .cells #[.slice A0_0 x0.Pos.length p0_0, .slice A0_1 x0.Stash.length p0_1, .slice A0_2 x0.Buckets.length p0_2] 31 (0, 0))])] := ⟨_, rfl⟩
  refine wp_cutq R10 ?_ ?_
  · have H := h8
    apply wp_region_lit
    refine sf ⟨b2, 0, none⟩ rfl hk rfl rfl rfl fd31_0 rfl fun a hk => ?_
    refine sl rfl hk rfl rfl rfl ag22 (box_cell hs (k := 4) rfl rfl) fun a hk => ?_
    refine sle rfl hk rfl rfl rfl un22 fun a hk => ?_
    refine sv (.bool ((x0.Pos.length : Int) != 12)) hk rfl rfl rfl fun a hk => ?_
    refine sm _ rfl hk rfl rfl rfl fun a hk => ?_
    rcases cond_some H with ⟨c11, H⟩ | ⟨c11, H⟩
    · have hk := hk.lit 12 c11 rfl
      refine sk hk rfl rfl rfl fun a hk => ?_
      refine sk hk rfl rfl rfl fun a hk => ?_
      refine sk hk rfl rfl rfl fun a hk => ?_
      refine sk hk rfl rfl rfl fun a hk => ?_
      refine sv (.bool true) hk rfl rfl rfl fun a hk => ?_
      refine sm _ rfl hk rfl rfl rfl fun a hk => ?_
      refine sk hk rfl rfl rfl fun a hk => ?_
      refine sk hk rfl rfl rfl fun a hk => ?_
      refine sk hk rfl rfl rfl fun a hk => ?_
      refine sk hk rfl rfl rfl fun a hk => ?_
      refine sv (.bool true) hk rfl rfl rfl fun a hk => ?_
      show wpList _ _ _ [] _ _
      refine wpList_nil ?_
      obtain rfl := Option.some.inj H
      show R10 _ _
      rw [hR10]
      exact ⟨true, rfl, (hk.c 1 rfl (hk.c 23 rfl hk.k)), (hs.pick [(4, 4)] rfl)⟩
    · have hk := hk.lit 12 c11 rfl
      refine sf ⟨b2, 0, none⟩ rfl hk rfl rfl rfl fd31_0 rfl fun a hk => ?_
      refine sl rfl hk rfl rfl rfl ag22 (box_cell hs (k := 4) rfl rfl) fun a hk => ?_
      obtain ⟨y12, h13, H⟩ := bind_some H
      refine sc rfl en80 hk rfl rfl rfl (impl_areAll_int_t _ A0_0 p0_0 x0.Pos _ v0_0 (hs.hasD (k := 1) rfl) 64 [] en64 impl_isLeaf.f [] (fun w _ z0 r h => impl_isLeaf_t w z0 r h) (Has.nil _) _ h13) ?_
      rintro _ w ⟨rfl, hG⟩ a hk
      have hs := hs.call0 hG
      refine sv (.bool (!y12)) hk rfl rfl rfl fun a hk => ?_
      refine sv (.bool (!y12)) hk rfl rfl rfl fun a hk => ?_
      refine sm _ rfl hk rfl rfl rfl fun a hk => ?_
      rcases cond_some H with ⟨c14, H⟩ | ⟨c14, H⟩
      · have hk := hk.lit 18 c14 rfl
        refine sk hk rfl rfl rfl fun a hk => ?_
        refine sk hk rfl rfl rfl fun a hk => ?_
        refine sk hk rfl rfl rfl fun a hk => ?_
        refine sk hk rfl rfl rfl fun a hk => ?_
        refine sv (.bool true) hk rfl rfl rfl fun a hk => ?_
        show wpList _ _ _ [] _ _
        refine wpList_nil ?_
        obtain rfl := Option.some.inj H
        show R10 _ _
        rw [hR10]
        exact ⟨true, rfl, (hk.c 1 rfl (hk.c 23 rfl hk.k)), (hs.pick [(4, 4)] rfl)⟩
      · have hk := hk.lit 18 c14 rfl
        refine sf ⟨b2, 2, none⟩ rfl hk rfl rfl rfl fd31_2 rfl fun a hk => ?_
        refine sl rfl hk rfl rfl rfl ag29 (box_cell hs (k := 4) rfl rfl) fun a hk => ?_
        refine sle rfl hk rfl rfl rfl un29 fun a hk => ?_
        refine sv (.bool ((x0.Buckets.length : Int) != 15)) hk rfl rfl rfl fun a hk => ?_
        refine sv (.bool ((x0.Buckets.length : Int) != 15)) hk rfl rfl rfl fun a hk => ?_
        show wpList _ _ _ [] _ _
        refine wpList_nil ?_
        obtain rfl := Option.some.inj H
        show R10 _ _
        rw [hR10]
        exact ⟨((x0.Buckets.length : Int) != 15), rfl, (hk.c 1 rfl (hk.c 23 rfl hk.k)), (hs.pick [(4, 4)] rfl)⟩
  · intro a w hR0
    rw [hR10] at hR0
    obtain ⟨u6, rfl, hk, hs⟩ := hR0
    have H := HL9
    try dsimp only at H
    refine hK4 _ _ ?_
    rcases cond_some H with ⟨c15, H⟩ | ⟨c15, H⟩
    · have hk := hk.lit 23 c15 rfl
      refine cnd_true hk rfl rfl ?_
      apply wp_seq_k; intro K16 hK16
      apply wp_region_lit
      refine sa _ rfl hk rfl rfl rfl fun a hk => ?_
      show wpList _ _ _ [] _ _
      refine wpList_nil ?_
      refine hK16 _ _ ?_
      refine wp_ret ?_
      obtain rfl := Option.some.inj H
      exact fin hk _ [(.bool false)] rfl ⟨rfl, trivial⟩ ⟨rfl, (hs.pick [] rfl).dnil⟩
    · have hk := hk.lit 23 c15 rfl
      refine cnd_false hk rfl rfl ?_
      refine wp_skip ?_
      refine hK3 _ _ ?_
      apply wp_seq_k; intro K17 hK17
      apply wp_seq_k; intro K18 hK18
      apply wp_region_lit
      refine sf ⟨b2, 2, none⟩ rfl hk rfl rfl rfl fd31_2 rfl fun a hk => ?_
      refine sl rfl hk rfl rfl rfl ag29 (box_cell hs (k := 4) rfl rfl) fun a hk => ?_
      refine sle rfl hk rfl rfl rfl un29 fun a hk => ?_
      refine sm _ rfl hk rfl rfl rfl fun a hk => ?_
      show wpList _ _ _ [] _ _
      refine wpList_nil ?_
      refine hK18 _ _ ?_
      obtain ⟨o22, h23, HL24⟩ := bind_some H
      clear H
      obtain ⟨R25, hR25⟩ : ∃ R : Act → World → Prop, R = fun a w => o22 = .out () ∧ Kn [(1, (.pointer (some ⟨b2, 0, none⟩)))] 73 a ∧ Sat [] w0 w [(1, k0_0), (2, k0_1), (3, k0_2)] [(4, [(b2, .cells #[.slice A0_0 x0.Pos.length p0_0, .slice A0_1 x0.Stash.length p0_1, .slice A0_2 x0.Buckets.length p0_2] 31 (0, 0))])] := ⟨_, rfl⟩
      refine wp_cutq R25 ?_ ?_
      · refine wp_block ?_
        obtain ⟨fu27, h23⟩ := loopO_some h23
        obtain ⟨I26, hI26⟩ : ∃ I : Nat → Act → World → Prop, I = fun fu a w => ∃ (u21 : Int), loopN (fun s => impl_OramOK.s0 x0 s) fu u21 = some o22 ∧ Kn [(1, (.pointer (some ⟨b2, 0, none⟩))), (25, (.slice A0_2 x0.Buckets.length p0_2)), (26, (.int .i64 (x0.Buckets.length : Int))), (27, (.int .i64 u21))] 73 a ∧ Sat [] w0 w [(1, k0_0), (2, k0_1), (3, k0_2)] [(4, [(b2, .cells #[.slice A0_0 x0.Pos.length p0_0, .slice A0_1 x0.Stash.length p0_1, .slice A0_2 x0.Buckets.length p0_2] 31 (0, 0))])] := ⟨_, rfl⟩
        refine wp_loop_ghost I26 fu27 ?_ ?_
        · rw [hI26]
          exact ⟨0, h23, (hk.c 1 rfl (hk.c 25 rfl (hk.c 26 rfl (hk.c 27 rfl hk.k)))), (hs.pick [(4, 4)] rfl)⟩
        · clear h23 hk hs
          intro fu27 a w hI0
          rw [hI26] at hI0
          obtain ⟨u21, hi, hk, hs⟩ := hI0
          obtain ⟨x28, H, h29⟩ := loop_round hi
          try dsimp only at H
          unfold impl_OramOK.s0 at H
          apply wp_seq_k; intro K30 hK30
          apply wp_region_lit
          refine sv (.bool (decide (u21 < (x0.Buckets.length : Int)))) hk rfl rfl rfl fun a hk => ?_
          show wpList _ _ _ [] _ _
          refine wpList_nil ?_
          refine hK30 _ _ ?_
          apply wp_seq_k; intro K31 hK31
          rcases cond_some H with ⟨c32, H⟩ | ⟨c32, H⟩
          · have hk := hk.lit 28 c32 rfl
            refine cnd_true hk rfl rfl ?_
            refine wp_skip ?_
            refine hK31 _ _ ?_
            apply wp_seq_k; intro K33 hK33
            refine wp_block ?_
            apply wp_seq_k; intro K34 hK34
            apply wp_region_lit
            refine sm _ rfl hk rfl rfl rfl fun a hk => ?_
            rcases ite_some H with ⟨c35, H⟩ | ⟨_, H⟩
            rotate_left
            · cases H
            obtain ⟨b36, q37, hAc35⟩ := (v0_2).some_ u21 c35.1 c35.2
            refine si rfl hk rfl rfl rfl rfl un29 sz28 c35.1 c35.2 hAc35 fun a hk => ?_
            obtain ⟨_, ⟨_, rfl, A39, p40, rfl, v41⟩, e38⟩ := (v0_2).at_ [] u21 c35.1 c35.2
            refine sl (v := (.slice A39 (x0.Buckets.getD u21.toNat []).length p40)) rfl hk rfl rfl rfl ag28 ((e38 0 _ rfl).cell (hs.hasD (k := 3) rfl)) fun a hk => ?_
            refine salx 7 hs rfl hk rfl rfl ze3 rfl fun b42 w a hk hs => ?_
            refine ssx (cs' := #[.int .i64 u21]) 7 hs rfl rfl hk rfl rfl rfl rfl sz3 rfl rfl rfl rfl fun w a hk hs => ?_
            refine sa _ rfl hk rfl rfl rfl fun a hk => ?_
            show wpList _ _ _ [] _ _
            refine wpList_nil ?_
            refine hK34 _ _ ?_
            apply wp_seq_k; intro K43 hK43
            obtain ⟨o46, h47, HL48⟩ := bind_some H
            clear H
            obtain ⟨R49, hR49⟩ : ∃ R : Act → World → Prop, R = fun a w => ∃ (u45 : Bool), u45 = o46 ∧ Kn [(1, (.pointer (some ⟨b2, 0, none⟩))), (25, (.slice A0_2 x0.Buckets.length p0_2)), (26, (.int .i64 (x0.Buckets.length : Int))), (27, (.int .i64 u21)), (40, (.bool u45))] 73 a ∧ Sat [] w0 w [(1, k0_0), (2, k0_1), (3, k0_2)] [(4, [(b2, .cells #[.slice A0_0 x0.Pos.length p0_0, .slice A0_1 x0.Stash.length p0_1, .slice A0_2 x0.Buckets.length p0_2] 31 (0, 0))])] := ⟨_, rfl⟩
            refine wp_cutq R49 ?_ ?_
            · have H := h47
              apply wp_region_lit
              refine sm _ rfl hk rfl rfl rfl fun a hk => ?_
              refine sle rfl hk rfl rfl rfl un28 fun a hk => ?_
              refine sv (.bool (decide (((x0.Buckets.getD u21.toNat []).length : Int) > 2))) hk rfl rfl rfl fun a hk => ?_
              refine sm _ rfl hk rfl rfl rfl fun a hk => ?_
              rcases cond_some H with ⟨c50, H⟩ | ⟨c50, H⟩
              · have hk := hk.lit 35 c50 rfl
                refine sk hk rfl rfl rfl fun a hk => ?_
                refine sk hk rfl rfl rfl fun a hk => ?_
                refine sk hk rfl rfl rfl fun a hk => ?_
                refine sk hk rfl rfl rfl fun a hk => ?_
                refine sv (.bool true) hk rfl rfl rfl fun a hk => ?_
                show wpList _ _ _ [] _ _
                refine wpList_nil ?_
                obtain rfl := Option.some.inj H
                show R49 _ _
                rw [hR49]
                exact ⟨true, rfl, (hk.c 1 rfl (hk.c 25 rfl (hk.c 26 rfl (hk.c 27 rfl (hk.c 40 rfl hk.k))))), (hs.pick [(4, 4)] rfl)⟩
              · have hk := hk.lit 35 c50 rfl
                refine sm _ rfl hk rfl rfl rfl fun a hk => ?_
                refine smf (cs := [.pointer (some ⟨b42, 0, none⟩)]) rfl hk rfl rfl rfl fun a hk => ?_
                obtain ⟨y51, h52, H⟩ := bind_some H
                refine sc rfl en81 hk rfl rfl rfl (impl_areAll_impl_Block_t _ A39 p40 (x0.Buckets.getD u21.toNat []) _ v41 (hs.hasD (k := 3) rfl) 82 [.pointer (some ⟨b42, 0, none⟩)] en82 (fun z0 => impl_OramOK_c1.f z0 u21) [(b42, .cells #[.int .i64 u21] 3 (0, 0))] (fun w hz z0 r h => impl_OramOK_c1_t w z0 _ u21 hz r h) (hs.hasG (k := 7) rfl) _ h52) ?_
                rintro _ w ⟨rfl, hG⟩ a hk
                have hs := hs.call0 hG
                refine sv (.bool (!y51)) hk rfl rfl rfl fun a hk => ?_
                refine sv (.bool (!y51)) hk rfl rfl rfl fun a hk => ?_
                show wpList _ _ _ [] _ _
                refine wpList_nil ?_
                obtain rfl := Option.some.inj H
                show R49 _ _
                rw [hR49]
                exact ⟨(!y51), rfl, (hk.c 1 rfl (hk.c 25 rfl (hk.c 26 rfl (hk.c 27 rfl (hk.c 40 rfl hk.k))))), (hs.pick [(4, 4)] rfl)⟩
            · intro a w hR0
              rw [hR49] at hR0
              obtain ⟨u45, rfl, hk, hs⟩ := hR0
              have H := HL48
              try dsimp only at H
              refine hK43 _ _ ?_
              rcases cond_some H with ⟨c53, H⟩ | ⟨c53, H⟩
              · have hk := hk.lit 40 c53 rfl
                refine cnd_true hk rfl rfl ?_
                apply wp_seq_k; intro K54 hK54
                apply wp_region_lit
                refine sa _ rfl hk rfl rfl rfl fun a hk => ?_
                show wpList _ _ _ [] _ _
                refine wpList_nil ?_
                refine hK54 _ _ ?_
                refine wp_ret ?_
                obtain rfl := Option.some.inj H
                have ho22 := h29
                try dsimp only at ho22
                subst ho22
                have H := HL24
                try dsimp only at H
                obtain rfl := Option.some.inj H
                exact fin hk _ [(.bool false)] rfl ⟨rfl, trivial⟩ ⟨rfl, (hs.pick [] rfl).dnil⟩
              · have hk := hk.lit 40 c53 rfl
                refine cnd_false hk rfl rfl ?_
                refine wp_skip ?_
                refine hK33 _ _ ?_
                apply wp_region_lit
                refine sv (.int .i64 (w64 (u21 + 1))) hk rfl rfl rfl fun a hk => ?_
                refine sm _ rfl hk rfl rfl rfl fun a hk => ?_
                show wpList _ _ _ [] _ _
                refine wpList_nil ?_
                obtain rfl := Option.some.inj H
                obtain ⟨m55, hmm55, h29⟩ := h29
                show ∃ n', n' < _ ∧ I26 n' _ _
                refine ⟨m55, hmm55, ?_⟩
                rw [hI26]
                exact ⟨(w64 (u21 + 1)), h29, (hk.c 1 rfl (hk.c 25 rfl (hk.c 26 rfl (hk.c 27 rfl hk.k)))), (hs.pick [(4, 4)] rfl)⟩
          · have hk := hk.lit 28 c32 rfl
            refine cnd_false hk rfl rfl ?_
            refine wp_exit ?_
            obtain rfl := Option.some.inj H
            show R25 _ _
            rw [hR25]
            exact ⟨h29.symm, (hk.c 1 rfl hk.k), (hs.pick [(4, 4)] rfl)⟩
      · intro a w hR0
        rw [hR25] at hR0
        obtain ⟨rfl, hk, hs⟩ := hR0
        have H := HL24
        try dsimp only at H
        refine hK17 _ _ ?_
        apply wp_seq_k; intro K56 hK56
        apply wp_region_lit
        refine sala 9 (Lay.bool) (m := 12) (z := false) (zc := [.bool false]) hs rfl hk rfl rfl ze105 (by exact ⟨rfl, rfl⟩) rfl rfl rfl fun b57 k58 w a hk o59 hs => ?_
        have lh60 : (List.replicate 12 (false : Bool)).length = 12 := List.length_replicate
        show wpList _ _ _ [] _ _
        refine wpList_nil ?_
        refine hK56 _ _ ?_
        apply wp_seq_k; intro K61 hK61
        apply wp_seq_k; intro K62 hK62
        apply wp_region_lit
        refine sln [.slice A0_0 x0.Pos.length p0_0, .slice A0_1 x0.Stash.length p0_1, .slice A0_2 x0.Buckets.length p0_2] rfl hk rfl rfl rfl ag31 sz31 (box_cells hs (k := 4) rfl) fun a hk => ?_
        obtain ⟨y63, h64, H⟩ := bind_some H
        refine sc rfl en84 hk rfl rfl rfl (impl_Oram_all_t _ x0 A0_0 p0_0 _ v0_0 (hs.hasD (k := 1) rfl) A0_1 p0_1 _ v0_1 (hs.hasD (k := 2) rfl) A0_2 p0_2 _ v0_2 (hs.hasD (k := 3) rfl) _ h64) ?_
        rintro _ w ⟨A65, p66, k67, rfl, o68, hG⟩ a hk
        have hs := hs.call0k hG [10] rfl
        refine sle rfl hk rfl rfl rfl un28 fun a hk => ?_
        refine sm _ rfl hk rfl rfl rfl fun a hk => ?_
        show wpList _ _ _ [] _ _
        refine wpList_nil ?_
        refine hK62 _ _ ?_
        obtain ⟨o76, h77, HL78⟩ := bind_some H
        clear H
        obtain ⟨R79, hR79⟩ : ∃ R : Act → World → Prop, R = fun a w => o76 = .out () ∧ Kn [] 73 a ∧ Sat [] w0 w [(1, k0_0), (2, k0_1), (3, k0_2)] [] := ⟨_, rfl⟩
        refine wp_cutq R79 ?_ ?_
        · refine wp_block ?_
          obtain ⟨fu81, h77⟩ := loopO_some h77
          obtain ⟨I80, hI80⟩ : ∃ I : Nat → Act → World → Prop, I = fun fu a w => ∃ (u71 : List Bool) (u75 : Int) (k72 : Chunk), loopN (fun s => impl_OramOK.s1 x0 y63 s.1 s.2) fu (u71, u75) = some o76 ∧ Kn [(1, (.pointer (some ⟨b2, 0, none⟩))), (5, (.pointer (some ⟨b57, 0, none⟩))), (43, (.slice A65 y63.length p66)), (44, (.int .i64 (y63.length : Int))), (45, (.int .i64 u75))] 73 a ∧ Sat [] w0 w [(1, k0_0), (2, k0_1), (3, k0_2)] [(9, k72), (10, k67), (4, [(b2, .cells #[.slice A0_0 x0.Pos.length p0_0, .slice A0_1 x0.Stash.length p0_1, .slice A0_2 x0.Buckets.length p0_2] 31 (0, 0))])] ∧ Own Lay.bool 105 (some ⟨b57, 0, none⟩) 12 u71 k72 ∧ u71.length = 12 := ⟨_, rfl⟩
          refine wp_loop_ghost I80 fu81 ?_ ?_
          · rw [hI80]
            exact ⟨(List.replicate 12 (false : Bool)), 0, _, h77, (hk.c 1 rfl (hk.c 5 rfl (hk.c 43 rfl (hk.c 44 rfl (hk.c 45 rfl hk.k))))), (hs.pick [(9, 9), (10, 10), (4, 4)] rfl), o59, lh60⟩
          · clear h77 hk hs
            intro fu81 a w hI0
            rw [hI80] at hI0
            obtain ⟨u71, u75, k72, hi, hk, hs, o73, lh74⟩ := hI0
            obtain ⟨x82, H, h83⟩ := loop_round hi
            try dsimp only at H
            unfold impl_OramOK.s1 at H
            apply wp_seq_k; intro K84 hK84
            apply wp_region_lit
            refine sv (.bool (decide (u75 < (y63.length : Int)))) hk rfl rfl rfl fun a hk => ?_
            show wpList _ _ _ [] _ _
            refine wpList_nil ?_
            refine hK84 _ _ ?_
            apply wp_seq_k; intro K85 hK85
            rcases cond_some H with ⟨c86, H⟩ | ⟨c86, H⟩
            · have hk := hk.lit 46 c86 rfl
              refine cnd_true hk rfl rfl ?_
              refine wp_skip ?_
              refine hK85 _ _ ?_
              apply wp_seq_k; intro K87 hK87
              refine wp_block ?_
              apply wp_seq_k; intro K88 hK88
              apply wp_region_lit
              rcases ite_some H with ⟨c89, H⟩ | ⟨_, H⟩
              rotate_left
              · cases H
              obtain ⟨b90, q91, hAc89⟩ := (o68.view).some_ u75 c89.1 c89.2
              refine si rfl hk rfl rfl rfl rfl un28 sz102 c89.1 c89.2 hAc89 fun a hk => ?_
              obtain ⟨_, rfl, e92⟩ := (o68.view).at_ z_Block u75 c89.1 c89.2
              refine sln [.int .i64 ((y63.getD u75.toNat z_Block).Id), .int .i64 ((y63.getD u75.toNat z_Block).Leaf), .int .i64 ((y63.getD u75.toNat z_Block).Value)] rfl hk rfl rfl rfl ag102 sz102 (cells_at e92 (hs.hasG (k := 10) rfl)) fun a hk => ?_
              refine salx 12 hs rfl hk rfl rfl ze102 rfl fun b93 w a hk hs => ?_
              refine ssw 12 hs rfl rfl hk rfl rfl rfl rfl sz102 (by simp [Value.oneCell']) rfl fun w a hk hs => ?_
              show wpList _ _ _ [] _ _
              refine wpList_nil ?_
              refine hK88 _ _ ?_
              apply wp_seq_k; intro K94 hK94
              apply wp_seq_k; intro K95 hK95
              obtain ⟨o98, h99, HL100⟩ := bind_some H
              clear H
              obtain ⟨R101, hR101⟩ : ∃ R : Act → World → Prop, R = fun a w => ∃ (u97 : Bool), u97 = o98 ∧ Kn [(1, (.pointer (some ⟨b2, 0, none⟩))), (5, (.pointer (some ⟨b57, 0, none⟩))), (7, (.pointer (some ⟨b93, 0, none⟩))), (43, (.slice A65 y63.length p66)), (44, (.int .i64 (y63.length : Int))), (45, (.int .i64 u75)), (68, (.bool u97))] 73 a ∧ Sat [] w0 w [(1, k0_0), (2, k0_1), (3, k0_2)] [(9, k72), (10, k67), (4, [(b2, .cells #[.slice A0_0 x0.Pos.length p0_0, .slice A0_1 x0.Stash.length p0_1, .slice A0_2 x0.Buckets.length p0_2] 31 (0, 0))]), (12, [(b93, .cells #[.int .i64 ((y63.getD u75.toNat z_Block).Id), .int .i64 ((y63.getD u75.toNat z_Block).Leaf), .int .i64 ((y63.getD u75.toNat z_Block).Value)] 102 (0, 0))])] := ⟨_, rfl⟩
              refine wp_cutq R101 ?_ ?_
              · have H := h99
                refine wp_region_mix [(0, true), (1, true), (2, true), (3, true), (4, true), (5, true), (6, true), (7, true), (8, true), (9, true), (10, true), (11, true), (12, true), (13, true), (14, true), (15, true), (16, true), (17, true), (18, true), (19, true)] mo (by kernel_rfl) hs fun _ => ?_
                have hs := hs.drew
                refine qst (.agg #[.int .i64 ((y63.getD u75.toNat z_Block).Id), .int .i64 ((y63.getD u75.toNat z_Block).Leaf), .int .i64 ((y63.getD u75.toNat z_Block).Value)]) hk rfl rfl rfl rfl (fun w hs => sln [.int .i64 ((y63.getD u75.toNat z_Block).Id), .int .i64 ((y63.getD u75.toNat z_Block).Leaf), .int .i64 ((y63.getD u75.toNat z_Block).Value)] rfl hk rfl rfl rfl ag102 sz102 (box_cells hs (k := 12) rfl) fun a hk => qe hk) fun a hk => ?_
                obtain ⟨y102, h103, H⟩ := bind_some H
                refine qst (.bool y102) hk rfl rfl rfl rfl (fun w hs => sc rfl en85 hk rfl rfl rfl (impl_isBlock_t _ (y63.getD u75.toNat z_Block) _ h103) fun _ w hR a hk => qc hR hk) fun a hk => ?_
                refine qst (.bool (!y102)) hk rfl rfl rfl rfl (fun w hs => sv (.bool (!y102)) hk rfl rfl rfl fun a hk => qe hk) fun a hk => ?_
                refine qst (.bool (!y102)) hk rfl rfl rfl rfl (fun w hs => sm _ rfl hk rfl rfl rfl fun a hk => qe hk) fun a hk => ?_
                rcases cond_some H with ⟨c104, H⟩ | ⟨c104, H⟩
                · have hk := hk.lit 52 c104 rfl
                  refine qsk hk rfl rfl rfl rfl fun a hk => ?_
                  refine qsk hk rfl rfl rfl rfl fun a hk => ?_
                  refine qsk hk rfl rfl rfl rfl fun a hk => ?_
                  refine qsk hk rfl rfl rfl rfl fun a hk => ?_
                  refine qsk hk rfl rfl rfl rfl fun a hk => ?_
                  refine qsk hk rfl rfl rfl rfl fun a hk => ?_
                  refine qsk hk rfl rfl rfl rfl fun a hk => ?_
                  refine qsk hk rfl rfl rfl rfl fun a hk => ?_
                  refine qsk hk rfl rfl rfl rfl fun a hk => ?_
                  refine qst (.bool true) hk rfl rfl rfl rfl (fun w hs => sv (.bool true) hk rfl rfl rfl fun a hk => qe hk) fun a hk => ?_
                  refine qst (.bool true) hk rfl rfl rfl rfl (fun w hs => sm _ rfl hk rfl rfl rfl fun a hk => qe hk) fun a hk => ?_
                  refine qsk hk rfl rfl rfl rfl fun a hk => ?_
                  refine qsk hk rfl rfl rfl rfl fun a hk => ?_
                  refine qsk hk rfl rfl rfl rfl fun a hk => ?_
                  refine qsk hk rfl rfl rfl rfl fun a hk => ?_
                  refine qst (.bool true) hk rfl rfl rfl rfl (fun w hs => sv (.bool true) hk rfl rfl rfl fun a hk => qe hk) fun a hk => ?_
                  refine wml_nil fun w hF _ => ?_
                  have hs := hs.f hF
                  obtain rfl := Option.some.inj H
                  show R101 _ _
                  rw [hR101]
                  exact ⟨true, rfl, (hk.c 1 rfl (hk.c 5 rfl (hk.c 7 rfl (hk.c 43 rfl (hk.c 44 rfl (hk.c 45 rfl (hk.c 68 rfl hk.k))))))), (hs.pick [(9, 9), (10, 10), (4, 4), (12, 12)] rfl)⟩
                · have hk := hk.lit 52 c104 rfl
                  refine qst (.pointer (some ⟨b93, 1, none⟩)) hk rfl rfl rfl rfl (fun w hs => sf ⟨b93, 1, none⟩ rfl hk rfl rfl rfl fd102_1 rfl fun a hk => qe hk) fun a hk => ?_
                  refine qst (.int .i64 ((y63.getD u75.toNat z_Block).Leaf)) hk rfl rfl rfl rfl (fun w hs => sl rfl hk rfl rfl rfl ag3 (box_cell hs (k := 12) rfl rfl) fun a hk => qe hk) fun a hk => ?_
                  refine qst (.pointer (some ⟨b2, 0, none⟩)) hk rfl rfl rfl rfl (fun w hs => sf ⟨b2, 0, none⟩ rfl hk rfl rfl rfl fd31_0 rfl fun a hk => qe hk) fun a hk => ?_
                  refine qst (.slice A0_0 x0.Pos.length p0_0) hk rfl rfl rfl rfl (fun w hs => sl rfl hk rfl rfl rfl ag22 (box_cell hs (k := 4) rfl rfl) fun a hk => qe hk) fun a hk => ?_
                  refine qst (.pointer (some ⟨b93, 0, none⟩)) hk rfl rfl rfl rfl (fun w hs => sf ⟨b93, 0, none⟩ rfl hk rfl rfl rfl fd102_0 rfl fun a hk => qe hk) fun a hk => ?_
                  refine qst (.int .i64 ((y63.getD u75.toNat z_Block).Id)) hk rfl rfl rfl rfl (fun w hs => sl rfl hk rfl rfl rfl ag3 (box_cell hs (k := 12) rfl rfl) fun a hk => qe hk) fun a hk => ?_
                  rcases ite_some H with ⟨c105, H⟩ | ⟨_, H⟩
                  rotate_left
                  · cases H
                  obtain ⟨b106, q107, hAc105⟩ := (v0_0).some_ ((y63.getD u75.toNat z_Block).Id) c105.1 c105.2
                  refine qst (.pointer (some (padd A0_0 (((y63.getD u75.toNat z_Block).Id).toNat * 1)))) hk rfl rfl rfl rfl (fun w hs => si rfl hk rfl rfl rfl rfl un22 sz3 c105.1 c105.2 hAc105 fun a hk => qe hk) fun a hk => ?_
                  obtain ⟨_, rfl, e108⟩ := (v0_0).at_ 0 ((y63.getD u75.toNat z_Block).Id) c105.1 c105.2
                  refine qst (.int .i64 (x0.Pos.getD ((y63.getD u75.toNat z_Block).Id).toNat 0)) hk rfl rfl rfl rfl (fun w hs => sl (v := (.int .i64 (x0.Pos.getD ((y63.getD u75.toNat z_Block).Id).toNat 0))) rfl hk rfl rfl rfl ag3 ((e108 0 _ rfl).cell (hs.hasD (k := 1) rfl)) fun a hk => qe hk) fun a hk => ?_
                  refine qst (.bool (((y63.getD u75.toNat z_Block).Leaf) != (x0.Pos.getD ((y63.getD u75.toNat z_Block).Id).toNat 0))) hk rfl rfl rfl rfl (fun w hs => sv (.bool (((y63.getD u75.toNat z_Block).Leaf) != (x0.Pos.getD ((y63.getD u75.toNat z_Block).Id).toNat 0))) hk rfl rfl rfl fun a hk => qe hk) fun a hk => ?_
                  refine qst (.bool (((y63.getD u75.toNat z_Block).Leaf) != (x0.Pos.getD ((y63.getD u75.toNat z_Block).Id).toNat 0))) hk rfl rfl rfl rfl (fun w hs => sv (.bool (((y63.getD u75.toNat z_Block).Leaf) != (x0.Pos.getD ((y63.getD u75.toNat z_Block).Id).toNat 0))) hk rfl rfl rfl fun a hk => qe hk) fun a hk => ?_
                  refine qst (.bool (((y63.getD u75.toNat z_Block).Leaf) != (x0.Pos.getD ((y63.getD u75.toNat z_Block).Id).toNat 0))) hk rfl rfl rfl rfl (fun w hs => sm _ rfl hk rfl rfl rfl fun a hk => qe hk) fun a hk => ?_
                  rcases cond_some H with ⟨c109, H⟩ | ⟨c109, H⟩
                  · have hk := hk.lit 63 c109 rfl
                    refine qsk hk rfl rfl rfl rfl fun a hk => ?_
                    refine qsk hk rfl rfl rfl rfl fun a hk => ?_
                    refine qsk hk rfl rfl rfl rfl fun a hk => ?_
                    refine qsk hk rfl rfl rfl rfl fun a hk => ?_
                    refine qst (.bool true) hk rfl rfl rfl rfl (fun w hs => sv (.bool true) hk rfl rfl rfl fun a hk => qe hk) fun a hk => ?_
                    refine wml_nil fun w hF _ => ?_
                    have hs := hs.f hF
                    obtain rfl := Option.some.inj H
                    show R101 _ _
                    rw [hR101]
                    exact ⟨true, rfl, (hk.c 1 rfl (hk.c 5 rfl (hk.c 7 rfl (hk.c 43 rfl (hk.c 44 rfl (hk.c 45 rfl (hk.c 68 rfl hk.k))))))), (hs.pick [(9, 9), (10, 10), (4, 4), (12, 12)] rfl)⟩
                  · have hk := hk.lit 63 c109 rfl
                    refine qst (.pointer (some ⟨b93, 0, none⟩)) hk rfl rfl rfl rfl (fun w hs => sf ⟨b93, 0, none⟩ rfl hk rfl rfl rfl fd102_0 rfl fun a hk => qe hk) fun a hk => ?_
                    refine qst (.int .i64 ((y63.getD u75.toNat z_Block).Id)) hk rfl rfl rfl rfl (fun w hs => sl rfl hk rfl rfl rfl ag3 (box_cell hs (k := 12) rfl rfl) fun a hk => qe hk) fun a hk => ?_
                    rcases ite_some H with ⟨c110, H⟩ | ⟨_, H⟩
                    rotate_left
                    · cases H
                    obtain ⟨b111, q112, hAc110⟩ := (o73.view).some_ ((y63.getD u75.toNat z_Block).Id) c110.1 (by rw [lh74]; exact c110.2)
                    refine qst (.pointer (some (padd (some ⟨b57, 0, none⟩) (((y63.getD u75.toNat z_Block).Id).toNat * 1)))) hk rfl rfl rfl rfl (fun w hs => sia rfl hk rfl rfl rfl rfl un105 sz4 c110.1 c110.2 hAc110 fun a hk => qe hk) fun a hk => ?_
                    obtain ⟨_, rfl, e113⟩ := (o73.view).at_ false ((y63.getD u75.toNat z_Block).Id) c110.1 (by rw [lh74]; exact c110.2)
                    refine qst (.bool (u71.getD ((y63.getD u75.toNat z_Block).Id).toNat false)) hk rfl rfl rfl rfl (fun w hs => sl (v := (.bool (u71.getD ((y63.getD u75.toNat z_Block).Id).toNat false))) rfl hk rfl rfl rfl ag4 ((e113 0 _ rfl).cell (hs.hasG (k := 9) rfl)) fun a hk => qe hk) fun a hk => ?_
                    refine qst (.bool (u71.getD ((y63.getD u75.toNat z_Block).Id).toNat false)) hk rfl rfl rfl rfl (fun w hs => sv (.bool (u71.getD ((y63.getD u75.toNat z_Block).Id).toNat false)) hk rfl rfl rfl fun a hk => qe hk) fun a hk => ?_
                    refine wml_nil fun w hF _ => ?_
                    have hs := hs.f hF
                    obtain rfl := Option.some.inj H
                    show R101 _ _
                    rw [hR101]
                    exact ⟨(u71.getD ((y63.getD u75.toNat z_Block).Id).toNat false), rfl, (hk.c 1 rfl (hk.c 5 rfl (hk.c 7 rfl (hk.c 43 rfl (hk.c 44 rfl (hk.c 45 rfl (hk.c 68 rfl hk.k))))))), (hs.pick [(9, 9), (10, 10), (4, 4), (12, 12)] rfl)⟩
              · intro a w hR0
                rw [hR101] at hR0
                obtain ⟨u97, rfl, hk, hs⟩ := hR0
                have H := HL100
                try dsimp only at H
                refine hK95 _ _ ?_
                rcases cond_some H with ⟨c114, H⟩ | ⟨c114, H⟩
                · have hk := hk.lit 68 c114 rfl
                  refine cnd_true hk rfl rfl ?_
                  apply wp_seq_k; intro K115 hK115
                  apply wp_region_lit
                  refine sa _ rfl hk rfl rfl rfl fun a hk => ?_
                  show wpList _ _ _ [] _ _
                  refine wpList_nil ?_
                  refine hK115 _ _ ?_
                  refine wp_ret ?_
                  obtain rfl := Option.some.inj H
                  have ho76 := h83
                  try dsimp only at ho76
                  subst ho76
                  have H := HL78
                  try dsimp only at H
                  obtain rfl := Option.some.inj H
                  exact fin hk _ [(.bool false)] rfl ⟨rfl, trivial⟩ ⟨rfl, (hs.pick [] rfl).dnil⟩
                · have hk := hk.lit 68 c114 rfl
                  refine cnd_false hk rfl rfl ?_
                  refine wp_skip ?_
                  refine hK94 _ _ ?_
                  apply wp_region_lit
                  refine sf ⟨b93, 0, none⟩ rfl hk rfl rfl rfl fd102_0 rfl fun a hk => ?_
                  refine sl rfl hk rfl rfl rfl ag3 (box_cell hs (k := 12) rfl rfl) fun a hk => ?_
                  rcases ite_some H with ⟨c116, H⟩ | ⟨_, H⟩
                  rotate_left
                  · cases H
                  obtain ⟨b117, q118, hAc116⟩ := (o73.view).some_ ((y63.getD u75.toNat z_Block).Id) c116.1 (by rw [lh74]; exact c116.2)
                  refine sia rfl hk rfl rfl rfl rfl un105 sz4 c116.1 c116.2 hAc116 fun a hk => ?_
                  refine so (j := 0) 9 false true hs rfl o73 c116.1 (by rw [lh74]; exact c116.2) rfl hk rfl rfl rfl rfl rfl sz4 (by simp [Value.cells, Value.oneCell']) (Nat.le_of_ble_eq_true rfl) (fun _ _ h => ⟨by rw [h.1]; rfl, h.2⟩) fun k119 w a hk o120 hs => ?_
                  have lh121 : (u71.set ((y63.getD u75.toNat z_Block).Id).toNat true).length = 12 := by rw [List.length_set]; exact lh74
                  show wpList _ _ _ [] _ _
                  refine wpList_nil ?_
                  refine hK87 _ _ ?_
                  apply wp_region_lit
                  refine sv (.int .i64 (w64 (u75 + 1))) hk rfl rfl rfl fun a hk => ?_
                  refine sm _ rfl hk rfl rfl rfl fun a hk => ?_
                  show wpList _ _ _ [] _ _
                  refine wpList_nil ?_
                  obtain rfl := Option.some.inj H
                  obtain ⟨m122, hmm122, h83⟩ := h83
                  show ∃ n', n' < _ ∧ I80 n' _ _
                  refine ⟨m122, hmm122, ?_⟩
                  rw [hI80]
                  exact ⟨(u71.set ((y63.getD u75.toNat z_Block).Id).toNat true), (w64 (u75 + 1)), _, h83, (hk.c 1 rfl (hk.c 5 rfl (hk.c 43 rfl (hk.c 44 rfl (hk.c 45 rfl hk.k))))), (hs.pick [(9, 9), (10, 10), (4, 4)] rfl), o120, lh121⟩
            · have hk := hk.lit 46 c86 rfl
              refine cnd_false hk rfl rfl ?_
              refine wp_exit ?_
              obtain rfl := Option.some.inj H
              show R79 _ _
              rw [hR79]
              exact ⟨h83.symm, hk.k, (hs.pick [] rfl)⟩
        · intro a w hR0
          rw [hR79] at hR0
          obtain ⟨rfl, hk, hs⟩ := hR0
          have H := HL78
          try dsimp only at H
          refine hK61 _ _ ?_
          apply wp_seq_k; intro K123 hK123
          apply wp_region_lit
          refine sa _ rfl hk rfl rfl rfl fun a hk => ?_
          show wpList _ _ _ [] _ _
          refine wpList_nil ?_
          refine hK123 _ _ ?_
          refine wp_ret ?_
          obtain rfl := Option.some.inj H
          exact fin hk _ [(.bool true)] rfl ⟨rfl, trivial⟩ ⟨rfl, (hs.pick [] rfl).dnil⟩

noncomputable def impl_isKey.f (x0 : Int) : Option (Bool) :=
  ((impl_within.f x0 1 9999).bind fun y3 => (some y3))
set_option maxRecDepth 100000 in
set_option maxHeartbeats 0 in
theorem impl_isKey_t (w0 : World) (x0 : Int) (r : Bool) (H : impl_isKey.f x0 = some r) :
    Calls Try.prog 150 #[.int .i64 x0] w0 (Ret (fun v w => v = .bool r ∧ Sat [] w0 w [] [])) := by
  have hs : Sat [] w0 w0 [] [] := Sat.init w0 [] [] (by simp) (by simp) List.nodup_nil (by simp [blks])
  unfold impl_isKey.f at H
  refine enter Try.func150 rfl Try.ntmps150 rfl fun a hk => ?_
  apply wp_seq_k; intro K1 hK1
  apply wp_region_lit
  refine sa _ rfl hk rfl rfl rfl fun a hk => ?_
  show wpList _ _ _ [] _ _
  refine wpList_nil ?_
  refine hK1 _ _ ?_
  apply wp_seq_k; intro K2 hK2
  apply wp_region_lit
  refine sm _ rfl hk rfl rfl rfl fun a hk => ?_
  obtain ⟨y3, h4, H⟩ := bind_some H
  refine sc rfl en92 hk rfl rfl rfl (impl_within_t _ x0 1 9999 _ h4) ?_
  rintro _ w ⟨rfl, hG⟩ a hk
  have hs := hs.call0 hG
  refine sa _ rfl hk rfl rfl rfl fun a hk => ?_
  show wpList _ _ _ [] _ _
  refine wpList_nil ?_
  refine hK2 _ _ ?_
  refine wp_ret ?_
  obtain rfl := Option.some.inj H
  exact fin hk _ [(.bool y3)] rfl ⟨rfl, trivial⟩ ⟨rfl, (hs.pick [] rfl).dnil⟩

noncomputable def impl_EncOK.s0 (x0 : S_Enc) (u11 : Int) (u17 : List Int) : Option ((Int × (List Int)) ⊕ Ex (Unit) (Bool)) :=
  (bif (decide (u11 < (x0.Keys.length : Int))) then (if 0 ≤ u11 ∧ u11 < (x0.Keys.length : Int) then (bif ((x0.Keys.getD u11.toNat 0) == 0) then (some (.inl ((w64 (u11 + 1)), u17))) else ((((impl_isKey.f (x0.Keys.getD u11.toNat 0)).bind fun y51 => (bif (!y51) then (some true) else (some (u17.contains (x0.Keys.getD u11.toNat 0))))) : Option (Bool)).bind fun u46 => (bif u46 then (some (.inr (.ret false))) else (some (.inl ((w64 (u11 + 1)), (if u17.contains (x0.Keys.getD u11.toNat 0) then u17 else u17 ++ [(x0.Keys.getD u11.toNat 0)]))))))) else none) else (some (.inr (.out ()))))
noncomputable def impl_EncOK.f (x0 : S_Enc) : Option (Bool) :=
  ((loopO (fun s => impl_EncOK.s0 x0 s.1 s.2) (0, ([] : List Int))).bind fun o => match o with | .out _ => (((bif ((x0.Keys.length : Int) == 11) then ((impl_OramOK.f x0.Oram).bind fun y67 => (some y67)) else (some false)) : Option (Bool)).bind fun u61 => (some u61)) | .ret r => (some r))
set_option maxRecDepth 100000 in
set_option maxHeartbeats 0 in
theorem impl_EncOK_t (w0 : World) (x0 : S_Enc) (A0_0 : Option Addr) (p0_0 : Nat) (k0_0 : Chunk) (v0_0 : View (Lay.int .i64) A0_0 p0_0 x0.Keys k0_0) (w0_0 : Has w0 k0_0) (A0_1 : Option Addr) (p0_1 : Nat) (k0_1 : Chunk) (v0_1 : View (Lay.int .i64) A0_1 p0_1 x0.Oram.Pos k0_1) (w0_1 : Has w0 k0_1) (A0_2 : Option Addr) (p0_2 : Nat) (k0_2 : Chunk) (v0_2 : View L_Block A0_2 p0_2 x0.Oram.Stash k0_2) (w0_2 : Has w0 k0_2) (A0_3 : Option Addr) (p0_3 : Nat) (k0_3 : Chunk) (v0_3 : View (Lay.sl L_Block 102) A0_3 p0_3 x0.Oram.Buckets k0_3) (w0_3 : Has w0 k0_3) (r : Bool) (H : impl_EncOK.f x0 = some r) :
    Calls Try.prog 98 #[.agg #[.slice A0_0 x0.Keys.length p0_0, .slice A0_1 x0.Oram.Pos.length p0_1, .slice A0_2 x0.Oram.Stash.length p0_2, .slice A0_3 x0.Oram.Buckets.length p0_3]] w0 (Ret (fun v w => v = .bool r ∧ Sat [] w0 w [] [])) := by
  have hs : Sat [] w0 w0 [(1, k0_0), (2, k0_1), (3, k0_2), (4, k0_3)] [] := Sat.init w0 [(1, k0_0), (2, k0_1), (3, k0_2), (4, k0_3)] [] (by simp only [List.mem_cons, List.not_mem_nil, or_false]; rintro x (rfl | rfl | rfl | rfl) <;> assumption) (by simp) List.nodup_nil (by simp [blks])
  unfold impl_EncOK.f at H
  refine enter Try.func98 rfl Try.ntmps98 rfl fun a hk => ?_
  apply wp_seq_k; intro K1 hK1
  apply wp_region_lit
  refine sbx 5 hs rfl hk rfl rfl rfl rfl fun b2 w a hk hs => ?_
  refine sa _ rfl hk rfl rfl rfl fun a hk => ?_
  show wpList _ _ _ [] _ _
  refine wpList_nil ?_
  refine hK1 _ _ ?_
  apply wp_seq_k; intro K3 hK3
  apply wp_region_lit
  refine smm 6 (t := 149) (L := Lay.int .i64) (E := 3) hs rfl hk rfl rfl fun b4 k5 w a hk o6 hs => ?_
  refine sa _ rfl hk rfl rfl rfl fun a hk => ?_
  show wpList _ _ _ [] _ _
  refine wpList_nil ?_
  refine hK3 _ _ ?_
  apply wp_seq_k; intro K7 hK7
  apply wp_seq_k; intro K8 hK8
  apply wp_region_lit
  refine sf ⟨b2, 0, none⟩ rfl hk rfl rfl rfl fd54_0 rfl fun a hk => ?_
  refine sl rfl hk rfl rfl rfl ag22 (box_cell hs (k := 5) rfl rfl) fun a hk => ?_
  refine sle rfl hk rfl rfl rfl un22 fun a hk => ?_
  refine sm _ rfl hk rfl rfl rfl fun a hk => ?_
  show wpList _ _ _ [] _ _
  refine wpList_nil ?_
  refine hK8 _ _ ?_
  obtain ⟨o22, h23, HL24⟩ := bind_some H
  clear H
  obtain ⟨R25, hR25⟩ : ∃ R : Act → World → Prop, R = fun a w => o22 = .out () ∧ Kn [(1, (.pointer (some ⟨b2, 0, none⟩)))] 36 a ∧ Sat [] w0 w [(1, k0_0), (2, k0_1), (3, k0_2), (4, k0_3)] [(5, [(b2, .cells #[.slice A0_0 x0.Keys.length p0_0, .slice A0_1 x0.Oram.Pos.length p0_1, .slice A0_2 x0.Oram.Stash.length p0_2, .slice A0_3 x0.Oram.Buckets.length p0_3] 54 (0, 0))])] := ⟨_, rfl⟩
  refine wp_cutq R25 ?_ ?_
  · refine wp_block ?_
    obtain ⟨fu27, h23⟩ := loopO_some h23
    obtain ⟨I26, hI26⟩ : ∃ I : Nat → Act → World → Prop, I = fun fu a w => ∃ (u11 : Int) (u17 : List Int) (A20 : Option Addr) (p21 : Nat) (k18 : Chunk), loopN (fun s => impl_EncOK.s0 x0 s.1 s.2) fu (u11, u17) = some o22 ∧ Kn [(1, (.pointer (some ⟨b2, 0, none⟩))), (3, (.map (mref A20))), (8, (.slice A0_0 x0.Keys.length p0_0)), (9, (.int .i64 (x0.Keys.length : Int))), (10, (.int .i64 u11))] 36 a ∧ Sat [] w0 w [(1, k0_0), (2, k0_1), (3, k0_2), (4, k0_3)] [(6, k18), (5, [(b2, .cells #[.slice A0_0 x0.Keys.length p0_0, .slice A0_1 x0.Oram.Pos.length p0_1, .slice A0_2 x0.Oram.Stash.length p0_2, .slice A0_3 x0.Oram.Buckets.length p0_3] 54 (0, 0))])] ∧ OwnK (Lay.int .i64) 3 A20 p21 u17 k18 := ⟨_, rfl⟩
    refine wp_loop_ghost I26 fu27 ?_ ?_
    · rw [hI26]
      exact ⟨0, ([] : List Int), (some ⟨b4, 0, none⟩), 0, _, h23, (hk.c 1 rfl (hk.c 3 rfl (hk.c 8 rfl (hk.c 9 rfl (hk.c 10 rfl hk.k))))), (hs.pick [(6, 6), (5, 5)] rfl), o6⟩
    · clear h23 hk hs
      intro fu27 a w hI0
      rw [hI26] at hI0
      obtain ⟨u11, u17, A20, p21, k18, hi, hk, hs, o19⟩ := hI0
      obtain ⟨x28, H, h29⟩ := loop_round hi
      try dsimp only at H
      unfold impl_EncOK.s0 at H
      apply wp_seq_k; intro K30 hK30
      apply wp_region_lit
      refine sv (.bool (decide (u11 < (x0.Keys.length : Int)))) hk rfl rfl rfl fun a hk => ?_
      show wpList _ _ _ [] _ _
      refine wpList_nil ?_
      refine hK30 _ _ ?_
      apply wp_seq_k; intro K31 hK31
      rcases cond_some H with ⟨c32, H⟩ | ⟨c32, H⟩
      · have hk := hk.lit 11 c32 rfl
        refine cnd_true hk rfl rfl ?_
        refine wp_skip ?_
        refine hK31 _ _ ?_
        apply wp_seq_k; intro K33 hK33
        refine wp_block ?_
        apply wp_seq_k; intro K34 hK34
        apply wp_region_lit
        rcases ite_some H with ⟨c35, H⟩ | ⟨_, H⟩
        rotate_left
        · cases H
        obtain ⟨b36, q37, hAc35⟩ := (v0_0).some_ u11 c35.1 c35.2
        refine si rfl hk rfl rfl rfl rfl un22 sz3 c35.1 c35.2 hAc35 fun a hk => ?_
        obtain ⟨_, rfl, e38⟩ := (v0_0).at_ 0 u11 c35.1 c35.2
        refine sl (v := (.int .i64 (x0.Keys.getD u11.toNat 0))) rfl hk rfl rfl rfl ag3 ((e38 0 _ rfl).cell (hs.hasD (k := 1) rfl)) fun a hk => ?_
        refine sa _ rfl hk rfl rfl rfl fun a hk => ?_
        show wpList _ _ _ [] _ _
        refine wpList_nil ?_
        refine hK34 _ _ ?_
        apply wp_seq_k; intro K39 hK39
        apply wp_seq_k; intro K40 hK40
        apply wp_region_lit
        refine sm _ rfl hk rfl rfl rfl fun a hk => ?_
        refine sv (.bool ((x0.Keys.getD u11.toNat 0) == 0)) hk rfl rfl rfl fun a hk => ?_
        show wpList _ _ _ [] _ _
        refine wpList_nil ?_
        refine hK40 _ _ ?_
        rcases cond_some H with ⟨c41, H⟩ | ⟨c41, H⟩
        · have hk := hk.lit 15 c41 rfl
          refine cnd_true hk rfl rfl ?_
          refine wp_exit ?_
          refine hK33 _ _ ?_
          apply wp_region_lit
          refine sv (.int .i64 (w64 (u11 + 1))) hk rfl rfl rfl fun a hk => ?_
          refine sm _ rfl hk rfl rfl rfl fun a hk => ?_
          show wpList _ _ _ [] _ _
          refine wpList_nil ?_
          obtain rfl := Option.some.inj H
          obtain ⟨m42, hmm42, h29⟩ := h29
          show ∃ n', n' < _ ∧ I26 n' _ _
          refine ⟨m42, hmm42, ?_⟩
          rw [hI26]
          exact ⟨(w64 (u11 + 1)), u17, A20, p21, _, h29, (hk.c 1 rfl (hk.c 3 rfl (hk.c 8 rfl (hk.c 9 rfl (hk.c 10 rfl hk.k))))), (hs.pick [(6, 6), (5, 5)] rfl), o19⟩
        · have hk := hk.lit 15 c41 rfl
          refine cnd_false hk rfl rfl ?_
          refine wp_skip ?_
          refine hK39 _ _ ?_
          apply wp_seq_k; intro K43 hK43
          apply wp_seq_k; intro K44 hK44
          obtain ⟨o47, h48, HL49⟩ := bind_some H
          clear H
          obtain ⟨R50, hR50⟩ : ∃ R : Act → World → Prop, R = fun a w => ∃ (u46 : Bool), u46 = o47 ∧ Kn [(1, (.pointer (some ⟨b2, 0, none⟩))), (3, (.map (mref A20))), (5, (.int .i64 (x0.Keys.getD u11.toNat 0))), (8, (.slice A0_0 x0.Keys.length p0_0)), (9, (.int .i64 (x0.Keys.length : Int))), (10, (.int .i64 u11)), (23, (.bool u46))] 36 a ∧ Sat [] w0 w [(1, k0_0), (2, k0_1), (3, k0_2), (4, k0_3)] [(6, k18), (5, [(b2, .cells #[.slice A0_0 x0.Keys.length p0_0, .slice A0_1 x0.Oram.Pos.length p0_1, .slice A0_2 x0.Oram.Stash.length p0_2, .slice A0_3 x0.Oram.Buckets.length p0_3] 54 (0, 0))])] := ⟨_, rfl⟩
          refine wp_cutq R50 ?_ ?_
          · have H := h48
            apply wp_region_lit
            refine sm _ rfl hk rfl rfl rfl fun a hk => ?_
            obtain ⟨y51, h52, H⟩ := bind_some H
            refine sc rfl en150 hk rfl rfl rfl (impl_isKey_t _ (x0.Keys.getD u11.toNat 0) _ h52) ?_
            rintro _ w ⟨rfl, hG⟩ a hk
            have hs := hs.call0 hG
            refine sv (.bool (!y51)) hk rfl rfl rfl fun a hk => ?_
            refine sm _ rfl hk rfl rfl rfl fun a hk => ?_
            rcases cond_some H with ⟨c53, H⟩ | ⟨c53, H⟩
            · have hk := hk.lit 19 c53 rfl
              refine sk hk rfl rfl rfl fun a hk => ?_
              refine sk hk rfl rfl rfl fun a hk => ?_
              refine sk hk rfl rfl rfl fun a hk => ?_
              refine sv (.bool true) hk rfl rfl rfl fun a hk => ?_
              show wpList _ _ _ [] _ _
              refine wpList_nil ?_
              obtain rfl := Option.some.inj H
              show R50 _ _
              rw [hR50]
              exact ⟨true, rfl, (hk.c 1 rfl (hk.c 3 rfl (hk.c 5 rfl (hk.c 8 rfl (hk.c 9 rfl (hk.c 10 rfl (hk.c 23 rfl hk.k))))))), (hs.pick [(6, 6), (5, 5)] rfl)⟩
            · have hk := hk.lit 19 c53 rfl
              refine sm _ rfl hk rfl rfl rfl fun a hk => ?_
              refine sm _ rfl hk rfl rfl rfl fun a hk => ?_
              refine slk 6 (xs := u17) hs rfl o19 rfl hk rfl rfl rfl rfl un149 un3 ze4 fun a hk => ?_
              refine sv (.bool (u17.contains (x0.Keys.getD u11.toNat 0))) hk rfl rfl rfl fun a hk => ?_
              show wpList _ _ _ [] _ _
              refine wpList_nil ?_
              obtain rfl := Option.some.inj H
              show R50 _ _
              rw [hR50]
              exact ⟨(u17.contains (x0.Keys.getD u11.toNat 0)), rfl, (hk.c 1 rfl (hk.c 3 rfl (hk.c 5 rfl (hk.c 8 rfl (hk.c 9 rfl (hk.c 10 rfl (hk.c 23 rfl hk.k))))))), (hs.pick [(6, 6), (5, 5)] rfl)⟩
          · intro a w hR0
            rw [hR50] at hR0
            obtain ⟨u46, rfl, hk, hs⟩ := hR0
            have H := HL49
            try dsimp only at H
            refine hK44 _ _ ?_
            rcases cond_some H with ⟨c54, H⟩ | ⟨c54, H⟩
            · have hk := hk.lit 23 c54 rfl
              refine cnd_true hk rfl rfl ?_
              apply wp_seq_k; intro K55 hK55
              apply wp_region_lit
              refine sa _ rfl hk rfl rfl rfl fun a hk => ?_
              show wpList _ _ _ [] _ _
              refine wpList_nil ?_
              refine hK55 _ _ ?_
              refine wp_ret ?_
              obtain rfl := Option.some.inj H
              have ho22 := h29
              try dsimp only at ho22
              subst ho22
              have H := HL24
              try dsimp only at H
              obtain rfl := Option.some.inj H
              exact fin hk _ [(.bool false)] rfl ⟨rfl, trivial⟩ ⟨rfl, (hs.pick [] rfl).dnil⟩
            · have hk := hk.lit 23 c54 rfl
              refine cnd_false hk rfl rfl ?_
              refine wp_skip ?_
              refine hK43 _ _ ?_
              apply wp_region_lit
              refine sm _ rfl hk rfl rfl rfl fun a hk => ?_
              refine sm _ rfl hk rfl rfl rfl fun a hk => ?_
              refine smu 6 (xs := u17) hs rfl o19 rfl hk rfl rfl rfl rfl rfl un149 un3 fun k56 w a hk o57 hs => ?_
              show wpList _ _ _ [] _ _
              refine wpList_nil ?_
              refine hK33 _ _ ?_
              apply wp_region_lit
              refine sv (.int .i64 (w64 (u11 + 1))) hk rfl rfl rfl fun a hk => ?_
              refine sm _ rfl hk rfl rfl rfl fun a hk => ?_
              show wpList _ _ _ [] _ _
              refine wpList_nil ?_
              obtain rfl := Option.some.inj H
              obtain ⟨m58, hmm58, h29⟩ := h29
              show ∃ n', n' < _ ∧ I26 n' _ _
              refine ⟨m58, hmm58, ?_⟩
              rw [hI26]
              exact ⟨(w64 (u11 + 1)), (if u17.contains (x0.Keys.getD u11.toNat 0) then u17 else u17 ++ [(x0.Keys.getD u11.toNat 0)]), A20, p21, _, h29, (hk.c 1 rfl (hk.c 3 rfl (hk.c 8 rfl (hk.c 9 rfl (hk.c 10 rfl hk.k))))), (hs.pick [(6, 6), (5, 5)] rfl), o57⟩
      · have hk := hk.lit 11 c32 rfl
        refine cnd_false hk rfl rfl ?_
        refine wp_exit ?_
        obtain rfl := Option.some.inj H
        show R25 _ _
        rw [hR25]
        exact ⟨h29.symm, (hk.c 1 rfl hk.k), (hs.pick [(5, 5)] rfl)⟩
  · intro a w hR0
    rw [hR25] at hR0
    obtain ⟨rfl, hk, hs⟩ := hR0
    have H := HL24
    try dsimp only at H
    refine hK7 _ _ ?_
    apply wp_seq_k; intro K59 hK59
    obtain ⟨o62, h63, HL64⟩ := bind_some H
    clear H
    obtain ⟨R65, hR65⟩ : ∃ R : Act → World → Prop, R = fun a w => ∃ (u61 : Bool), u61 = o62 ∧ Kn [(2, (.bool u61))] 36 a ∧ Sat [] w0 w [(1, k0_0), (2, k0_1), (3, k0_2), (4, k0_3)] [] := ⟨_, rfl⟩
    refine wp_cutq R65 ?_ ?_
    · have H := h63
      apply wp_region_lit
      refine sf ⟨b2, 0, none⟩ rfl hk rfl rfl rfl fd54_0 rfl fun a hk => ?_
      refine sl rfl hk rfl rfl rfl ag22 (box_cell hs (k := 5) rfl rfl) fun a hk => ?_
      refine sle rfl hk rfl rfl rfl un22 fun a hk => ?_
      refine sv (.bool ((x0.Keys.length : Int) == 11)) hk rfl rfl rfl fun a hk => ?_
      refine sm _ rfl hk rfl rfl rfl fun a hk => ?_
      rcases cond_some H with ⟨c66, H⟩ | ⟨c66, H⟩
      · have hk := hk.lit 31 c66 rfl
        refine sf ⟨b2, 1, none⟩ rfl hk rfl rfl rfl fd54_1 rfl fun a hk => ?_
        refine sln [.slice A0_1 x0.Oram.Pos.length p0_1, .slice A0_2 x0.Oram.Stash.length p0_2, .slice A0_3 x0.Oram.Buckets.length p0_3] rfl hk rfl rfl rfl ag31 sz31 (box_part hs (k := 5) rfl rfl) fun a hk => ?_
        obtain ⟨y67, h68, H⟩ := bind_some H
        refine sc rfl en19 hk rfl rfl rfl (impl_OramOK_t _ x0.Oram A0_1 p0_1 _ v0_1 (hs.hasD (k := 2) rfl) A0_2 p0_2 _ v0_2 (hs.hasD (k := 3) rfl) A0_3 p0_3 _ v0_3 (hs.hasD (k := 4) rfl) _ h68) ?_
        rintro _ w ⟨rfl, hG⟩ a hk
        have hs := hs.call0 hG
        refine sv (.bool y67) hk rfl rfl rfl fun a hk => ?_
        refine sa _ rfl hk rfl rfl rfl fun a hk => ?_
        show wpList _ _ _ [] _ _
        refine wpList_nil ?_
        obtain rfl := Option.some.inj H
        show R65 _ _
        rw [hR65]
        exact ⟨y67, rfl, (hk.c 2 rfl hk.k), (hs.pick [] rfl)⟩
      · have hk := hk.lit 31 c66 rfl
        refine sk hk rfl rfl rfl fun a hk => ?_
        refine sk hk rfl rfl rfl fun a hk => ?_
        refine sk hk rfl rfl rfl fun a hk => ?_
        refine sv (.bool false) hk rfl rfl rfl fun a hk => ?_
        refine sa _ rfl hk rfl rfl rfl fun a hk => ?_
        show wpList _ _ _ [] _ _
        refine wpList_nil ?_
        obtain rfl := Option.some.inj H
        show R65 _ _
        rw [hR65]
        exact ⟨false, rfl, (hk.c 2 rfl hk.k), (hs.pick [] rfl)⟩
    · intro a w hR0
      rw [hR65] at hR0
      obtain ⟨u61, rfl, hk, hs⟩ := hR0
      have H := HL64
      try dsimp only at H
      refine hK59 _ _ ?_
      refine wp_ret ?_
      obtain rfl := Option.some.inj H
      exact fin hk _ [(.bool u61)] rfl ⟨rfl, trivial⟩ ⟨rfl, (hs.pick [] rfl).dnil⟩

noncomputable def impl_Oram_valueAt.s0 (x1 : Int) (y5 : (List S_Block)) (u13 : Int) : Option ((Int) ⊕ Ex (Unit) (Int)) :=
  (bif (decide (u13 < (y5.length : Int))) then (if 0 ≤ u13 ∧ u13 < (y5.length : Int) then (bif (((y5.getD u13.toNat z_Block).Id) == x1) then (some (.inr (.ret ((y5.getD u13.toNat z_Block).Value)))) else (some (.inl (w64 (u13 + 1))))) else none) else (some (.inr (.out ()))))
noncomputable def impl_Oram_valueAt.f (x0 : S_Oram) (x1 : Int) : Option (Int) :=
  ((impl_Oram_all.f x0).bind fun y5 => ((loopO (fun s => impl_Oram_valueAt.s0 x1 y5 s) 0).bind fun o => match o with | .out _ => (some 0) | .ret r => (some r)))
set_option maxRecDepth 100000 in
set_option maxHeartbeats 0 in
theorem impl_Oram_valueAt_t (w0 : World) (x0 : S_Oram) (A0_0 : Option Addr) (p0_0 : Nat) (k0_0 : Chunk) (v0_0 : View (Lay.int .i64) A0_0 p0_0 x0.Pos k0_0) (w0_0 : Has w0 k0_0) (A0_1 : Option Addr) (p0_1 : Nat) (k0_1 : Chunk) (v0_1 : View L_Block A0_1 p0_1 x0.Stash k0_1) (w0_1 : Has w0 k0_1) (A0_2 : Option Addr) (p0_2 : Nat) (k0_2 : Chunk) (v0_2 : View (Lay.sl L_Block 102) A0_2 p0_2 x0.Buckets k0_2) (w0_2 : Has w0 k0_2) (x1 : Int) (r : Int) (H : impl_Oram_valueAt.f x0 x1 = some r) :
    Calls Try.prog 87 #[.agg #[.slice A0_0 x0.Pos.length p0_0, .slice A0_1 x0.Stash.length p0_1, .slice A0_2 x0.Buckets.length p0_2], .int .i64 x1] w0 (Ret (fun v w => v = .int .i64 r ∧ Sat [] w0 w [] [])) := by
  have hs : Sat [] w0 w0 [(1, k0_0), (2, k0_1), (3, k0_2)] [] := Sat.init w0 [(1, k0_0), (2, k0_1), (3, k0_2)] [] (by simp only [List.mem_cons, List.not_mem_nil, or_false]; rintro x (rfl | rfl | rfl) <;> assumption) (by simp) List.nodup_nil (by simp [blks])
  unfold impl_Oram_valueAt.f at H
  refine enter Try.func87 rfl Try.ntmps87 rfl fun a hk => ?_
  apply wp_seq_k; intro K1 hK1
  apply wp_region_lit
  refine sbx 4 hs rfl hk rfl rfl rfl rfl fun b2 w a hk hs => ?_
  refine sa _ rfl hk rfl rfl rfl fun a hk => ?_
  show wpList _ _ _ [] _ _
  refine wpList_nil ?_
  refine hK1 _ _ ?_
  apply wp_seq_k; intro K3 hK3
  apply wp_seq_k; intro K4 hK4
  apply wp_region_lit
  refine sln [.slice A0_0 x0.Pos.length p0_0, .slice A0_1 x0.Stash.length p0_1, .slice A0_2 x0.Buckets.length p0_2] rfl hk rfl rfl rfl ag31 sz31 (box_cells hs (k := 4) rfl) fun a hk => ?_
  obtain ⟨y5, h6, H⟩ := bind_some H
  refine sc rfl en84 hk rfl rfl rfl (impl_Oram_all_t _ x0 A0_0 p0_0 _ v0_0 (hs.hasD (k := 1) rfl) A0_1 p0_1 _ v0_1 (hs.hasD (k := 2) rfl) A0_2 p0_2 _ v0_2 (hs.hasD (k := 3) rfl) _ h6) ?_
  rintro _ w ⟨A7, p8, k9, rfl, o10, hG⟩ a hk
  have hs := hs.call0k hG [5] rfl
  refine sle rfl hk rfl rfl rfl un28 fun a hk => ?_
  refine sm _ rfl hk rfl rfl rfl fun a hk => ?_
  show wpList _ _ _ [] _ _
  refine wpList_nil ?_
  refine hK4 _ _ ?_
  obtain ⟨o14, h15, HL16⟩ := bind_some H
  clear H
  obtain ⟨R17, hR17⟩ : ∃ R : Act → World → Prop, R = fun a w => o14 = .out () ∧ Kn [] 21 a ∧ Sat [] w0 w [(1, k0_0), (2, k0_1), (3, k0_2)] [] := ⟨_, rfl⟩
  refine wp_cutq R17 ?_ ?_
  · refine wp_block ?_
    obtain ⟨fu19, h15⟩ := loopO_some h15
    obtain ⟨I18, hI18⟩ : ∃ I : Nat → Act → World → Prop, I = fun fu a w => ∃ (u13 : Int), loopN (fun s => impl_Oram_valueAt.s0 x1 y5 s) fu u13 = some o14 ∧ Kn [(1, (.int .i64 x1)), (8, (.slice A7 y5.length p8)), (9, (.int .i64 (y5.length : Int))), (10, (.int .i64 u13))] 21 a ∧ Sat [] w0 w [(1, k0_0), (2, k0_1), (3, k0_2)] [(5, k9)] := ⟨_, rfl⟩
    refine wp_loop_ghost I18 fu19 ?_ ?_
    · rw [hI18]
      exact ⟨0, h15, (hk.c 1 rfl (hk.c 8 rfl (hk.c 9 rfl (hk.c 10 rfl hk.k)))), (hs.pick [(5, 5)] rfl)⟩
    · clear h15 hk hs
      intro fu19 a w hI0
      rw [hI18] at hI0
      obtain ⟨u13, hi, hk, hs⟩ := hI0
      obtain ⟨x20, H, h21⟩ := loop_round hi
      try dsimp only at H
      unfold impl_Oram_valueAt.s0 at H
      apply wp_seq_k; intro K22 hK22
      apply wp_region_lit
      refine sv (.bool (decide (u13 < (y5.length : Int)))) hk rfl rfl rfl fun a hk => ?_
      show wpList _ _ _ [] _ _
      refine wpList_nil ?_
      refine hK22 _ _ ?_
      apply wp_seq_k; intro K23 hK23
      rcases cond_some H with ⟨c24, H⟩ | ⟨c24, H⟩
      · have hk := hk.lit 11 c24 rfl
        refine cnd_true hk rfl rfl ?_
        refine wp_skip ?_
        refine hK23 _ _ ?_
        apply wp_seq_k; intro K25 hK25
        refine wp_block ?_
        apply wp_seq_k; intro K26 hK26
        apply wp_region_lit
        rcases ite_some H with ⟨c27, H⟩ | ⟨_, H⟩
        rotate_left
        · cases H
        obtain ⟨b28, q29, hAc27⟩ := (o10.view).some_ u13 c27.1 c27.2
        refine si rfl hk rfl rfl rfl rfl un28 sz102 c27.1 c27.2 hAc27 fun a hk => ?_
        obtain ⟨_, rfl, e30⟩ := (o10.view).at_ z_Block u13 c27.1 c27.2
        refine sln [.int .i64 ((y5.getD u13.toNat z_Block).Id), .int .i64 ((y5.getD u13.toNat z_Block).Leaf), .int .i64 ((y5.getD u13.toNat z_Block).Value)] rfl hk rfl rfl rfl ag102 sz102 (cells_at e30 (hs.hasG (k := 5) rfl)) fun a hk => ?_
        refine salx 7 hs rfl hk rfl rfl ze102 rfl fun b31 w a hk hs => ?_
        refine ssw 7 hs rfl rfl hk rfl rfl rfl rfl sz102 (by simp [Value.oneCell']) rfl fun w a hk hs => ?_
        show wpList _ _ _ [] _ _
        refine wpList_nil ?_
        refine hK26 _ _ ?_
        apply wp_seq_k; intro K32 hK32
        apply wp_region_lit
        refine sf ⟨b31, 0, none⟩ rfl hk rfl rfl rfl fd102_0 rfl fun a hk => ?_
        refine sl rfl hk rfl rfl rfl ag3 (box_cell hs (k := 7) rfl rfl) fun a hk => ?_
        refine sm _ rfl hk rfl rfl rfl fun a hk => ?_
        refine sv (.bool (((y5.getD u13.toNat z_Block).Id) == x1)) hk rfl rfl rfl fun a hk => ?_
        show wpList _ _ _ [] _ _
        refine wpList_nil ?_
        refine hK32 _ _ ?_
        rcases cond_some H with ⟨c33, H⟩ | ⟨c33, H⟩
        · have hk := hk.lit 17 c33 rfl
          refine cnd_true hk rfl rfl ?_
          apply wp_seq_k; intro K34 hK34
          apply wp_region_lit
          refine sf ⟨b31, 2, none⟩ rfl hk rfl rfl rfl fd102_2 rfl fun a hk => ?_
          refine sl rfl hk rfl rfl rfl ag3 (box_cell hs (k := 7) rfl rfl) fun a hk => ?_
          refine sa _ rfl hk rfl rfl rfl fun a hk => ?_
          show wpList _ _ _ [] _ _
          refine wpList_nil ?_
          refine hK34 _ _ ?_
          refine wp_ret ?_
          obtain rfl := Option.some.inj H
          have ho14 := h21
          try dsimp only at ho14
          subst ho14
          have H := HL16
          try dsimp only at H
          obtain rfl := Option.some.inj H
          exact fin hk _ [(.int .i64 ((y5.getD u13.toNat z_Block).Value))] rfl ⟨rfl, trivial⟩ ⟨rfl, (hs.pick [] rfl).dnil⟩
        · have hk := hk.lit 17 c33 rfl
          refine cnd_false hk rfl rfl ?_
          refine wp_skip ?_
          refine hK25 _ _ ?_
          apply wp_region_lit
          refine sv (.int .i64 (w64 (u13 + 1))) hk rfl rfl rfl fun a hk => ?_
          refine sm _ rfl hk rfl rfl rfl fun a hk => ?_
          show wpList _ _ _ [] _ _
          refine wpList_nil ?_
          obtain rfl := Option.some.inj H
          obtain ⟨m35, hmm35, h21⟩ := h21
          show ∃ n', n' < _ ∧ I18 n' _ _
          refine ⟨m35, hmm35, ?_⟩
          rw [hI18]
          exact ⟨(w64 (u13 + 1)), h21, (hk.c 1 rfl (hk.c 8 rfl (hk.c 9 rfl (hk.c 10 rfl hk.k)))), (hs.pick [(5, 5)] rfl)⟩
      · have hk := hk.lit 11 c24 rfl
        refine cnd_false hk rfl rfl ?_
        refine wp_exit ?_
        obtain rfl := Option.some.inj H
        show R17 _ _
        rw [hR17]
        exact ⟨h21.symm, hk.k, (hs.pick [] rfl)⟩
  · intro a w hR0
    rw [hR17] at hR0
    obtain ⟨rfl, hk, hs⟩ := hR0
    have H := HL16
    try dsimp only at H
    refine hK3 _ _ ?_
    apply wp_seq_k; intro K36 hK36
    apply wp_region_lit
    refine sa _ rfl hk rfl rfl rfl fun a hk => ?_
    show wpList _ _ _ [] _ _
    refine wpList_nil ?_
    refine hK36 _ _ ?_
    refine wp_ret ?_
    obtain rfl := Option.some.inj H
    exact fin hk _ [(.int .i64 0)] rfl ⟨rfl, trivial⟩ ⟨rfl, (hs.pick [] rfl).dnil⟩

noncomputable def slices_BinarySearchFunc_impl_Entry_impl_Entry_int.s0 (l0 : List S_Entry) (x1 : Int) (q2 : S_Entry → Int → Option (Int)) (u7 : Int) (u8 : Int) : Option ((Int × Int) ⊕ Ex (Int) (Int × Bool)) :=
  (bif (decide (u7 < u8)) then (if 0 ≤ (IntKind.wrap .i64 (Int.fdiv (IntKind.wrap .u64 (w64 (u7 + u8))) (2 ^ 1))) ∧ (IntKind.wrap .i64 (Int.fdiv (IntKind.wrap .u64 (w64 (u7 + u8))) (2 ^ 1))) < (l0.length : Int) then ((q2 (l0.getD (IntKind.wrap .i64 (Int.fdiv (IntKind.wrap .u64 (w64 (u7 + u8))) (2 ^ 1))).toNat z_Entry) x1).bind fun y27 => (((bif (decide (y27 < 0)) then (some ((w64 ((IntKind.wrap .i64 (Int.fdiv (IntKind.wrap .u64 (w64 (u7 + u8))) (2 ^ 1))) + 1)), u8)) else (some (u7, (IntKind.wrap .i64 (Int.fdiv (IntKind.wrap .u64 (w64 (u7 + u8))) (2 ^ 1)))))) : Option (Int × Int)).bind fun o => match o with | (u30, u31) => (some (.inl (u30, u31))))) else none) else (some (.inr (.out u7))))
noncomputable def slices_BinarySearchFunc_impl_Entry_impl_Entry_int.f (l0 : List S_Entry) (x1 : Int) (q2 : S_Entry → Int → Option (Int)) : Option (Int × Bool) :=
  ((loopO (fun s => slices_BinarySearchFunc_impl_Entry_impl_Entry_int.s0 l0 x1 q2 s.1 s.2) (0, (l0.length : Int))).bind fun o => match o with | .out u9 => (((bif (decide (u9 < (l0.length : Int))) then (if 0 ≤ u9 ∧ u9 < (l0.length : Int) then ((q2 (l0.getD u9.toNat z_Entry) x1).bind fun y51 => (some (u9, (y51 == 0)))) else none) else (some (u9, false))) : Option (Int × Bool)).bind fun o => match o with | (u40, u41) => (some (u40, u41))) | .ret r => (some r))
set_option maxRecDepth 100000 in
set_option maxHeartbeats 0 in
theorem slices_BinarySearchFunc_impl_Entry_impl_Entry_int_t (w0 : World) (A0_ : Option Addr) (p0_ : Nat) (l0 : List S_Entry) (k0_ : Chunk) (v0_ : View L_Entry A0_ p0_ l0 k0_) (w0_ : Has w0 k0_) (x1 : Int) (f2_ : FuncId) (c2_ : List Value) (e2_ : Enters Try.prog f2_) (q2 : S_Entry → Int → Option (Int)) (k2_ : Chunk) (t2_ : ∀ w, Has w k2_ → ∀ (z0 : S_Entry) (z1 : Int) (r : Int), q2 z0 z1 = some r → Calls Try.prog f2_ (([.agg #[.int .i64 z0.Key, .int .i64 z0.Value], .int .i64 z1] : List Value) ++ c2_).toArray w (Ret (fun v w2 => v = .int .i64 r ∧ Sat [] w w2 [] []))) (w2_ : Has w0 k2_) (r : Int × Bool) (H : slices_BinarySearchFunc_impl_Entry_impl_Entry_int.f l0 x1 q2 = some r) :
    Calls Try.prog 184 #[.slice A0_ l0.length p0_, .int .i64 x1, .func (.func f2_) #[] c2_.toArray] w0 (Ret (fun v w => v = .tuple #[.int .i64 r.1, .bool r.2] ∧ Sat [] w0 w [] [])) := by
  have hs : Sat [] w0 w0 [(1, k0_), (2, k2_)] [] := Sat.init w0 [(1, k0_), (2, k2_)] [] (by simp only [List.mem_cons, List.not_mem_nil, or_false]; rintro x (rfl | rfl) <;> assumption) (by simp) List.nodup_nil (by simp [blks])
  unfold slices_BinarySearchFunc_impl_Entry_impl_Entry_int.f at H
  refine enter Try.func184 rfl Try.ntmps184 rfl fun a hk => ?_
  apply wp_seq_k; intro K1 hK1
  apply wp_region_lit
  refine sa _ rfl hk rfl rfl rfl fun a hk => ?_
  refine sa _ rfl hk rfl rfl rfl fun a hk => ?_
  show wpList _ _ _ [] _ _
  refine wpList_nil ?_
  refine hK1 _ _ ?_
  apply wp_seq_k; intro K2 hK2
  apply wp_region_lit
  refine sm _ rfl hk rfl rfl rfl fun a hk => ?_
  refine sle rfl hk rfl rfl rfl un50 fun a hk => ?_
  refine sa _ rfl hk rfl rfl rfl fun a hk => ?_
  show wpList _ _ _ [] _ _
  refine wpList_nil ?_
  refine hK2 _ _ ?_
  apply wp_seq_k; intro K3 hK3
  apply wp_region_lit
  refine sm _ rfl hk rfl rfl rfl fun a hk => ?_
  refine sa _ rfl hk rfl rfl rfl fun a hk => ?_
  refine sa _ rfl hk rfl rfl rfl fun a hk => ?_
  show wpList _ _ _ [] _ _
  refine wpList_nil ?_
  refine hK3 _ _ ?_
  apply wp_seq_k; intro K4 hK4
  obtain ⟨o10, h11, HL12⟩ := bind_some H
  clear H
  obtain ⟨R13, hR13⟩ : ∃ R : Act → World → Prop, R = fun a w => ∃ (u9 : Int), o10 = .out u9 ∧ Kn [(0, (.slice A0_ l0.length p0_)), (1, (.int .i64 x1)), (2, (.func (.func f2_) #[] c2_.toArray)), (8, (.int .i64 (l0.length : Int))), (9, (.int .i64 u9))] 49 a ∧ Sat [] w0 w [(1, k0_), (2, k2_)] [] := ⟨_, rfl⟩
  refine wp_cutq R13 ?_ ?_
  · refine wp_block ?_
    obtain ⟨fu15, h11⟩ := loopO_some h11
    obtain ⟨I14, hI14⟩ : ∃ I : Nat → Act → World → Prop, I = fun fu a w => ∃ (u7 : Int) (u8 : Int), loopN (fun s => slices_BinarySearchFunc_impl_Entry_impl_Entry_int.s0 l0 x1 q2 s.1 s.2) fu (u7, u8) = some o10 ∧ Kn [(0, (.slice A0_ l0.length p0_)), (1, (.int .i64 x1)), (2, (.func (.func f2_) #[] c2_.toArray)), (8, (.int .i64 (l0.length : Int))), (9, (.int .i64 u7)), (10, (.int .i64 u8))] 49 a ∧ Sat [] w0 w [(1, k0_), (2, k2_)] [] := ⟨_, rfl⟩
    refine wp_loop_ghost I14 fu15 ?_ ?_
    · rw [hI14]
      exact ⟨0, (l0.length : Int), h11, (hk.c 0 rfl (hk.c 1 rfl (hk.c 2 rfl (hk.c 8 rfl (hk.c 9 rfl (hk.c 10 rfl hk.k)))))), (hs.pick [] rfl)⟩
    · clear h11 hk hs
      intro fu15 a w hI0
      rw [hI14] at hI0
      obtain ⟨u7, u8, hi, hk, hs⟩ := hI0
      obtain ⟨x16, H, h17⟩ := loop_round hi
      try dsimp only at H
      unfold slices_BinarySearchFunc_impl_Entry_impl_Entry_int.s0 at H
      apply wp_seq_k; intro K18 hK18
      apply wp_seq_k; intro K19 hK19
      apply wp_region_lit
      refine sm _ rfl hk rfl rfl rfl fun a hk => ?_
      refine sm _ rfl hk rfl rfl rfl fun a hk => ?_
      refine sv (.bool (decide (u7 < u8))) hk rfl rfl rfl fun a hk => ?_
      show wpList _ _ _ [] _ _
      refine wpList_nil ?_
      refine hK19 _ _ ?_
      rcases cond_some H with ⟨c20, H⟩ | ⟨c20, H⟩
      · have hk := hk.lit 17 c20 rfl
        refine cnd_true hk rfl rfl ?_
        refine wp_skip ?_
        refine hK18 _ _ ?_
        refine wp_block ?_
        apply wp_seq_k; intro K21 hK21
        apply wp_region_lit
        refine sm _ rfl hk rfl rfl rfl fun a hk => ?_
        refine sm _ rfl hk rfl rfl rfl fun a hk => ?_
        refine sv (.int .i64 (w64 (u7 + u8))) hk rfl rfl rfl fun a hk => ?_
        refine scn rfl hk rfl rfl rfl un180 un3 fun a hk => ?_
        refine sv (.int .u64 (Int.fdiv (IntKind.wrap .u64 (w64 (u7 + u8))) (2 ^ 1))) hk rfl rfl rfl fun a hk => ?_
        refine scn rfl hk rfl rfl rfl un3 un180 fun a hk => ?_
        refine sa _ rfl hk rfl rfl rfl fun a hk => ?_
        show wpList _ _ _ [] _ _
        refine wpList_nil ?_
        refine hK21 _ _ ?_
        apply wp_seq_k; intro K22 hK22
        apply wp_region_lit
        refine sm _ rfl hk rfl rfl rfl fun a hk => ?_
        refine sm _ rfl hk rfl rfl rfl fun a hk => ?_
        refine sm _ rfl hk rfl rfl rfl fun a hk => ?_
        rcases ite_some H with ⟨c23, H⟩ | ⟨_, H⟩
        rotate_left
        · cases H
        obtain ⟨b24, q25, hAc23⟩ := (v0_).some_ (IntKind.wrap .i64 (Int.fdiv (IntKind.wrap .u64 (w64 (u7 + u8))) (2 ^ 1))) c23.1 c23.2
        refine si rfl hk rfl rfl rfl rfl un50 sz116 c23.1 c23.2 hAc23 fun a hk => ?_
        obtain ⟨_, rfl, e26⟩ := (v0_).at_ z_Entry (IntKind.wrap .i64 (Int.fdiv (IntKind.wrap .u64 (w64 (u7 + u8))) (2 ^ 1))) c23.1 c23.2
        refine sln [.int .i64 ((l0.getD (IntKind.wrap .i64 (Int.fdiv (IntKind.wrap .u64 (w64 (u7 + u8))) (2 ^ 1))).toNat z_Entry).Key), .int .i64 ((l0.getD (IntKind.wrap .i64 (Int.fdiv (IntKind.wrap .u64 (w64 (u7 + u8))) (2 ^ 1))).toNat z_Entry).Value)] rfl hk rfl rfl rfl ag116 sz116 (cells_at e26 (hs.hasD (k := 1) rfl)) fun a hk => ?_
        refine sm _ rfl hk rfl rfl rfl fun a hk => ?_
        obtain ⟨y27, h28, H⟩ := bind_some H
        refine scv (vs := ([(.agg #[.int .i64 ((l0.getD (IntKind.wrap .i64 (Int.fdiv (IntKind.wrap .u64 (w64 (u7 + u8))) (2 ^ 1))).toNat z_Entry).Key), .int .i64 ((l0.getD (IntKind.wrap .i64 (Int.fdiv (IntKind.wrap .u64 (w64 (u7 + u8))) (2 ^ 1))).toNat z_Entry).Value)]), (.int .i64 x1)] : List Value) ++ c2_) rfl rfl e2_ hk rfl rfl rfl (t2_ _ (hs.hasD (k := 2) rfl) (l0.getD (IntKind.wrap .i64 (Int.fdiv (IntKind.wrap .u64 (w64 (u7 + u8))) (2 ^ 1))).toNat z_Entry) x1 _ h28) ?_
        rintro _ w ⟨rfl, hG⟩ a hk
        have hs := hs.call0 hG
        refine sv (.bool (decide (y27 < 0))) hk rfl rfl rfl fun a hk => ?_
        show wpList _ _ _ [] _ _
        refine wpList_nil ?_
        refine hK22 _ _ ?_
        obtain ⟨o32, h33, HL34⟩ := bind_some H
        clear H
        obtain ⟨R35, hR35⟩ : ∃ R : Act → World → Prop, R = fun a w => ∃ (u30 : Int) (u31 : Int), (u30, u31) = o32 ∧ Kn [(0, (.slice A0_ l0.length p0_)), (1, (.int .i64 x1)), (2, (.func (.func f2_) #[] c2_.toArray)), (8, (.int .i64 (l0.length : Int))), (9, (.int .i64 u30)), (10, (.int .i64 u31))] 49 a ∧ Sat [] w0 w [(1, k0_), (2, k2_)] [] := ⟨_, rfl⟩
        refine wp_cutq R35 ?_ ?_
        · have H := h33
          rcases cond_some H with ⟨c36, H⟩ | ⟨c36, H⟩
          · have hk := hk.lit 31 c36 rfl
            refine cnd_true hk rfl rfl ?_
            apply wp_region_lit
            refine sm _ rfl hk rfl rfl rfl fun a hk => ?_
            refine sv (.int .i64 (w64 ((IntKind.wrap .i64 (Int.fdiv (IntKind.wrap .u64 (w64 (u7 + u8))) (2 ^ 1))) + 1))) hk rfl rfl rfl fun a hk => ?_
            refine sa _ rfl hk rfl rfl rfl fun a hk => ?_
            show wpList _ _ _ [] _ _
            refine wpList_nil ?_
            obtain rfl := Option.some.inj H
            show R35 _ _
            rw [hR35]
            exact ⟨(w64 ((IntKind.wrap .i64 (Int.fdiv (IntKind.wrap .u64 (w64 (u7 + u8))) (2 ^ 1))) + 1)), u8, rfl, (hk.c 0 rfl (hk.c 1 rfl (hk.c 2 rfl (hk.c 8 rfl (hk.c 9 rfl (hk.c 10 rfl hk.k)))))), (hs.pick [] rfl)⟩
          · have hk := hk.lit 31 c36 rfl
            refine cnd_false hk rfl rfl ?_
            apply wp_region_lit
            refine sm _ rfl hk rfl rfl rfl fun a hk => ?_
            refine sa _ rfl hk rfl rfl rfl fun a hk => ?_
            show wpList _ _ _ [] _ _
            refine wpList_nil ?_
            obtain rfl := Option.some.inj H
            show R35 _ _
            rw [hR35]
            exact ⟨u7, (IntKind.wrap .i64 (Int.fdiv (IntKind.wrap .u64 (w64 (u7 + u8))) (2 ^ 1))), rfl, (hk.c 0 rfl (hk.c 1 rfl (hk.c 2 rfl (hk.c 8 rfl (hk.c 9 rfl (hk.c 10 rfl hk.k)))))), (hs.pick [] rfl)⟩
        · intro a w hR0
          rw [hR35] at hR0
          obtain ⟨u30, u31, rfl, hk, hs⟩ := hR0
          have H := HL34
          try dsimp only at H
          obtain rfl := Option.some.inj H
          obtain ⟨m37, hmm37, h17⟩ := h17
          show ∃ n', n' < _ ∧ I14 n' _ _
          refine ⟨m37, hmm37, ?_⟩
          rw [hI14]
          exact ⟨u30, u31, h17, (hk.c 0 rfl (hk.c 1 rfl (hk.c 2 rfl (hk.c 8 rfl (hk.c 9 rfl (hk.c 10 rfl hk.k)))))), (hs.pick [] rfl)⟩
      · have hk := hk.lit 17 c20 rfl
        refine cnd_false hk rfl rfl ?_
        refine wp_exit ?_
        obtain rfl := Option.some.inj H
        show R13 _ _
        rw [hR13]
        exact ⟨u7, h17.symm, (hk.c 0 rfl (hk.c 1 rfl (hk.c 2 rfl (hk.c 8 rfl (hk.c 9 rfl hk.k))))), (hs.pick [] rfl)⟩
  · intro a w hR0
    rw [hR13] at hR0
    obtain ⟨u9, rfl, hk, hs⟩ := hR0
    have H := HL12
    try dsimp only at H
    refine hK4 _ _ ?_
    apply wp_seq_k; intro K38 hK38
    obtain ⟨o42, h43, HL44⟩ := bind_some H
    clear H
    obtain ⟨R45, hR45⟩ : ∃ R : Act → World → Prop, R = fun a w => ∃ (u40 : Int) (u41 : Bool), (u40, u41) = o42 ∧ Kn [(6, (.int .i64 u40)), (7, (.bool u41))] 49 a ∧ Sat [] w0 w [(1, k0_), (2, k2_)] [] := ⟨_, rfl⟩
    refine wp_cutq R45 ?_ ?_
    · have H := h43
      apply wp_region_lit
      refine sm _ rfl hk rfl rfl rfl fun a hk => ?_
      refine sm _ rfl hk rfl rfl rfl fun a hk => ?_
      refine sm _ rfl hk rfl rfl rfl fun a hk => ?_
      refine sv (.bool (decide (u9 < (l0.length : Int)))) hk rfl rfl rfl fun a hk => ?_
      refine sm _ rfl hk rfl rfl rfl fun a hk => ?_
      rcases cond_some H with ⟨c46, H⟩ | ⟨c46, H⟩
      · have hk := hk.lit 39 c46 rfl
        refine sm _ rfl hk rfl rfl rfl fun a hk => ?_
        refine sm _ rfl hk rfl rfl rfl fun a hk => ?_
        refine sm _ rfl hk rfl rfl rfl fun a hk => ?_
        rcases ite_some H with ⟨c47, H⟩ | ⟨_, H⟩
        rotate_left
        · cases H
        obtain ⟨b48, q49, hAc47⟩ := (v0_).some_ u9 c47.1 c47.2
        refine si rfl hk rfl rfl rfl rfl un50 sz116 c47.1 c47.2 hAc47 fun a hk => ?_
        obtain ⟨_, rfl, e50⟩ := (v0_).at_ z_Entry u9 c47.1 c47.2
        refine sln [.int .i64 ((l0.getD u9.toNat z_Entry).Key), .int .i64 ((l0.getD u9.toNat z_Entry).Value)] rfl hk rfl rfl rfl ag116 sz116 (cells_at e50 (hs.hasD (k := 1) rfl)) fun a hk => ?_
        refine sm _ rfl hk rfl rfl rfl fun a hk => ?_
        obtain ⟨y51, h52, H⟩ := bind_some H
        refine scv (vs := ([(.agg #[.int .i64 ((l0.getD u9.toNat z_Entry).Key), .int .i64 ((l0.getD u9.toNat z_Entry).Value)]), (.int .i64 x1)] : List Value) ++ c2_) rfl rfl e2_ hk rfl rfl rfl (t2_ _ (hs.hasD (k := 2) rfl) (l0.getD u9.toNat z_Entry) x1 _ h52) ?_
        rintro _ w ⟨rfl, hG⟩ a hk
        have hs := hs.call0 hG
        refine sv (.bool (y51 == 0)) hk rfl rfl rfl fun a hk => ?_
        refine sv (.bool (y51 == 0)) hk rfl rfl rfl fun a hk => ?_
        refine sa _ rfl hk rfl rfl rfl fun a hk => ?_
        refine sa _ rfl hk rfl rfl rfl fun a hk => ?_
        show wpList _ _ _ [] _ _
        refine wpList_nil ?_
        obtain rfl := Option.some.inj H
        show R45 _ _
        rw [hR45]
        exact ⟨u9, (y51 == 0), rfl, (hk.c 6 rfl (hk.c 7 rfl hk.k)), (hs.pick [] rfl)⟩
      · have hk := hk.lit 39 c46 rfl
        refine sk hk rfl rfl rfl fun a hk => ?_
        refine sk hk rfl rfl rfl fun a hk => ?_
        refine sk hk rfl rfl rfl fun a hk => ?_
        refine sk hk rfl rfl rfl fun a hk => ?_
        refine sk hk rfl rfl rfl fun a hk => ?_
        refine sk hk rfl rfl rfl fun a hk => ?_
        refine sk hk rfl rfl rfl fun a hk => ?_
        refine sk hk rfl rfl rfl fun a hk => ?_
        refine sv (.bool false) hk rfl rfl rfl fun a hk => ?_
        refine sa _ rfl hk rfl rfl rfl fun a hk => ?_
        refine sa _ rfl hk rfl rfl rfl fun a hk => ?_
        show wpList _ _ _ [] _ _
        refine wpList_nil ?_
        obtain rfl := Option.some.inj H
        show R45 _ _
        rw [hR45]
        exact ⟨u9, false, rfl, (hk.c 6 rfl (hk.c 7 rfl hk.k)), (hs.pick [] rfl)⟩
    · intro a w hR0
      rw [hR45] at hR0
      obtain ⟨u40, u41, rfl, hk, hs⟩ := hR0
      have H := HL44
      try dsimp only at H
      refine hK38 _ _ ?_
      refine wp_ret ?_
      obtain rfl := Option.some.inj H
      exact fin hk _ [(.int .i64 u40), (.bool u41)] rfl ⟨rfl, ⟨rfl, trivial⟩⟩ ⟨rfl, (hs.pick [] rfl).dnil⟩

noncomputable def impl_find_c1.f (x0 : S_Entry) (x1 : Int) : Option (Int) :=
  (some (w64 (x0.Key - x1)))
set_option maxRecDepth 100000 in
set_option maxHeartbeats 0 in
theorem impl_find_c1_t (w0 : World) (x0 : S_Entry) (x1 : Int) (r : Int) (H : impl_find_c1.f x0 x1 = some r) :
    Calls Try.prog 185 #[.agg #[.int .i64 x0.Key, .int .i64 x0.Value], .int .i64 x1] w0 (Ret (fun v w => v = .int .i64 r ∧ Sat [] w0 w [] [])) := by
  have hs : Sat [] w0 w0 [] [] := Sat.init w0 [] [] (by simp) (by simp) List.nodup_nil (by simp [blks])
  unfold impl_find_c1.f at H
  refine enter Try.func185 rfl Try.ntmps185 rfl fun a hk => ?_
  apply wp_seq_k; intro K1 hK1
  apply wp_region_lit
  refine sbx 1 hs rfl hk rfl rfl rfl rfl fun b2 w a hk hs => ?_
  refine sa _ rfl hk rfl rfl rfl fun a hk => ?_
  show wpList _ _ _ [] _ _
  refine wpList_nil ?_
  refine hK1 _ _ ?_
  apply wp_seq_k; intro K3 hK3
  apply wp_region_lit
  refine sf ⟨b2, 0, none⟩ rfl hk rfl rfl rfl fd116_0 rfl fun a hk => ?_
  refine sl rfl hk rfl rfl rfl ag3 (box_cell hs (k := 1) rfl rfl) fun a hk => ?_
  refine sm _ rfl hk rfl rfl rfl fun a hk => ?_
  refine sv (.int .i64 (w64 (x0.Key - x1))) hk rfl rfl rfl fun a hk => ?_
  refine sa _ rfl hk rfl rfl rfl fun a hk => ?_
  show wpList _ _ _ [] _ _
  refine wpList_nil ?_
  refine hK3 _ _ ?_
  refine wp_ret ?_
  obtain rfl := Option.some.inj H
  exact fin hk _ [(.int .i64 (w64 (x0.Key - x1)))] rfl ⟨rfl, trivial⟩ ⟨rfl, (hs.pick [] rfl).dnil⟩

noncomputable def impl_find.f (l0 : List S_Entry) (x1 : Int) : Option (Int × Bool) :=
  ((slices_BinarySearchFunc_impl_Entry_impl_Entry_int.f l0 x1 impl_find_c1.f).bind fun y3 => (some (y3.1, y3.2)))
set_option maxRecDepth 100000 in
set_option maxHeartbeats 0 in
theorem impl_find_t (w0 : World) (A0_ : Option Addr) (p0_ : Nat) (l0 : List S_Entry) (k0_ : Chunk) (v0_ : View L_Entry A0_ p0_ l0 k0_) (w0_ : Has w0 k0_) (x1 : Int) (r : Int × Bool) (H : impl_find.f l0 x1 = some r) :
    Calls Try.prog 151 #[.slice A0_ l0.length p0_, .int .i64 x1] w0 (Ret (fun v w => v = .tuple #[.int .i64 r.1, .bool r.2] ∧ Sat [] w0 w [] [])) := by
  have hs : Sat [] w0 w0 [(1, k0_)] [] := Sat.init w0 [(1, k0_)] [] (by simp only [List.mem_cons, List.not_mem_nil, or_false]; rintro x (rfl) <;> assumption) (by simp) List.nodup_nil (by simp [blks])
  unfold impl_find.f at H
  refine enter Try.func151 rfl Try.ntmps151 rfl fun a hk => ?_
  apply wp_seq_k; intro K1 hK1
  apply wp_region_lit
  refine sa _ rfl hk rfl rfl rfl fun a hk => ?_
  refine sa _ rfl hk rfl rfl rfl fun a hk => ?_
  show wpList _ _ _ [] _ _
  refine wpList_nil ?_
  refine hK1 _ _ ?_
  apply wp_seq_k; intro K2 hK2
  apply wp_region_lit
  refine sm _ rfl hk rfl rfl rfl fun a hk => ?_
  refine sm _ rfl hk rfl rfl rfl fun a hk => ?_
  obtain ⟨y3, h4, H⟩ := bind_some H
  refine sc rfl en184 hk rfl rfl rfl (slices_BinarySearchFunc_impl_Entry_impl_Entry_int_t _ A0_ p0_ l0 _ v0_ (hs.hasD (k := 1) rfl) x1 185 [] en185 impl_find_c1.f [] (fun w _ z0 z1 r h => impl_find_c1_t w z0 z1 r h) (Has.nil _) _ h4) ?_
  rintro _ w ⟨rfl, hG⟩ a hk
  have hs := hs.call0 hG
  refine sv (.int .i64 y3.1) hk rfl rfl rfl fun a hk => ?_
  refine sv (.bool y3.2) hk rfl rfl rfl fun a hk => ?_
  refine sa _ rfl hk rfl rfl rfl fun a hk => ?_
  refine sa _ rfl hk rfl rfl rfl fun a hk => ?_
  show wpList _ _ _ [] _ _
  refine wpList_nil ?_
  refine hK2 _ _ ?_
  refine wp_ret ?_
  obtain rfl := Option.some.inj H
  exact fin hk _ [(.int .i64 y3.1), (.bool y3.2)] rfl ⟨rfl, ⟨rfl, trivial⟩⟩ ⟨rfl, (hs.pick [] rfl).dnil⟩

noncomputable def slices_Reverse_impl_Entry_impl_Entry.s0 (l0 : List S_Entry) (u_r8_13_7 : List S_Entry) (u_r8_13_11 : Int) (u_r8_13_12 : Int) : Option (((List S_Entry) × Int × Int) ⊕ Ex ((List S_Entry)) ((List S_Entry))) :=
  (bif (decide (u_r8_13_11 < u_r8_13_12)) then (if 0 ≤ u_r8_13_12 ∧ u_r8_13_12 < (l0.length : Int) then (if 0 ≤ u_r8_13_11 ∧ u_r8_13_11 < (l0.length : Int) then (if 0 ≤ u_r8_13_11 ∧ u_r8_13_11 < (l0.length : Int) then (if 0 ≤ u_r8_13_12 ∧ u_r8_13_12 < (l0.length : Int) then (some (.inl (((u_r8_13_7.set u_r8_13_11.toNat (u_r8_13_7.getD u_r8_13_12.toNat z_Entry)).set u_r8_13_12.toNat (u_r8_13_7.getD u_r8_13_11.toNat z_Entry)), (w64 (u_r8_13_11 + 1)), (w64 (u_r8_13_12 - 1))))) else none) else none) else none) else none) else (some (.inr (.out u_r8_13_7))))
noncomputable def slices_Reverse_impl_Entry_impl_Entry.f (l0 : List S_Entry) : Option ((List S_Entry)) :=
  ((loopO (fun s => slices_Reverse_impl_Entry_impl_Entry.s0 l0 s.1 s.2.1 s.2.2) (l0, 0, (w64 ((l0.length : Int) - 1)))).bind fun o => match o with | .out u_r8_13_17 => (some u_r8_13_17) | .ret r => (some r))
set_option maxRecDepth 100000 in
set_option maxHeartbeats 0 in
theorem slices_Reverse_impl_Entry_impl_Entry_t (w0 : World) (A0_ : Option Addr) (p0_ : Nat) (l0 : List S_Entry) (k0_ : Chunk) (v0_ : Own L_Entry 116 A0_ p0_ l0 k0_) (hs0 : Sat (blks [(103261, k0_)]) w0 w0 [] [(103261, k0_)]) (r : (List S_Entry)) (H : slices_Reverse_impl_Entry_impl_Entry.f l0 = some r) :
    Calls Try.prog 212 #[.slice A0_ l0.length p0_] w0 (Ret (fun v w => ∃ (k0 : Chunk), v = .tuple #[] ∧ (Own L_Entry 116 A0_ p0_ r k0 ∧ r.length = l0.length) ∧ Sat (blks [(103261, k0_)]) w0 w [] [(0, k0)])) := by
  have hs := hs0
  unfold slices_Reverse_impl_Entry_impl_Entry.f at H
  refine enter Try.func212 rfl Try.ntmps212 rfl fun a hk => ?_
  apply wp_seq_k; intro K1 hK1
  apply wp_region_lit
  refine sm _ rfl hk rfl rfl rfl fun a hk => ?_
  refine sle rfl hk rfl rfl rfl un50 fun a hk => ?_
  refine sv (.int .i64 (w64 ((l0.length : Int) - 1))) hk rfl rfl rfl fun a hk => ?_
  refine sa _ rfl hk rfl rfl rfl fun a hk => ?_
  refine sa _ rfl hk rfl rfl rfl fun a hk => ?_
  show wpList _ _ _ [] _ _
  refine wpList_nil ?_
  refine hK1 _ _ ?_
  obtain ⟨o_r8_13_21, h_r8_13_22, HL_r8_13_23⟩ := bind_some H
  clear H
  obtain ⟨R_r8_13_24, hR_r8_13_24⟩ : ∃ R : Act → World → Prop, R = fun a w => ∃ (u_r8_13_17 : List S_Entry) (k_r8_13_18 : Chunk), o_r8_13_21 = .out u_r8_13_17 ∧ Kn [(0, (.slice A0_ l0.length p0_))] 28 a ∧ Sat (blks [(103261, k0_)]) w0 w [] [(103261, k_r8_13_18)] ∧ Own L_Entry 116 A0_ p0_ u_r8_13_17 k_r8_13_18 ∧ u_r8_13_17.length = l0.length := ⟨_, rfl⟩
  refine wp_cutq R_r8_13_24 ?_ ?_
  · refine wp_block ?_
    obtain ⟨fu_r8_13_26, h_r8_13_22⟩ := loopO_some h_r8_13_22
    obtain ⟨I_r8_13_25, hI_r8_13_25⟩ : ∃ I : Nat → Act → World → Prop, I = fun fu a w => ∃ (u_r8_13_7 : List S_Entry) (u_r8_13_11 : Int) (u_r8_13_12 : Int) (k_r8_13_8 : Chunk), loopN (fun s => slices_Reverse_impl_Entry_impl_Entry.s0 l0 s.1 s.2.1 s.2.2) fu (u_r8_13_7, u_r8_13_11, u_r8_13_12) = some o_r8_13_21 ∧ Kn [(0, (.slice A0_ l0.length p0_)), (2, (.int .i64 u_r8_13_11)), (3, (.int .i64 u_r8_13_12))] 28 a ∧ Sat (blks [(103261, k0_)]) w0 w [] [(103261, k_r8_13_8)] ∧ Own L_Entry 116 A0_ p0_ u_r8_13_7 k_r8_13_8 ∧ u_r8_13_7.length = l0.length := ⟨_, rfl⟩
    refine wp_loop_ghost I_r8_13_25 fu_r8_13_26 ?_ ?_
    · rw [hI_r8_13_25]
      exact ⟨l0, 0, (w64 ((l0.length : Int) - 1)), _, h_r8_13_22, (hk.c 0 rfl (hk.c 2 rfl (hk.c 3 rfl hk.k))), (hs.pick [(103261, 103261)] rfl), v0_, rfl⟩
    · clear h_r8_13_22 hk hs
      intro fu_r8_13_26 a w hI0
      rw [hI_r8_13_25] at hI0
      obtain ⟨u_r8_13_7, u_r8_13_11, u_r8_13_12, k_r8_13_8, hi, hk, hs, o_r8_13_9, lh_r8_13_10⟩ := hI0
      obtain ⟨x_r8_13_27, H, h_r8_13_28⟩ := loop_round hi
      try dsimp only at H
      unfold slices_Reverse_impl_Entry_impl_Entry.s0 at H
      apply wp_seq_k; intro K2 hK2
      apply wp_seq_k; intro K3 hK3
      apply wp_region_lit
      refine sm _ rfl hk rfl rfl rfl fun a hk => ?_
      refine sm _ rfl hk rfl rfl rfl fun a hk => ?_
      refine sv (.bool (decide (u_r8_13_11 < u_r8_13_12))) hk rfl rfl rfl fun a hk => ?_
      show wpList _ _ _ [] _ _
      refine wpList_nil ?_
      refine hK3 _ _ ?_
      rcases cond_some H with ⟨c_r8_13_30, H⟩ | ⟨c_r8_13_30, H⟩
      · have hk := hk.lit 9 c_r8_13_30 rfl
        refine cnd_true hk rfl rfl ?_
        refine wp_skip ?_
        refine hK2 _ _ ?_
        apply wp_seq_k; intro K4 hK4
        refine wp_block ?_
        rcases ite_some H with ⟨c_r_r8_13_31_6_1, H⟩ | ⟨_, H⟩
        rotate_left
        · cases H
        rcases ite_some H with ⟨c_r_r8_13_31_10_1, H⟩ | ⟨_, H⟩
        rotate_left
        · cases H
        rcases ite_some H with ⟨c_r_r8_13_31_12_1, H⟩ | ⟨_, H⟩
        rotate_left
        · cases H
        rcases ite_some H with ⟨c_r_r8_13_31_14_1, H⟩ | ⟨_, H⟩
        rotate_left
        · cases H
        obtain ⟨R_r8_13_32, hR_r8_13_32⟩ : ∃ R : Act → World → Prop, R = fun a w => ∃ (k_r_r8_13_31_15_1 : Chunk), Kn [(0, (.slice A0_ l0.length p0_)), (2, (.int .i64 u_r8_13_11)), (3, (.int .i64 u_r8_13_12))] 28 a ∧ Sat (blks [(103261, k0_)]) w0 w [] [(103261, k_r_r8_13_31_15_1)] ∧ Own L_Entry 116 A0_ p0_ ((u_r8_13_7.set u_r8_13_11.toNat (u_r8_13_7.getD u_r8_13_12.toNat z_Entry)).set u_r8_13_12.toNat (u_r8_13_7.getD u_r8_13_11.toNat z_Entry)) k_r_r8_13_31_15_1 ∧ ((u_r8_13_7.set u_r8_13_11.toNat (u_r8_13_7.getD u_r8_13_12.toNat z_Entry)).set u_r8_13_12.toNat (u_r8_13_7.getD u_r8_13_11.toNat z_Entry)).length = l0.length := ⟨_, rfl⟩
        refine wp_cutq R_r8_13_32 ?_ ?_
        · skip
          refine wp_region_tree (.q 0 (.q 1 (.q 2 (.q 3 (.q 4 (.q 5 (.q 6 (.q 8 (.q 9 (.q 10 (.alt 7 (.alt 11 (.alt 12 (.alt 13 (.alt 14 (.last 15) .stop) .stop) .stop) .stop) (.alt 11 (.alt 7 (.alt 12 (.alt 13 (.alt 14 (.last 15) .stop) .stop) .stop) .stop) .stop)))))))))))) mo (by kernel_rfl) (hs.pick [] rfl) fun _ => ?_
          have hs := hs.drew
          refine tqst (.slice A0_ l0.length p0_) hk rfl rfl rfl rfl (fun w hs => sm _ rfl hk rfl rfl rfl fun a hk => qe hk) fun a hk => ?_
          refine tqst (.int .i64 u_r8_13_11) hk rfl rfl rfl rfl (fun w hs => sm _ rfl hk rfl rfl rfl fun a hk => qe hk) fun a hk => ?_
          refine tqst (.slice A0_ l0.length p0_) hk rfl rfl rfl rfl (fun w hs => sm _ rfl hk rfl rfl rfl fun a hk => qe hk) fun a hk => ?_
          refine tqst (.int .i64 u_r8_13_12) hk rfl rfl rfl rfl (fun w hs => sm _ rfl hk rfl rfl rfl fun a hk => qe hk) fun a hk => ?_
          refine tqst (.slice A0_ l0.length p0_) hk rfl rfl rfl rfl (fun w hs => sm _ rfl hk rfl rfl rfl fun a hk => qe hk) fun a hk => ?_
          refine tqst (.int .i64 u_r8_13_12) hk rfl rfl rfl rfl (fun w hs => sm _ rfl hk rfl rfl rfl fun a hk => qe hk) fun a hk => ?_
          obtain ⟨b_r_r8_13_31_6_2, q_r_r8_13_31_6_3, hAc_r_r8_13_31_6_1⟩ := (o_r8_13_9.view).some_ u_r8_13_12 c_r_r8_13_31_6_1.1 (by rw [lh_r8_13_10]; exact c_r_r8_13_31_6_1.2)
          refine tqst (.pointer (some (padd A0_ (u_r8_13_12.toNat * 2)))) hk rfl rfl rfl rfl (fun w hs => si rfl hk rfl rfl rfl rfl un50 sz116 c_r_r8_13_31_6_1.1 c_r_r8_13_31_6_1.2 hAc_r_r8_13_31_6_1 fun a hk => qe hk) fun a hk => ?_
          refine tqst (.slice A0_ l0.length p0_) hk rfl rfl rfl rfl (fun w hs => sm _ rfl hk rfl rfl rfl fun a hk => qe hk) fun a hk => ?_
          refine tqst (.int .i64 u_r8_13_11) hk rfl rfl rfl rfl (fun w hs => sm _ rfl hk rfl rfl rfl fun a hk => qe hk) fun a hk => ?_
          obtain ⟨b_r_r8_13_31_10_2, q_r_r8_13_31_10_3, hAc_r_r8_13_31_10_1⟩ := (o_r8_13_9.view).some_ u_r8_13_11 c_r_r8_13_31_10_1.1 (by rw [lh_r8_13_10]; exact c_r_r8_13_31_10_1.2)
          refine tqst (.pointer (some (padd A0_ (u_r8_13_11.toNat * 2)))) hk rfl rfl rfl rfl (fun w hs => si rfl hk rfl rfl rfl rfl un50 sz116 c_r_r8_13_31_10_1.1 c_r_r8_13_31_10_1.2 hAc_r_r8_13_31_10_1 fun a hk => qe hk) fun a hk => ?_
          refine tsst hk rfl rfl (fun K_r_r8_13_31_7 hK_r_r8_13_31_7 w hF => ?_) ?_
          · skip
            have hs := hs.f hF
            obtain ⟨_, rfl, e_r_r8_13_31_7_1⟩ := (o_r8_13_9.view).at_ z_Entry u_r8_13_12 c_r_r8_13_31_6_1.1 (by rw [lh_r8_13_10]; exact c_r_r8_13_31_6_1.2)
            refine sln [.int .i64 ((u_r8_13_7.getD u_r8_13_12.toNat z_Entry).Key), .int .i64 ((u_r8_13_7.getD u_r8_13_12.toNat z_Entry).Value)] rfl hk rfl rfl rfl ag116 sz116 (cells_at e_r_r8_13_31_7_1 (hs.hasG (k := 103261) rfl)) fun a hk => ?_
            refine se (hs.pick [] rfl) hk (hK_r_r8_13_31_7 _ _ ?_)
            refine tsst hk rfl rfl (fun K_r_r8_13_31_11 hK_r_r8_13_31_11 w hF => ?_) wt_stop
            have hs := hs.f hF
            obtain ⟨_, rfl, e_r_r8_13_31_11_1⟩ := (o_r8_13_9.view).at_ z_Entry u_r8_13_11 c_r_r8_13_31_10_1.1 (by rw [lh_r8_13_10]; exact c_r_r8_13_31_10_1.2)
            refine sln [.int .i64 ((u_r8_13_7.getD u_r8_13_11.toNat z_Entry).Key), .int .i64 ((u_r8_13_7.getD u_r8_13_11.toNat z_Entry).Value)] rfl hk rfl rfl rfl ag116 sz116 (cells_at e_r_r8_13_31_11_1 (hs.hasG (k := 103261) rfl)) fun a hk => ?_
            refine se (hs.pick [] rfl) hk (hK_r_r8_13_31_11 _ _ ?_)
            refine tsst hk rfl rfl (fun K_r_r8_13_31_12 hK_r_r8_13_31_12 w hF => ?_) wt_stop
            have hs := hs.f hF
            obtain ⟨b_r_r8_13_31_12_2, q_r_r8_13_31_12_3, hAc_r_r8_13_31_12_1⟩ := (o_r8_13_9.view).some_ u_r8_13_11 c_r_r8_13_31_12_1.1 (by rw [lh_r8_13_10]; exact c_r_r8_13_31_12_1.2)
            refine si rfl hk rfl rfl rfl rfl un50 sz116 c_r_r8_13_31_12_1.1 c_r_r8_13_31_12_1.2 hAc_r_r8_13_31_12_1 fun a hk => ?_
            refine se (hs.pick [] rfl) hk (hK_r_r8_13_31_12 _ _ ?_)
            refine tsst hk rfl rfl (fun K_r_r8_13_31_13 hK_r_r8_13_31_13 w hF => ?_) wt_stop
            have hs := hs.f hF
            refine so (j := 0) 103261 z_Entry (u_r8_13_7.getD u_r8_13_12.toNat z_Entry) hs rfl o_r8_13_9 c_r_r8_13_31_12_1.1 (by rw [lh_r8_13_10]; exact c_r_r8_13_31_12_1.2) rfl hk rfl rfl rfl rfl rfl sz116 (by simp [Value.cells, Value.oneCell']) (Nat.le_of_ble_eq_true rfl) (fun _ _ h => ⟨by rw [h.1]; rfl, h.2⟩) fun k_r_r8_13_31_13_1 w a hk o_r_r8_13_31_13_2 hs => ?_
            have lh_r_r8_13_31_13_3 : (u_r8_13_7.set u_r8_13_11.toNat (u_r8_13_7.getD u_r8_13_12.toNat z_Entry)).length = l0.length := by rw [List.length_set]; exact lh_r8_13_10
            refine se (hs.pick [] rfl) hk (hK_r_r8_13_31_13 _ _ ?_)
            refine tsst hk rfl rfl (fun K_r_r8_13_31_14 hK_r_r8_13_31_14 w hF => ?_) wt_stop
            have hs := hs.f hF
            obtain ⟨b_r_r8_13_31_14_2, q_r_r8_13_31_14_3, hAc_r_r8_13_31_14_1⟩ := (o_r_r8_13_31_13_2.view).some_ u_r8_13_12 c_r_r8_13_31_14_1.1 (by rw [lh_r_r8_13_31_13_3]; exact c_r_r8_13_31_14_1.2)
            refine si rfl hk rfl rfl rfl rfl un50 sz116 c_r_r8_13_31_14_1.1 c_r_r8_13_31_14_1.2 hAc_r_r8_13_31_14_1 fun a hk => ?_
            refine se (hs.pick [] rfl) hk (hK_r_r8_13_31_14 _ _ ?_)
            refine tlst hk rfl rfl fun K_r_r8_13_31_15 hK_r_r8_13_31_15 w hF => ?_
            have hs := hs.f hF
            refine so (j := 0) 103261 z_Entry (u_r8_13_7.getD u_r8_13_11.toNat z_Entry) hs rfl o_r_r8_13_31_13_2 c_r_r8_13_31_14_1.1 (by rw [lh_r_r8_13_31_13_3]; exact c_r_r8_13_31_14_1.2) rfl hk rfl rfl rfl rfl rfl sz116 (by simp [Value.cells, Value.oneCell']) (Nat.le_of_ble_eq_true rfl) (fun _ _ h => ⟨by rw [h.1]; rfl, h.2⟩) fun k_r_r8_13_31_15_1 w a hk o_r_r8_13_31_15_2 hs => ?_
            have lh_r_r8_13_31_15_3 : ((u_r8_13_7.set u_r8_13_11.toNat (u_r8_13_7.getD u_r8_13_12.toNat z_Entry)).set u_r8_13_12.toNat (u_r8_13_7.getD u_r8_13_11.toNat z_Entry)).length = l0.length := by rw [List.length_set]; exact lh_r_r8_13_31_13_3
            refine se trivial hk (hK_r_r8_13_31_15 _ _ fun w hF => ?_)
            have hs := hs.f hF
            show R_r8_13_32 _ _
            rw [hR_r8_13_32]
            exact ⟨k_r_r8_13_31_15_1, (hk.c 0 rfl (hk.c 2 rfl (hk.c 3 rfl hk.k))), (hs.pick [(103261, 103261)] rfl), o_r_r8_13_31_15_2, lh_r_r8_13_31_15_3⟩
          refine tsst hk rfl rfl (fun K_r_r8_13_31_11 hK_r_r8_13_31_11 w hF => ?_) wt_stop
          have hs := hs.f hF
          obtain ⟨_, rfl, e_r_r8_13_31_11_1⟩ := (o_r8_13_9.view).at_ z_Entry u_r8_13_11 c_r_r8_13_31_10_1.1 (by rw [lh_r8_13_10]; exact c_r_r8_13_31_10_1.2)
          refine sln [.int .i64 ((u_r8_13_7.getD u_r8_13_11.toNat z_Entry).Key), .int .i64 ((u_r8_13_7.getD u_r8_13_11.toNat z_Entry).Value)] rfl hk rfl rfl rfl ag116 sz116 (cells_at e_r_r8_13_31_11_1 (hs.hasG (k := 103261) rfl)) fun a hk => ?_
          refine se (hs.pick [] rfl) hk (hK_r_r8_13_31_11 _ _ ?_)
          refine tsst hk rfl rfl (fun K_r_r8_13_31_7 hK_r_r8_13_31_7 w hF => ?_) wt_stop
          have hs := hs.f hF
          obtain ⟨_, rfl, e_r_r8_13_31_7_1⟩ := (o_r8_13_9.view).at_ z_Entry u_r8_13_12 c_r_r8_13_31_6_1.1 (by rw [lh_r8_13_10]; exact c_r_r8_13_31_6_1.2)
          refine sln [.int .i64 ((u_r8_13_7.getD u_r8_13_12.toNat z_Entry).Key), .int .i64 ((u_r8_13_7.getD u_r8_13_12.toNat z_Entry).Value)] rfl hk rfl rfl rfl ag116 sz116 (cells_at e_r_r8_13_31_7_1 (hs.hasG (k := 103261) rfl)) fun a hk => ?_
          refine se (hs.pick [] rfl) hk (hK_r_r8_13_31_7 _ _ ?_)
          refine tsst hk rfl rfl (fun K_r_r8_13_31_12 hK_r_r8_13_31_12 w hF => ?_) wt_stop
          have hs := hs.f hF
          obtain ⟨b_r_r8_13_31_12_2, q_r_r8_13_31_12_3, hAc_r_r8_13_31_12_1⟩ := (o_r8_13_9.view).some_ u_r8_13_11 c_r_r8_13_31_12_1.1 (by rw [lh_r8_13_10]; exact c_r_r8_13_31_12_1.2)
          refine si rfl hk rfl rfl rfl rfl un50 sz116 c_r_r8_13_31_12_1.1 c_r_r8_13_31_12_1.2 hAc_r_r8_13_31_12_1 fun a hk => ?_
          refine se (hs.pick [] rfl) hk (hK_r_r8_13_31_12 _ _ ?_)
          refine tsst hk rfl rfl (fun K_r_r8_13_31_13 hK_r_r8_13_31_13 w hF => ?_) wt_stop
          have hs := hs.f hF
          refine so (j := 0) 103261 z_Entry (u_r8_13_7.getD u_r8_13_12.toNat z_Entry) hs rfl o_r8_13_9 c_r_r8_13_31_12_1.1 (by rw [lh_r8_13_10]; exact c_r_r8_13_31_12_1.2) rfl hk rfl rfl rfl rfl rfl sz116 (by simp [Value.cells, Value.oneCell']) (Nat.le_of_ble_eq_true rfl) (fun _ _ h => ⟨by rw [h.1]; rfl, h.2⟩) fun k_r_r8_13_31_13_1 w a hk o_r_r8_13_31_13_2 hs => ?_
          have lh_r_r8_13_31_13_3 : (u_r8_13_7.set u_r8_13_11.toNat (u_r8_13_7.getD u_r8_13_12.toNat z_Entry)).length = l0.length := by rw [List.length_set]; exact lh_r8_13_10
          refine se (hs.pick [] rfl) hk (hK_r_r8_13_31_13 _ _ ?_)
          refine tsst hk rfl rfl (fun K_r_r8_13_31_14 hK_r_r8_13_31_14 w hF => ?_) wt_stop
          have hs := hs.f hF
          obtain ⟨b_r_r8_13_31_14_2, q_r_r8_13_31_14_3, hAc_r_r8_13_31_14_1⟩ := (o_r_r8_13_31_13_2.view).some_ u_r8_13_12 c_r_r8_13_31_14_1.1 (by rw [lh_r_r8_13_31_13_3]; exact c_r_r8_13_31_14_1.2)
          refine si rfl hk rfl rfl rfl rfl un50 sz116 c_r_r8_13_31_14_1.1 c_r_r8_13_31_14_1.2 hAc_r_r8_13_31_14_1 fun a hk => ?_
          refine se (hs.pick [] rfl) hk (hK_r_r8_13_31_14 _ _ ?_)
          refine tlst hk rfl rfl fun K_r_r8_13_31_15 hK_r_r8_13_31_15 w hF => ?_
          have hs := hs.f hF
          refine so (j := 0) 103261 z_Entry (u_r8_13_7.getD u_r8_13_11.toNat z_Entry) hs rfl o_r_r8_13_31_13_2 c_r_r8_13_31_14_1.1 (by rw [lh_r_r8_13_31_13_3]; exact c_r_r8_13_31_14_1.2) rfl hk rfl rfl rfl rfl rfl sz116 (by simp [Value.cells, Value.oneCell']) (Nat.le_of_ble_eq_true rfl) (fun _ _ h => ⟨by rw [h.1]; rfl, h.2⟩) fun k_r_r8_13_31_15_1 w a hk o_r_r8_13_31_15_2 hs => ?_
          have lh_r_r8_13_31_15_3 : ((u_r8_13_7.set u_r8_13_11.toNat (u_r8_13_7.getD u_r8_13_12.toNat z_Entry)).set u_r8_13_12.toNat (u_r8_13_7.getD u_r8_13_11.toNat z_Entry)).length = l0.length := by rw [List.length_set]; exact lh_r_r8_13_31_13_3
          refine se trivial hk (hK_r_r8_13_31_15 _ _ fun w hF => ?_)
          have hs := hs.f hF
          show R_r8_13_32 _ _
          rw [hR_r8_13_32]
          exact ⟨k_r_r8_13_31_15_1, (hk.c 0 rfl (hk.c 2 rfl (hk.c 3 rfl hk.k))), (hs.pick [(103261, 103261)] rfl), o_r_r8_13_31_15_2, lh_r_r8_13_31_15_3⟩
        · intro a w hR0
          rw [hR_r8_13_32] at hR0
          obtain ⟨k_r_r8_13_31_15_1, hk, hs, o_r_r8_13_31_15_2, lh_r_r8_13_31_15_3⟩ := hR0
          refine hK4 _ _ ?_
          apply wp_region_lit
          refine sm _ rfl hk rfl rfl rfl fun a hk => ?_
          refine sv (.int .i64 (w64 (u_r8_13_11 + 1))) hk rfl rfl rfl fun a hk => ?_
          refine sm _ rfl hk rfl rfl rfl fun a hk => ?_
          refine sv (.int .i64 (w64 (u_r8_13_12 - 1))) hk rfl rfl rfl fun a hk => ?_
          refine sa _ rfl hk rfl rfl rfl fun a hk => ?_
          refine sa _ rfl hk rfl rfl rfl fun a hk => ?_
          show wpList _ _ _ [] _ _
          refine wpList_nil ?_
          obtain rfl := Option.some.inj H
          obtain ⟨m_r8_13_33, hmm_r8_13_33, h_r8_13_28⟩ := h_r8_13_28
          show ∃ n', n' < _ ∧ I_r8_13_25 n' _ _
          refine ⟨m_r8_13_33, hmm_r8_13_33, ?_⟩
          rw [hI_r8_13_25]
          exact ⟨((u_r8_13_7.set u_r8_13_11.toNat (u_r8_13_7.getD u_r8_13_12.toNat z_Entry)).set u_r8_13_12.toNat (u_r8_13_7.getD u_r8_13_11.toNat z_Entry)), (w64 (u_r8_13_11 + 1)), (w64 (u_r8_13_12 - 1)), _, h_r8_13_28, (hk.c 0 rfl (hk.c 2 rfl (hk.c 3 rfl hk.k))), (hs.pick [(103261, 103261)] rfl), o_r_r8_13_31_15_2, lh_r_r8_13_31_15_3⟩
      · have hk := hk.lit 9 c_r8_13_30 rfl
        refine cnd_false hk rfl rfl ?_
        refine wp_exit ?_
        obtain rfl := Option.some.inj H
        show R_r8_13_24 _ _
        rw [hR_r8_13_24]
        exact ⟨u_r8_13_7, _, h_r8_13_28.symm, (hk.c 0 rfl hk.k), (hs.pick [(103261, 103261)] rfl), o_r8_13_9, lh_r8_13_10⟩
  · intro a w hR0
    rw [hR_r8_13_24] at hR0
    obtain ⟨u_r8_13_17, k_r8_13_18, rfl, hk, hs, o_r8_13_19, lh_r8_13_20⟩ := hR0
    have H := HL_r8_13_23
    try dsimp only at H
    obtain rfl := Option.some.inj H
    exact fin0 hk _ [] rfl trivial ⟨_, rfl, ⟨o_r8_13_19, lh_r8_13_20⟩, (hs.pick [(0, 103261)] rfl).dnil⟩

set_option maxRecDepth 100000 in
set_option maxHeartbeats 1000000 in
theorem ov186 {w : World} {A : Value} {b1 o1 n1 c1 b2 o2 n2 c2 : Nat} {cs1 cs2 : Array Value} {T1 T2 : TypeId} (h1 : w.heap[b1]? = some (.cells cs1 T1 (0, 0))) (h2 : w.heap[b2]? = some (.cells cs2 T2 (0, 0))) (hne : b1 ≠ b2) (h0 : cs2.size ≠ 0) :
    (callFunc 186 #[.slice (some ⟨b1, o1, none⟩) n1 c1, .slice (some ⟨b2, o2, none⟩) n2 c2]).run Try.prog w = .ok (.value (.bool false)) w := by
  rw [run_callFunc_extern Try.func186 (by kernel_rfl) (by kernel_rfl) (by kernel_rfl) (e := Extern.SlicesOverlaps.overlaps #[50, 50] #[4]) (by kernel_rfl),
    Lib.run_overlaps_apart w 50 4 116 un50 2 (fun w => Go.Z.run_sizeOf sz116) ⟨b1, o1, none⟩ ⟨b2, o2, none⟩ n1 c1 n2 c2 hne T1 T2 cs1.size cs2.size (by simp [World.shape?, h1]) (by simp [World.shape?, h2]) h0 (by simp [World.frozen?, h1]) (by simp [World.frozen?, h1])]
  rfl
set_option maxRecDepth 100000 in
set_option maxHeartbeats 1000000 in
theorem slices_Insert_impl_Entry_impl_Entry_n {M : List Nat} {w00 w : World} {Δ Γ : List (Nat × Chunk)} (k k2 : Nat) {A A' : Option Addr} {cap cap' : Nat} {xs ys : List S_Entry} {c c2 : Chunk} (i : Nat)
    (hs : Sat M w00 w Δ Γ) (hg : kget Γ k = some c) (hown : Own L_Entry 116 A cap xs c) (hg2 : kget (kdel Γ k) k2 = some c2) (hv : Own L_Entry 116 A' cap' ys c2) (hpos : 0 < ys.length) (hi : i ≤ xs.length) (hn : xs.length + ys.length ≤ 1073741824) :
    Calls Try.prog 152 #[.slice A xs.length cap, .int .i64 i, .slice A' ys.length cap'] w (Ret (fun v w' => ∃ A1 cap1 c1, v = .slice A1 (insL xs i ys).length cap1 ∧ Own L_Entry 116 A1 cap1 (insL xs i ys) c1 ∧ Sat M w00 w' Δ ((k, c1) :: kdel Γ k))) := by
  have hfl : (L_Entry).Flat := flat_flat
  have hLs : (L_Entry).size = 2 := rfl
  have hw2 : Has w c2 := (hs.drop k).hasG hg2
  obtain ⟨fss, dn, hdr, e2, hy, hsrc⟩ := own_src hv hw2
  have hy := hy.flat hfl
  obtain ⟨b2, rfl, cs2, ess2, cd2, rfl, -, -, hcs2, hle2, htop2⟩ := hv.opened (by intro e; rw [e] at hpos; exact absurd hpos (by simp))
  have hmx : maxLen = 9223372036854775807 := rfl
  have hfll := hy.flatten_len
  have h1y := Lay.ones hy
  refine enter Try.func152 rfl Try.ntmps152 rfl fun a hk => ?_
  apply wp_seq_k; intro K1 hK1
  apply wp_region_lit
  refine sa _ rfl hk rfl rfl rfl fun a hk => ?_
  show wpList _ _ _ [] _ _
  refine wpList_nil ?_
  refine hK1 _ _ ?_
  apply wp_seq_k; intro K2 hK2
  apply wp_region_lit
  refine sm _ rfl hk rfl rfl rfl fun a hk => ?_
  refine sm _ rfl hk rfl rfl rfl fun a hk => ?_
  refine sll_l rfl hk rfl rfl rfl rfl un50 sz116 (by omega) (by omega) fun a hk => ?_
  show wpList _ _ _ [] _ _
  refine wpList_nil ?_
  refine hK2 _ _ ?_
  apply wp_seq_k; intro K3 hK3
  apply wp_region_lit
  refine sm _ rfl hk rfl rfl rfl fun a hk => ?_
  refine sle rfl hk rfl rfl rfl un50 fun a hk => ?_
  refine sa _ rfl hk rfl rfl rfl fun a hk => ?_
  show wpList _ _ _ [] _ _
  refine wpList_nil ?_
  refine hK3 _ _ ?_
  apply wp_seq_k; intro K5 hK5
  apply wp_seq_k; intro K4 hK4
  apply wp_region_lit
  refine sm _ rfl hk rfl rfl rfl fun a hk => ?_
  refine sv (.bool (decide ((ys.length : Int) = 0))) hk rfl rfl rfl fun a hk => ?_
  show wpList _ _ _ [] _ _
  refine wpList_nil ?_
  refine hK4 _ _ ?_
  have hk := hk.lit 16 (decide_eq_false (by omega)) rfl
  refine cnd_false hk rfl rfl ?_
  refine wp_skip ?_
  refine hK5 _ _ ?_
  apply wp_seq_k; intro K6 hK6
  apply wp_region_lit
  refine sm _ rfl hk rfl rfl rfl fun a hk => ?_
  refine sle rfl hk rfl rfl rfl un50 fun a hk => ?_
  refine sa _ rfl hk rfl rfl rfl fun a hk => ?_
  show wpList _ _ _ [] _ _
  refine wpList_nil ?_
  refine hK6 _ _ ?_
  apply wp_seq_k; intro K8 hK8
  apply wp_seq_k; intro K7 hK7
  apply wp_region_lit
  refine sm _ rfl hk rfl rfl rfl fun a hk => ?_
  refine sm _ rfl hk rfl rfl rfl fun a hk => ?_
  refine sv (.bool (decide ((i : Int) = (xs.length : Int)))) hk rfl rfl rfl fun a hk => ?_
  show wpList _ _ _ [] _ _
  refine wpList_nil ?_
  refine hK7 _ _ ?_
  by_cases hin : i = xs.length
  · have hk := hk.lit 22 (decide_eq_true (by omega)) rfl
    refine cnd_true hk rfl rfl ?_
    apply wp_seq_k; intro K9 hK9
    apply wp_region_lit
    refine sm _ rfl hk rfl rfl rfl fun a hk => ?_
    refine sm _ rfl hk rfl rfl rfl fun a hk => ?_
    refine sap k hfl hs hg hown hv.view hw2 rfl hk rfl rfl rfl rfl rfl rfl un50 mk116 rfl rfl rfl hn fun A1 p1 c1 w a hk o hs => ?_
    refine sa _ rfl hk rfl rfl rfl fun a hk => ?_
    show wpList _ _ _ [] _ _
    refine wpList_nil ?_
    refine hK9 _ _ ?_
    refine wp_ret ?_
    have e : insL xs i ys = xs ++ ys := by simp [insL, hin]
    exact fin hk _ [(.slice A1 (xs ++ ys).length p1)] rfl ⟨rfl, trivial⟩ ⟨A1, p1, c1, by rw [e]; rfl, by rw [e]; exact o, hs⟩
  · have hk := hk.lit 22 (decide_eq_false (by omega)) rfl
    refine cnd_false hk rfl rfl ?_
    refine wp_skip ?_
    refine hK8 _ _ ?_
    have hxne : xs ≠ [] := by rintro rfl; exact hin (Nat.le_zero.1 hi)
    obtain ⟨b, rfl, cs, ess, cd, rfl, hall, htake, hcs, hle, htop⟩ := hown.opened hxne
    have hall := hall.flat hfl
    have hxl := hall.flatten_len
    have h1x := Lay.ones hall
    rw [hLs] at hxl hfll htake hcs hcs2
    have hcl : cs.toList.length = cap * 2 := by rw [Array.length_toList (xs := cs), hcs]
    have hbw : w.heap[b]? = some (.cells cs 116 (0, 0)) := hs.hasG hg _ (List.mem_cons_self ..)
    have hbw2 : w.heap[b2]? = some (.cells cs2 116 (0, 0)) := hw2 _ (List.mem_cons_self ..)
    have hbne : b2 ≠ b := by
      rintro rfl
      have h3 := kget_perm hg
      have h4 := h3.nodup_iff.1 hs.nodup
      have h5 : b2 ∈ blks (kdel Γ k) := by
        obtain ⟨s, h6⟩ := kget_mem hg2
        exact blks_mem.2 ⟨_, h6, _, List.mem_cons_self ..⟩
      exact (List.nodup_append.1 h4).2.2 b2 (by simp [cblk]) b2 h5 rfl
    have holds : ∀ w : World, w.heap[b]? = some (.cells cs 116 (0, 0)) → ∀ j u, ess.flatten[j]? = some u → w.cell? ((⟨b, 0, none⟩ : Addr).add j) = some u := by
      intro w hbw j u hu
      rw [addr_add0, cell_of_row w b j cs 116 (0, 0) hbw]
      rw [← htake, List.getElem?_take] at hu
      split at hu
      · simpa using hu
      · cases hu
    have hdropc : ∀ w : World, w.heap[b]? = some (.cells cs 116 (0, 0)) → ∀ j u, (ess.flatten.drop (i * 2))[j]? = some u → w.cell? ((⟨b, i * 2, none⟩ : Addr).add j) = some u := by
      intro w hbw j u hu
      rw [List.getElem?_drop] at hu
      have := holds w hbw _ u hu
      rw [addr_add0] at this
      rw [addr_add1]; exact this
    have hysrc : ∀ w : World, Has w ((b2, .cells cs2 116 (0, 0)) :: cd2) → ∀ j u, fss.flatten[j]? = some u → w.cell? ((⟨b2, 0, none⟩ : Addr).add j) = some u := by
      intro w1 hw1
      rcases hsrc with ⟨h0, m, h3⟩ | ⟨a3, m, h3, h4⟩
      · omega
      · obtain ⟨rfl, rfl⟩ : a3 = ⟨b2, 0, none⟩ ∧ m = cap' := by cases h3; exact ⟨rfl, rfl⟩
        intro j u hu
        have h5 := h4 j u hu
        rw [addr_add0] at h5 ⊢
        rw [cell_of_row w b2 j cs2 116 (0, 0) hbw2] at h5
        rw [cell_of_row w1 b2 j cs2 116 (0, 0) (hw1 _ (List.mem_cons_self ..))]; exact h5
    have hs1 := hs.less (k := k) [(b, .cells cs 116 (0, 0))] cd hg (by simp)
    have hcap : (cap : Int) ≤ 9223372036854775807 := by omega
    apply wp_seq_k; intro K11 hK11
    apply wp_seq_k; intro K10 hK10
    apply wp_region_lit
    refine sm _ rfl hk rfl rfl rfl fun a hk => ?_
    refine sm _ rfl hk rfl rfl rfl fun a hk => ?_
    refine sv (.int .i64 (w64 ((xs.length : Int) + (ys.length : Int)))) hk rfl rfl rfl fun a hk => ?_
    refine sm _ rfl hk rfl rfl rfl fun a hk => ?_
    refine scap rfl hk rfl rfl rfl un50 fun a hk => ?_
    refine sv (.bool (decide ((cap : Int) < w64 ((xs.length : Int) + (ys.length : Int))))) hk rfl rfl rfl fun a hk => ?_
    show wpList _ _ _ [] _ _
    refine wpList_nil ?_
    refine hK10 _ _ ?_
    have en : w64 ((xs.length : Int) + (ys.length : Int)) = ((xs.length + ys.length : Nat) : Int) := by rw [w64id (by omega) (by omega)]; omega
    have ei : w64 ((i : Int) + (ys.length : Int)) = ((i + ys.length : Nat) : Int) := by rw [w64id (by omega) (by omega)]; omega
    have elen := len_insL xs i ys hi
    have hdl : (ess.flatten.drop (i * 2)).length = (xs.length - i) * 2 := by rw [List.length_drop, hxl]; omega
    by_cases hroom : cap < xs.length + ys.length
    · have hk := hk.lit 31 (decide_eq_true (by rw [en]; omega)) rfl
      refine cnd_true hk rfl rfl ?_
      apply wp_seq_k; intro K12 hK12
      apply wp_region_lit
      refine sm _ rfl hk rfl rfl rfl fun a hk => ?_
      refine sm _ rfl hk rfl rfl rfl fun a hk => ?_
      refine sll_h rfl hk rfl rfl rfl rfl un50 sz116 (by omega) (by omega) fun a hk => ?_
      have hk := hk.re (v' := .slice (some ⟨b, 0, none⟩) i cap) 34 rfl sl_head
      refine sm _ rfl hk rfl rfl rfl fun a hk => ?_
      refine sm _ rfl hk rfl rfl rfl fun a hk => ?_
      refine sv (.int .i64 (w64 ((xs.length : Int) + (ys.length : Int)))) hk rfl rfl rfl fun a hk => ?_
      rw [en] at hk
      refine sm _ rfl hk rfl rfl rfl fun a hk => ?_
      refine sv (.int .i64 (w64 (((xs.length + ys.length : Nat) : Int) - (i : Int)))) hk rfl rfl rfl fun a hk => ?_
      have em : w64 (((xs.length + ys.length : Nat) : Int) - (i : Int)) = ((xs.length + ys.length - i : Nat) : Int) := by rw [w64id (by omega) (by omega)]; omega
      rw [em] at hk
      obtain ⟨inf, hinf, hbinf, hzinf, hszinf⟩ := mkB_spec mk116
      have hby : inf.bytes ≤ 131072 := hbinf
      have hprod : (xs.length + ys.length) * inf.bytes ≤ 140737488355328 := by
        have := Nat.mul_le_mul hn hby
        omega
      have hgc := grownCap_ge w (i + (xs.length + ys.length - i)) cap 116
      have hgm := grownCap_le_maxLen w (i + (xs.length + ys.length - i)) cap 116 (by omega)
      have htk : (ess.flatten.take (i * 2)).length = i * 2 := by rw [List.length_take, hxl]; omega
      have hfc : (Builtin.firstCells inf.size i (.slice (some ⟨b, 0, none⟩) i cap)).run Try.prog w.drew = .ok (ess.flatten.take (i * 2)).toArray w.drew :=
        run_firstCells_some (P := Try.prog) w.drew inf.size i ⟨b, 0, none⟩ i cap (ess.flatten.take (i * 2)) (by rw [htk, hszinf]) (fun j u hu => by
          have : ess.flatten[j]? = some u := by
            rw [List.getElem?_take] at hu
            split at hu
            · exact hu
            · cases hu
          have := holds w hbw j u this
          simpa using this)
      have hpb : (xs.length + ys.length - i) * inf.bytes ≤ 281474976710656 := by
        have := Nat.mul_le_mul_right inf.bytes (show xs.length + ys.length - i ≤ xs.length + ys.length by omega)
        omega
      have hrun := fun ty => Lib.run_append_grow_zeros (P := Try.prog) w 50 3 ty 116 inf _ .i64 .i64 un50 (by kernel_rfl : Try.prog.underlying 3 = some (.int .i64)) hinf hzinf (some ⟨b, 0, none⟩) i cap _ hfc (xs.length + ys.length - i) (by omega) (by omega) (by omega) (by omega) hpb (growslice_fits (by omega) (by rw [show i + (xs.length + ys.length - i) = xs.length + ys.length by omega]; exact hprod))
      generalize hgv : grownCap w (i + (xs.length + ys.length - i)) cap 116 = gc at hrun hgc hgm
      generalize hcn : ((ess.flatten.take (i * 2)).toArray ++ Builtin.zeroCells (Value.cells (.agg #[.int .i64 0, .int .i64 0])) (xs.length + ys.length - i) ++ Builtin.zeroCells (Value.cells (.agg #[.int .i64 0, .int .i64 0])) (gc - (i + (xs.length + ys.length - i)))) = cn at hrun
      have hcnl : cn.size = gc * 2 := by
        rw [← hcn]
        simp only [Array.size_append, size_zeroCells, List.size_toArray, htk]
        have : (Value.cells (.agg #[.int .i64 0, .int .i64 0])).size = 2 := rfl
        rw [this]; omega
      have hcnt : cn.toList.take (i * 2) = ess.flatten.take (i * 2) := by
        rw [← hcn]
        simp only [Array.toList_append, List.toList_toArray, List.append_assoc]
        exact List.take_left' htk
      refine sapz rfl hk rfl rfl rfl rfl hrun fun a hk => ?_
      have hs2 : Sat M w00 (w.drew.alloc (.cells cn 116 (0, 0))) Δ ((k, [(w.heap.size, .cells cn 116 (0, 0))]) :: (k, [(b, .cells cs 116 (0, 0))]) :: kdel Γ k) := hs1.drew.alloc k (.cells cn 116 (0, 0))
      have hcln : cn.toList.length = gc * 2 := by rw [Array.length_toList (xs := cn), hcnl]
      generalize hbn : w.heap.size = nb at hk hs2
      have hbw1 : (w.drew.alloc (.cells cn 116 (0, 0))).heap[b]? = some (.cells cs 116 (0, 0)) := (hs2.drop k).hasG (by simp only [kdel, Nat.beq_refl, if_true]; exact kget_cons _ _ _) _ (List.mem_singleton.2 rfl)
      generalize w.drew.alloc (.cells cn 116 (0, 0)) = w at hs2 hbw1
      refine sa _ rfl hk rfl rfl rfl fun a hk => ?_
      show wpList _ _ _ [] _ _
      refine wpList_nil ?_
      refine hK12 _ _ ?_
      have eg : i + (xs.length + ys.length - i) = xs.length + ys.length := by omega
      rw [eg] at hk hgc
      apply wp_seq_k; intro K16 hK16
      apply wp_region_lit
      refine sm _ rfl hk rfl rfl rfl fun a hk => ?_
      refine sm _ rfl hk rfl rfl rfl fun a hk => ?_
      refine sll_l rfl hk rfl rfl rfl rfl un50 sz116 (by omega) (by omega) fun a hk => ?_
      have hk := hk.re (v' := .slice (some ⟨nb, i * 2, none⟩) (xs.length + ys.length - i) (gc - i)) 43 rfl (sl_off (by omega))
      refine sm _ rfl hk rfl rfl rfl fun a hk => ?_
      have hk2 : ∀ {w}, Sat M w00 w Δ ((k, [(nb, .cells cn 116 (0, 0))]) :: (k, [(b, .cells cs 116 (0, 0))]) :: kdel Γ k) → Has w ((b2, .cells cs2 116 (0, 0)) :: cd2) := fun h => by
        have h := (h.drop k)
        simp only [kdel, Nat.beq_refl, if_true] at h
        have h := (h.drop k)
        simp only [kdel, Nat.beq_refl, if_true] at h
        exact h.hasG hg2
      refine scp k _ fss.flatten hs2 (kget_cons _ _ _) (hysrc _ (hk2 hs2)) h1y (by rw [hfll]; simp only [Nat.min_def]; split <;> omega) (by rw [hfll, hcnl]; omega) rfl hk rfl rfl rfl rfl un50 sz116 rfl fun w a hk hs3 => ?_
      simp only [kset, Nat.beq_refl, if_true] at hs3
      show wpList _ _ _ [] _ _
      refine wpList_nil ?_
      refine hK16 _ _ ?_
      apply wp_seq_k; intro K15 hK15
      refine wp_region_tree (.q 0 (.q 1 (.q 2 (.q 3 (.q 4 (.q 5 (.q 6 (.q 7 (.alt 8 .done .stop))))))))) mo (by kernel_rfl) (hs3.dnil.pick [] rfl) fun _ => ?_
      have hs3 := hs3.drew
      refine tqst (.slice (some ⟨nb, 0, none⟩) (xs.length + ys.length) gc) hk rfl rfl rfl rfl (fun w hs => sm _ rfl hk rfl rfl rfl fun a hk => qe hk) fun a hk => ?_
      refine tqst (.int .i64 (i : Int)) hk rfl rfl rfl rfl (fun w hs => sm _ rfl hk rfl rfl rfl fun a hk => qe hk) fun a hk => ?_
      refine tqst (.int .i64 (ys.length : Int)) hk rfl rfl rfl rfl (fun w hs => sm _ rfl hk rfl rfl rfl fun a hk => qe hk) fun a hk => ?_
      refine tqst (.int .i64 (w64 ((i : Int) + (ys.length : Int)))) hk rfl rfl rfl rfl (fun w hs => sv (.int .i64 (w64 ((i : Int) + (ys.length : Int)))) hk rfl rfl rfl fun a hk => qe hk) fun a hk => ?_
      rw [ei] at hk
      refine tqst _ hk rfl rfl rfl rfl (fun w hs => sll_l rfl hk rfl rfl rfl rfl un50 sz116 (by omega) (by omega) fun a hk => qe hk) fun a hk => ?_
      have hk := hk.re (v' := .slice (some ⟨nb, (i + ys.length) * 2, none⟩) (xs.length + ys.length - (i + ys.length)) (gc - (i + ys.length))) 50 rfl (sl_off (by omega))
      refine tqst (.slice (some ⟨b, 0, none⟩) xs.length cap) hk rfl rfl rfl rfl (fun w hs => sm _ rfl hk rfl rfl rfl fun a hk => qe hk) fun a hk => ?_
      refine tqst (.int .i64 (i : Int)) hk rfl rfl rfl rfl (fun w hs => sm _ rfl hk rfl rfl rfl fun a hk => qe hk) fun a hk => ?_
      refine tqst _ hk rfl rfl rfl rfl (fun w hs => sll_l rfl hk rfl rfl rfl rfl un50 sz116 (by omega) (by omega) fun a hk => qe hk) fun a hk => ?_
      have hk := hk.re (v' := .slice (some ⟨b, i * 2, none⟩) (xs.length - i) (cap - i)) 53 rfl (sl_off (by omega))
      refine tsst hk rfl rfl (fun Kl hKl w hF => ?_) wt_stop
      have hs3 := hs3.f hF
      have hbw3 : w.heap[b]? = some (.cells cs 116 (0, 0)) := (hs3.drop k).hasG (by simp only [kdel, Nat.beq_refl, if_true]; exact kget_cons _ _ _) _ (List.mem_singleton.2 rfl)
      refine scp k _ (ess.flatten.drop (i * 2)) hs3 (kget_cons _ _ _) (hdropc _ hbw3) (fun u hu => h1x u (List.mem_of_mem_drop hu)) (by rw [hdl]; simp only [Nat.min_def]; split <;> omega) (by rw [List.size_toArray, put_len (by rw [hfll, hcln]; omega), hdl, hcln]; omega) rfl hk rfl rfl rfl rfl un50 sz116 rfl fun w a hk hs4 => ?_
      refine se (hs4.dnil.pick [] rfl) hk (hKl _ _ ?_)
      refine wtl_nil fun w hF _ => ?_
      have hs4 := hs4.f hF
      simp only [kset, Nat.beq_refl, if_true] at hs4
      refine hK15 _ _ ?_
      apply wp_seq_k; intro K17 hK17
      apply wp_region_lit
      refine sm _ rfl hk rfl rfl rfl fun a hk => ?_
      refine sa _ rfl hk rfl rfl rfl fun a hk => ?_
      show wpList _ _ _ [] _ _
      refine wpList_nil ?_
      refine hK17 _ _ ?_
      refine wp_ret ?_
      have hs5 := hs4.drop2 k
      refine fin hk _ [(.slice (some ⟨nb, 0, none⟩) (xs.length + ys.length) gc)] rfl ⟨rfl, trivial⟩ ⟨_, gc, _, by rw [elen]; rfl, own_ins hall hy hi ?_ ?_ (by omega) hgm, hs5⟩
      · have := ins_new (cs0 := cn.toList) (E0 := ess.flatten) (V := fss.flatten) (p := i * 2) (q := ys.length * 2) (N := xs.length * 2) hcnt hxl hfll (by omega) (by rw [hcln]; omega)
        rw [hLs, List.toList_toArray, List.toList_toArray, Nat.add_mul, Nat.add_mul]
        exact this
      · rw [hLs, List.size_toArray, List.toList_toArray, put_len (by rw [put_len (by rw [hfll, hcln]; omega), hdl, hcln]; omega), put_len (by rw [hfll, hcln]; omega), hcln]
    · have hk := hk.lit 31 (decide_eq_false (by rw [en]; omega)) rfl
      refine cnd_false hk rfl rfl ?_
      refine wp_skip ?_
      refine hK11 _ _ ?_
      apply wp_seq_k; intro K12 hK12
      apply wp_region_lit
      refine sm _ rfl hk rfl rfl rfl fun a hk => ?_
      refine sm _ rfl hk rfl rfl rfl fun a hk => ?_
      refine sm _ rfl hk rfl rfl rfl fun a hk => ?_
      refine sv (.int .i64 (w64 ((xs.length : Int) + (ys.length : Int)))) hk rfl rfl rfl fun a hk => ?_
      rw [en] at hk
      refine sll_h rfl hk rfl rfl rfl rfl un50 sz116 (by omega) (by omega) fun a hk => ?_
      have hk := hk.re (v' := .slice (some ⟨b, 0, none⟩) (xs.length + ys.length) cap) 60 rfl sl_head
      refine sa _ rfl hk rfl rfl rfl fun a hk => ?_
      show wpList _ _ _ [] _ _
      refine wpList_nil ?_
      refine hK12 _ _ ?_
      apply wp_seq_k; intro K14 hK14
      apply wp_seq_k; intro K13 hK13
      apply wp_region_lit
      refine sm _ rfl hk rfl rfl rfl fun a hk => ?_
      refine sm _ rfl hk rfl rfl rfl fun a hk => ?_
      refine sm _ rfl hk rfl rfl rfl fun a hk => ?_
      refine sm _ rfl hk rfl rfl rfl fun a hk => ?_
      refine sv (.int .i64 (w64 ((i : Int) + (ys.length : Int)))) hk rfl rfl rfl fun a hk => ?_
      rw [ei] at hk
      refine sll_l rfl hk rfl rfl rfl rfl un50 sz116 (by omega) (by omega) fun a hk => ?_
      have hk := hk.re (v' := .slice (some ⟨b, (i + ys.length) * 2, none⟩) (xs.length + ys.length - (i + ys.length)) (cap - (i + ys.length))) 66 rfl (sl_off (by omega))
      refine sce1 rfl (ov186 (A := .bool false) hbw2 hbw hbne (by omega)) hk rfl rfl rfl fun a hk => ?_
      refine sv (.bool true) hk rfl rfl rfl fun a hk => ?_
      show wpList _ _ _ [] _ _
      refine wpList_nil ?_
      refine hK13 _ _ ?_
      refine cnd_true hk rfl rfl ?_
      apply wp_seq_k; intro K15 hK15
      refine wp_region_tree (.q 0 (.q 1 (.q 2 (.q 3 (.q 4 (.q 5 (.q 6 (.q 7 (.alt 8 .done .stop))))))))) mo (by kernel_rfl) (hs1.dnil.pick [] rfl) fun _ => ?_
      have hs1 := hs1.drew
      refine tqst (.slice (some ⟨b, 0, none⟩) (xs.length + ys.length) cap) hk rfl rfl rfl rfl (fun w hs => sm _ rfl hk rfl rfl rfl fun a hk => qe hk) fun a hk => ?_
      refine tqst (.int .i64 (i : Int)) hk rfl rfl rfl rfl (fun w hs => sm _ rfl hk rfl rfl rfl fun a hk => qe hk) fun a hk => ?_
      refine tqst (.int .i64 (ys.length : Int)) hk rfl rfl rfl rfl (fun w hs => sm _ rfl hk rfl rfl rfl fun a hk => qe hk) fun a hk => ?_
      refine tqst (.int .i64 (w64 ((i : Int) + (ys.length : Int)))) hk rfl rfl rfl rfl (fun w hs => sv (.int .i64 (w64 ((i : Int) + (ys.length : Int)))) hk rfl rfl rfl fun a hk => qe hk) fun a hk => ?_
      rw [ei] at hk
      refine tqst _ hk rfl rfl rfl rfl (fun w hs => sll_l rfl hk rfl rfl rfl rfl un50 sz116 (by omega) (by omega) fun a hk => qe hk) fun a hk => ?_
      have hk := hk.re (v' := .slice (some ⟨b, (i + ys.length) * 2, none⟩) (xs.length + ys.length - (i + ys.length)) (cap - (i + ys.length))) 73 rfl (sl_off (by omega))
      refine tqst (.slice (some ⟨b, 0, none⟩) (xs.length + ys.length) cap) hk rfl rfl rfl rfl (fun w hs => sm _ rfl hk rfl rfl rfl fun a hk => qe hk) fun a hk => ?_
      refine tqst (.int .i64 (i : Int)) hk rfl rfl rfl rfl (fun w hs => sm _ rfl hk rfl rfl rfl fun a hk => qe hk) fun a hk => ?_
      refine tqst _ hk rfl rfl rfl rfl (fun w hs => sll_l rfl hk rfl rfl rfl rfl un50 sz116 (by omega) (by omega) fun a hk => qe hk) fun a hk => ?_
      have hk := hk.re (v' := .slice (some ⟨b, i * 2, none⟩) (xs.length + ys.length - i) (cap - i)) 76 rfl (sl_off (by omega))
      refine tsst hk rfl rfl (fun Kl hKl w hF => ?_) wt_stop
      have hs2 := hs1.f hF
      refine scp k _ (ess.flatten.drop (i * 2)) hs2 (kget_cons _ _ _) (hdropc _ (box_row hs2 (kget_cons _ _ _))) (fun u hu => h1x u (List.mem_of_mem_drop hu)) (by rw [hdl]; simp only [Nat.min_def]; split <;> omega) (by rw [hdl, hcs]; omega) rfl hk rfl rfl rfl rfl un50 sz116 rfl fun w a hk hs3 => ?_
      refine se (hs3.dnil.pick [] rfl) hk (hKl _ _ ?_)
      refine wtl_nil fun w hF _ => ?_
      have hs3 := hs3.f hF
      simp only [kset, Nat.beq_refl, if_true] at hs3
      refine hK15 _ _ ?_
      apply wp_seq_k; intro K16 hK16
      apply wp_region_lit
      refine sm _ rfl hk rfl rfl rfl fun a hk => ?_
      refine sm _ rfl hk rfl rfl rfl fun a hk => ?_
      refine sll_l rfl hk rfl rfl rfl rfl un50 sz116 (by omega) (by omega) fun a hk => ?_
      have hk := hk.re (v' := .slice (some ⟨b, i * 2, none⟩) (xs.length + ys.length - i) (cap - i)) 80 rfl (sl_off (by omega))
      refine sm _ rfl hk rfl rfl rfl fun a hk => ?_
      have hw3 : Has w ((b2, .cells cs2 116 (0, 0)) :: cd2) := (by have := hs3.drop k; simpa only [kdel, Nat.beq_refl, if_true] using this : Sat M w00 w Δ (kdel Γ k)).hasG hg2
      refine scp k _ fss.flatten hs3 (kget_cons _ _ _) (hysrc _ hw3) h1y (by rw [hfll]; simp only [Nat.min_def]; split <;> omega) (by rw [List.size_toArray, put_len (by rw [hdl, hcl]; omega), hfll, hcl]; omega) rfl hk rfl rfl rfl rfl un50 sz116 rfl fun w a hk hs4 => ?_
      show wpList _ _ _ [] _ _
      refine wpList_nil ?_
      refine hK16 _ _ ?_
      simp only [kset, Nat.beq_refl, if_true] at hs4
      apply wp_seq_k; intro K17 hK17
      apply wp_region_lit
      refine sm _ rfl hk rfl rfl rfl fun a hk => ?_
      refine sa _ rfl hk rfl rfl rfl fun a hk => ?_
      show wpList _ _ _ [] _ _
      refine wpList_nil ?_
      refine hK17 _ _ ?_
      refine wp_ret ?_
      refine fin hk _ [(.slice (some ⟨b, 0, none⟩) (xs.length + ys.length) cap)] rfl ⟨rfl, trivial⟩ ⟨_, cap, _, by rw [elen]; rfl, own_ins hall hy hi ?_ ?_ (by omega) htop, hs4⟩
      · have := ins_old (cs := cs.toList) (E0 := ess.flatten) (V := fss.flatten) (p := i * 2) (q := ys.length * 2) (N := xs.length * 2) htake hxl hfll (by omega) (by rw [hcl]; omega)
        rw [hLs, List.toList_toArray, List.toList_toArray, Nat.add_mul, Nat.add_mul]
        exact this
      · rw [hLs, List.size_toArray, List.toList_toArray, put_len (by rw [put_len (by rw [hdl, hcl]; omega), hfll, hcl]; omega), put_len (by rw [hdl, hcl]; omega), hcl]
theorem slices_Insert_impl_Entry_impl_Entry_t {M : List Nat} {w00 w : World} {Δ Γ : List (Nat × Chunk)} (k k2 : Nat) {A A' : Option Addr} {cap cap' : Nat} {xs ys : List S_Entry} {c c2 : Chunk} {i : Int}
    (hs : Sat M w00 w Δ Γ) (hg : kget Γ k = some c) (hown : Own L_Entry 116 A cap xs c) (hg2 : kget (kdel Γ k) k2 = some c2) (hv : Own L_Entry 116 A' cap' ys c2) (hpos : 0 < ys.length) (hi : (0 ≤ i ∧ i ≤ (xs.length : Int)) ∧ xs.length + ys.length ≤ 1073741824) :
    Calls Try.prog 152 #[.slice A xs.length cap, .int .i64 i, .slice A' ys.length cap'] w (Ret (fun v w' => ∃ A1 cap1 c1, v = .slice A1 (insL xs i.toNat ys).length cap1 ∧ Own L_Entry 116 A1 cap1 (insL xs i.toNat ys) c1 ∧ Sat M w00 w' Δ ((k, c1) :: kdel Γ k))) := by
  obtain ⟨n, rfl⟩ := Int.eq_ofNat_of_zero_le hi.1.1
  exact slices_Insert_impl_Entry_impl_Entry_n k k2 n hs hg hown hg2 hv hpos (by omega) hi.2

noncomputable def impl_Enc_entries.s0 (x0 : S_Enc) (u14 : List S_Entry) (u13 : Int) : Option (((List S_Entry) × Int) ⊕ Ex ((List S_Entry)) ((List S_Entry))) :=
  (bif (decide (u13 < (x0.Keys.length : Int))) then (if 0 ≤ u13 ∧ u13 < (x0.Keys.length : Int) then (((bif (decide ((x0.Keys.getD u13.toNat 0) > 0)) then ((impl_find.f u14 (x0.Keys.getD u13.toNat 0)).bind fun y54 => ((impl_Oram_valueAt.f x0.Oram u13).bind fun y56 => (if (0 ≤ y54.1 ∧ y54.1 ≤ (u14.length : Int)) ∧ u14.length + ([(⟨(x0.Keys.getD u13.toNat 0), y56⟩ : S_Entry)]).length ≤ 1073741824 then (some (insL u14 y54.1.toNat ([(⟨(x0.Keys.getD u13.toNat 0), y56⟩ : S_Entry)]))) else none))) else (some u14)) : Option ((List S_Entry))).bind fun u43 => (some (.inl (u43, (w64 (u13 + 1)))))) else none) else (some (.inr (.out u14))))
noncomputable def impl_Enc_entries.f (x0 : S_Enc) : Option ((List S_Entry)) :=
  ((loopO (fun s => impl_Enc_entries.s0 x0 s.1 s.2) (([] : List S_Entry), 0)).bind fun o => match o with | .out u19 => (some u19) | .ret r => (some r))
set_option maxRecDepth 100000 in
set_option maxHeartbeats 0 in
theorem impl_Enc_entries_t (w0 : World) (x0 : S_Enc) (A0_0 : Option Addr) (p0_0 : Nat) (k0_0 : Chunk) (v0_0 : View (Lay.int .i64) A0_0 p0_0 x0.Keys k0_0) (w0_0 : Has w0 k0_0) (A0_1 : Option Addr) (p0_1 : Nat) (k0_1 : Chunk) (v0_1 : View (Lay.int .i64) A0_1 p0_1 x0.Oram.Pos k0_1) (w0_1 : Has w0 k0_1) (A0_2 : Option Addr) (p0_2 : Nat) (k0_2 : Chunk) (v0_2 : View L_Block A0_2 p0_2 x0.Oram.Stash k0_2) (w0_2 : Has w0 k0_2) (A0_3 : Option Addr) (p0_3 : Nat) (k0_3 : Chunk) (v0_3 : View (Lay.sl L_Block 102) A0_3 p0_3 x0.Oram.Buckets k0_3) (w0_3 : Has w0 k0_3) (r : (List S_Entry)) (H : impl_Enc_entries.f x0 = some r) :
    Calls Try.prog 99 #[.agg #[.slice A0_0 x0.Keys.length p0_0, .slice A0_1 x0.Oram.Pos.length p0_1, .slice A0_2 x0.Oram.Stash.length p0_2, .slice A0_3 x0.Oram.Buckets.length p0_3]] w0 (Ret (fun v w => ∃ (A0 : Option Addr) (p0 : Nat) (k0 : Chunk), v = .slice A0 r.length p0 ∧ Own L_Entry 116 A0 p0 r k0 ∧ Sat [] w0 w [] [(0, k0)])) := by
  have hs : Sat [] w0 w0 [(1, k0_0), (2, k0_1), (3, k0_2), (4, k0_3)] [] := Sat.init w0 [(1, k0_0), (2, k0_1), (3, k0_2), (4, k0_3)] [] (by simp only [List.mem_cons, List.not_mem_nil, or_false]; rintro x (rfl | rfl | rfl | rfl) <;> assumption) (by simp) List.nodup_nil (by simp [blks])
  unfold impl_Enc_entries.f at H
  refine enter Try.func99 rfl Try.ntmps99 rfl fun a hk => ?_
  apply wp_seq_k; intro K1 hK1
  apply wp_region_lit
  refine sbx 5 hs rfl hk rfl rfl rfl rfl fun b2 w a hk hs => ?_
  refine sa _ rfl hk rfl rfl rfl fun a hk => ?_
  show wpList _ _ _ [] _ _
  refine wpList_nil ?_
  refine hK1 _ _ ?_
  apply wp_seq_k; intro K3 hK3
  apply wp_region_lit
  refine sa _ rfl hk rfl rfl rfl fun a hk => ?_
  show wpList _ _ _ [] _ _
  refine wpList_nil ?_
  refine hK3 _ _ ?_
  apply wp_seq_k; intro K4 hK4
  apply wp_seq_k; intro K5 hK5
  apply wp_region_lit
  refine sf ⟨b2, 0, none⟩ rfl hk rfl rfl rfl fd54_0 rfl fun a hk => ?_
  refine sl rfl hk rfl rfl rfl ag22 (box_cell hs (k := 5) rfl rfl) fun a hk => ?_
  refine sle rfl hk rfl rfl rfl un22 fun a hk => ?_
  refine sm _ rfl hk rfl rfl rfl fun a hk => ?_
  show wpList _ _ _ [] _ _
  refine wpList_nil ?_
  refine hK5 _ _ ?_
  obtain ⟨o24, h25, HL26⟩ := bind_some H
  clear H
  obtain ⟨R27, hR27⟩ : ∃ R : Act → World → Prop, R = fun a w => ∃ (u19 : List S_Entry) (A22 : Option Addr) (p23 : Nat) (k20 : Chunk), o24 = .out u19 ∧ Kn [(3, (.slice A22 u19.length p23))] 36 a ∧ Sat [] w0 w [(1, k0_0), (2, k0_1), (3, k0_2), (4, k0_3)] [(8, k20)] ∧ Own L_Entry 116 A22 p23 u19 k20 := ⟨_, rfl⟩
  refine wp_cutq R27 ?_ ?_
  · refine wp_block ?_
    obtain ⟨fu29, h25⟩ := loopO_some h25
    obtain ⟨I28, hI28⟩ : ∃ I : Nat → Act → World → Prop, I = fun fu a w => ∃ (u14 : List S_Entry) (u13 : Int) (A17 : Option Addr) (p18 : Nat) (k15 : Chunk), loopN (fun s => impl_Enc_entries.s0 x0 s.1 s.2) fu (u14, u13) = some o24 ∧ Kn [(1, (.pointer (some ⟨b2, 0, none⟩))), (3, (.slice A17 u14.length p18)), (9, (.slice A0_0 x0.Keys.length p0_0)), (10, (.int .i64 (x0.Keys.length : Int))), (11, (.int .i64 u13))] 36 a ∧ Sat [] w0 w [(1, k0_0), (2, k0_1), (3, k0_2), (4, k0_3)] [(8, k15), (5, [(b2, .cells #[.slice A0_0 x0.Keys.length p0_0, .slice A0_1 x0.Oram.Pos.length p0_1, .slice A0_2 x0.Oram.Stash.length p0_2, .slice A0_3 x0.Oram.Buckets.length p0_3] 54 (0, 0))])] ∧ Own L_Entry 116 A17 p18 u14 k15 := ⟨_, rfl⟩
    refine wp_loop_ghost I28 fu29 ?_ ?_
    · rw [hI28]
      exact ⟨([] : List S_Entry), 0, none, 0, _, h25, (hk.c 1 rfl (hk.c 3 rfl (hk.c 9 rfl (hk.c 10 rfl (hk.c 11 rfl hk.k))))), ((hs.addNil 1008).pick [(8, 1008), (5, 5)] rfl), Own.nil _ _⟩
    · clear h25 hk hs
      intro fu29 a w hI0
      rw [hI28] at hI0
      obtain ⟨u14, u13, A17, p18, k15, hi, hk, hs, o16⟩ := hI0
      obtain ⟨x30, H, h31⟩ := loop_round hi
      try dsimp only at H
      unfold impl_Enc_entries.s0 at H
      apply wp_seq_k; intro K32 hK32
      apply wp_region_lit
      refine sv (.bool (decide (u13 < (x0.Keys.length : Int)))) hk rfl rfl rfl fun a hk => ?_
      show wpList _ _ _ [] _ _
      refine wpList_nil ?_
      refine hK32 _ _ ?_
      apply wp_seq_k; intro K33 hK33
      rcases cond_some H with ⟨c34, H⟩ | ⟨c34, H⟩
      · have hk := hk.lit 12 c34 rfl
        refine cnd_true hk rfl rfl ?_
        refine wp_skip ?_
        refine hK33 _ _ ?_
        apply wp_seq_k; intro K35 hK35
        refine wp_block ?_
        apply wp_seq_k; intro K36 hK36
        apply wp_region_lit
        refine sm _ rfl hk rfl rfl rfl fun a hk => ?_
        rcases ite_some H with ⟨c37, H⟩ | ⟨_, H⟩
        rotate_left
        · cases H
        obtain ⟨b38, q39, hAc37⟩ := (v0_0).some_ u13 c37.1 c37.2
        refine si rfl hk rfl rfl rfl rfl un22 sz3 c37.1 c37.2 hAc37 fun a hk => ?_
        obtain ⟨_, rfl, e40⟩ := (v0_0).at_ 0 u13 c37.1 c37.2
        refine sl (v := (.int .i64 (x0.Keys.getD u13.toNat 0))) rfl hk rfl rfl rfl ag3 ((e40 0 _ rfl).cell (hs.hasD (k := 1) rfl)) fun a hk => ?_
        refine sa _ rfl hk rfl rfl rfl fun a hk => ?_
        refine sa _ rfl hk rfl rfl rfl fun a hk => ?_
        show wpList _ _ _ [] _ _
        refine wpList_nil ?_
        refine hK36 _ _ ?_
        apply wp_seq_k; intro K41 hK41
        apply wp_region_lit
        refine sm _ rfl hk rfl rfl rfl fun a hk => ?_
        refine sv (.bool (decide ((x0.Keys.getD u13.toNat 0) > 0))) hk rfl rfl rfl fun a hk => ?_
        show wpList _ _ _ [] _ _
        refine wpList_nil ?_
        refine hK41 _ _ ?_
        obtain ⟨o48, h49, HL50⟩ := bind_some H
        clear H
        obtain ⟨R51, hR51⟩ : ∃ R : Act → World → Prop, R = fun a w => ∃ (u43 : List S_Entry) (A46 : Option Addr) (p47 : Nat) (k44 : Chunk), u43 = o48 ∧ Kn [(1, (.pointer (some ⟨b2, 0, none⟩))), (3, (.slice A46 u43.length p47)), (9, (.slice A0_0 x0.Keys.length p0_0)), (10, (.int .i64 (x0.Keys.length : Int))), (11, (.int .i64 u13))] 36 a ∧ Sat [] w0 w [(1, k0_0), (2, k0_1), (3, k0_2), (4, k0_3)] [(8, k44), (5, [(b2, .cells #[.slice A0_0 x0.Keys.length p0_0, .slice A0_1 x0.Oram.Pos.length p0_1, .slice A0_2 x0.Oram.Stash.length p0_2, .slice A0_3 x0.Oram.Buckets.length p0_3] 54 (0, 0))])] ∧ Own L_Entry 116 A46 p47 u43 k44 := ⟨_, rfl⟩
        refine wp_cutq R51 ?_ ?_
        · have H := h49
          rcases cond_some H with ⟨c52, H⟩ | ⟨c52, H⟩
          · have hk := hk.lit 17 c52 rfl
            refine cnd_true hk rfl rfl ?_
            apply wp_seq_k; intro K53 hK53
            apply wp_region_lit
            refine sm _ rfl hk rfl rfl rfl fun a hk => ?_
            refine sm _ rfl hk rfl rfl rfl fun a hk => ?_
            obtain ⟨y54, h55, H⟩ := bind_some H
            refine sc rfl en151 hk rfl rfl rfl (impl_find_t _ A17 p18 u14 _ o16.view (hs.hasG (k := 8) rfl) (x0.Keys.getD u13.toNat 0) _ h55) ?_
            rintro _ w ⟨rfl, hG⟩ a hk
            have hs := hs.call0 hG
            refine sm _ rfl hk rfl rfl rfl fun a hk => ?_
            refine sv (.int .i64 y54.1) hk rfl rfl rfl fun a hk => ?_
            refine sv (.bool y54.2) hk rfl rfl rfl fun a hk => ?_
            refine sa _ rfl hk rfl rfl rfl fun a hk => ?_
            refine sa _ rfl hk rfl rfl rfl fun a hk => ?_
            show wpList _ _ _ [] _ _
            refine wpList_nil ?_
            refine hK53 _ _ ?_
            apply wp_region_lit
            refine sm _ rfl hk rfl rfl rfl fun a hk => ?_
            refine sm _ rfl hk rfl rfl rfl fun a hk => ?_
            refine sm _ rfl hk rfl rfl rfl fun a hk => ?_
            refine sf ⟨b2, 1, none⟩ rfl hk rfl rfl rfl fd54_1 rfl fun a hk => ?_
            refine sln [.slice A0_1 x0.Oram.Pos.length p0_1, .slice A0_2 x0.Oram.Stash.length p0_2, .slice A0_3 x0.Oram.Buckets.length p0_3] rfl hk rfl rfl rfl ag31 sz31 (box_part hs (k := 5) rfl rfl) fun a hk => ?_
            refine sm _ rfl hk rfl rfl rfl fun a hk => ?_
            obtain ⟨y56, h57, H⟩ := bind_some H
            refine sc rfl en87 hk rfl rfl rfl (impl_Oram_valueAt_t _ x0.Oram A0_1 p0_1 _ v0_1 (hs.hasD (k := 2) rfl) A0_2 p0_2 _ v0_2 (hs.hasD (k := 3) rfl) A0_3 p0_3 _ v0_3 (hs.hasD (k := 4) rfl) u13 _ h57) ?_
            rintro _ w ⟨rfl, hG⟩ a hk
            have hs := hs.call0 hG
            refine sbd (pv := [(0, (.int .i64 (x0.Keys.getD u13.toNat 0))), (1, (.int .i64 y56))]) rfl hk rfl rfl rfl (bd116_1 (x0.Keys.getD u13.toNat 0) y56) fun a hk => ?_
            refine sbs (L := L_Entry) (pv := [(0, (.agg #[.int .i64 (x0.Keys.getD u13.toNat 0), .int .i64 y56]))]) (xs := [(⟨(x0.Keys.getD u13.toNat 0), y56⟩ : S_Entry)]) (ess := [[.int .i64 (x0.Keys.getD u13.toNat 0), .int .i64 y56]]) 10 hs rfl hk rfl rfl rfl un50 (bs116_2 (x0.Keys.getD u13.toNat 0) y56) (AllOwn.cons0 ⟨rfl, rfl⟩ AllOwn.nil) rfl rfl rfl fun b58 k59 w a hk o60 hs => ?_
            rcases ite_some H with ⟨c61, H⟩ | ⟨_, H⟩
            rotate_left
            · cases H
            refine sc rfl en152 hk rfl rfl rfl (slices_Insert_impl_Entry_impl_Entry_t 8 10 (xs := u14) (ys := [(⟨(x0.Keys.getD u13.toNat 0), y56⟩ : S_Entry)]) hs rfl o16 rfl o60 (by simp) c61) ?_
            rintro _ w ⟨A62, p63, k64, rfl, o65, hs⟩ a hk
            refine sa _ rfl hk rfl rfl rfl fun a hk => ?_
            show wpList _ _ _ [] _ _
            refine wpList_nil ?_
            obtain rfl := Option.some.inj H
            show R51 _ _
            rw [hR51]
            exact ⟨(insL u14 y54.1.toNat ([(⟨(x0.Keys.getD u13.toNat 0), y56⟩ : S_Entry)])), A62, p63, _, rfl, (hk.c 1 rfl (hk.c 3 rfl (hk.c 9 rfl (hk.c 10 rfl (hk.c 11 rfl hk.k))))), (hs.pick [(8, 8), (5, 5)] rfl), o65⟩
          · have hk := hk.lit 17 c52 rfl
            refine cnd_false hk rfl rfl ?_
            refine wp_skip ?_
            obtain rfl := Option.some.inj H
            show R51 _ _
            rw [hR51]
            exact ⟨u14, A17, p18, _, rfl, (hk.c 1 rfl (hk.c 3 rfl (hk.c 9 rfl (hk.c 10 rfl (hk.c 11 rfl hk.k))))), (hs.pick [(8, 8), (5, 5)] rfl), o16⟩
        · intro a w hR0
          rw [hR51] at hR0
          obtain ⟨u43, A46, p47, k44, rfl, hk, hs, o45⟩ := hR0
          have H := HL50
          try dsimp only at H
          refine hK35 _ _ ?_
          apply wp_region_lit
          refine sv (.int .i64 (w64 (u13 + 1))) hk rfl rfl rfl fun a hk => ?_
          refine sm _ rfl hk rfl rfl rfl fun a hk => ?_
          show wpList _ _ _ [] _ _
          refine wpList_nil ?_
          obtain rfl := Option.some.inj H
          obtain ⟨m66, hmm66, h31⟩ := h31
          show ∃ n', n' < _ ∧ I28 n' _ _
          refine ⟨m66, hmm66, ?_⟩
          rw [hI28]
          exact ⟨u43, (w64 (u13 + 1)), A46, p47, _, h31, (hk.c 1 rfl (hk.c 3 rfl (hk.c 9 rfl (hk.c 10 rfl (hk.c 11 rfl hk.k))))), (hs.pick [(8, 8), (5, 5)] rfl), o45⟩
      · have hk := hk.lit 12 c34 rfl
        refine cnd_false hk rfl rfl ?_
        refine wp_exit ?_
        obtain rfl := Option.some.inj H
        show R27 _ _
        rw [hR27]
        exact ⟨u14, A17, p18, _, h31.symm, (hk.c 3 rfl hk.k), (hs.pick [(8, 8)] rfl), o16⟩
  · intro a w hR0
    rw [hR27] at hR0
    obtain ⟨u19, A22, p23, k20, rfl, hk, hs, o21⟩ := hR0
    have H := HL26
    try dsimp only at H
    refine hK4 _ _ ?_
    apply wp_seq_k; intro K67 hK67
    apply wp_region_lit
    refine sm _ rfl hk rfl rfl rfl fun a hk => ?_
    refine sa _ rfl hk rfl rfl rfl fun a hk => ?_
    show wpList _ _ _ [] _ _
    refine wpList_nil ?_
    refine hK67 _ _ ?_
    refine wp_ret ?_
    obtain rfl := Option.some.inj H
    exact fin hk _ [(.slice A22 u19.length p23)] rfl ⟨rfl, trivial⟩ ⟨A22, p23, _, rfl, o21, (hs.pick [(0, 8)] rfl).dnil⟩

noncomputable def impl_MapOf.f (x0 : S_Enc) : Option ((List S_Entry) × Int) :=
  ((impl_EncOK.f x0).bind fun y5 => (bif (!y5) then (some (([] : List S_Entry), 1)) else ((impl_Enc_entries.f x0).bind fun y10 => (some (y10, 0)))))
set_option maxRecDepth 100000 in
set_option maxHeartbeats 0 in
theorem impl_MapOf_t (w0 : World) (x0 : S_Enc) (A0_0 : Option Addr) (p0_0 : Nat) (k0_0 : Chunk) (v0_0 : View (Lay.int .i64) A0_0 p0_0 x0.Keys k0_0) (w0_0 : Has w0 k0_0) (A0_1 : Option Addr) (p0_1 : Nat) (k0_1 : Chunk) (v0_1 : View (Lay.int .i64) A0_1 p0_1 x0.Oram.Pos k0_1) (w0_1 : Has w0 k0_1) (A0_2 : Option Addr) (p0_2 : Nat) (k0_2 : Chunk) (v0_2 : View L_Block A0_2 p0_2 x0.Oram.Stash k0_2) (w0_2 : Has w0 k0_2) (A0_3 : Option Addr) (p0_3 : Nat) (k0_3 : Chunk) (v0_3 : View (Lay.sl L_Block 102) A0_3 p0_3 x0.Oram.Buckets k0_3) (w0_3 : Has w0 k0_3) (r : (List S_Entry) × Int) (H : impl_MapOf.f x0 = some r) :
    Calls Try.prog 27 #[.agg #[.slice A0_0 x0.Keys.length p0_0, .slice A0_1 x0.Oram.Pos.length p0_1, .slice A0_2 x0.Oram.Stash.length p0_2, .slice A0_3 x0.Oram.Buckets.length p0_3]] w0 (Ret (fun v w => ∃ (A0 : Option Addr) (p0 : Nat) (k0 : Chunk), v = .tuple #[.slice A0 r.1.length p0, .int .i64 r.2] ∧ Own L_Entry 116 A0 p0 r.1 k0 ∧ Sat [] w0 w [] [(0, k0)])) := by
  have hs : Sat [] w0 w0 [(1, k0_0), (2, k0_1), (3, k0_2), (4, k0_3)] [] := Sat.init w0 [(1, k0_0), (2, k0_1), (3, k0_2), (4, k0_3)] [] (by simp only [List.mem_cons, List.not_mem_nil, or_false]; rintro x (rfl | rfl | rfl | rfl) <;> assumption) (by simp) List.nodup_nil (by simp [blks])
  unfold impl_MapOf.f at H
  refine enter Try.func27 rfl Try.ntmps27 rfl fun a hk => ?_
  apply wp_seq_k; intro K1 hK1
  apply wp_region_lit
  refine sbx 5 hs rfl hk rfl rfl rfl rfl fun b2 w a hk hs => ?_
  refine sa _ rfl hk rfl rfl rfl fun a hk => ?_
  refine sa _ rfl hk rfl rfl rfl fun a hk => ?_
  show wpList _ _ _ [] _ _
  refine wpList_nil ?_
  refine hK1 _ _ ?_
  apply wp_seq_k; intro K3 hK3
  apply wp_seq_k; intro K4 hK4
  apply wp_region_lit
  refine sln [.slice A0_0 x0.Keys.length p0_0, .slice A0_1 x0.Oram.Pos.length p0_1, .slice A0_2 x0.Oram.Stash.length p0_2, .slice A0_3 x0.Oram.Buckets.length p0_3] rfl hk rfl rfl rfl ag54 sz54 (box_cells hs (k := 5) rfl) fun a hk => ?_
  obtain ⟨y5, h6, H⟩ := bind_some H
  refine sc rfl en98 hk rfl rfl rfl (impl_EncOK_t _ x0 A0_0 p0_0 _ v0_0 (hs.hasD (k := 1) rfl) A0_1 p0_1 _ v0_1 (hs.hasD (k := 2) rfl) A0_2 p0_2 _ v0_2 (hs.hasD (k := 3) rfl) A0_3 p0_3 _ v0_3 (hs.hasD (k := 4) rfl) _ h6) ?_
  rintro _ w ⟨rfl, hG⟩ a hk
  have hs := hs.call0 hG
  refine sv (.bool (!y5)) hk rfl rfl rfl fun a hk => ?_
  show wpList _ _ _ [] _ _
  refine wpList_nil ?_
  refine hK4 _ _ ?_
  rcases cond_some H with ⟨c7, H⟩ | ⟨c7, H⟩
  · have hk := hk.lit 6 c7 rfl
    refine cnd_true hk rfl rfl ?_
    apply wp_seq_k; intro K8 hK8
    apply wp_region_lit
    refine sa _ rfl hk rfl rfl rfl fun a hk => ?_
    refine sa _ rfl hk rfl rfl rfl fun a hk => ?_
    show wpList _ _ _ [] _ _
    refine wpList_nil ?_
    refine hK8 _ _ ?_
    refine wp_ret ?_
    obtain rfl := Option.some.inj H
    have hs := hs.addNil 6
    exact fin hk _ [(.slice none 0 0), (.int .i64 1)] rfl ⟨rfl, ⟨rfl, trivial⟩⟩ ⟨none, 0, [], rfl, Own.nil _ _, (hs.pick [(0, 6)] rfl).dnil⟩
  · have hk := hk.lit 6 c7 rfl
    refine cnd_false hk rfl rfl ?_
    refine wp_skip ?_
    refine hK3 _ _ ?_
    apply wp_seq_k; intro K9 hK9
    apply wp_region_lit
    refine sln [.slice A0_0 x0.Keys.length p0_0, .slice A0_1 x0.Oram.Pos.length p0_1, .slice A0_2 x0.Oram.Stash.length p0_2, .slice A0_3 x0.Oram.Buckets.length p0_3] rfl hk rfl rfl rfl ag54 sz54 (box_cells hs (k := 5) rfl) fun a hk => ?_
    obtain ⟨y10, h11, H⟩ := bind_some H
    refine sc rfl en99 hk rfl rfl rfl (impl_Enc_entries_t _ x0 A0_0 p0_0 _ v0_0 (hs.hasD (k := 1) rfl) A0_1 p0_1 _ v0_1 (hs.hasD (k := 2) rfl) A0_2 p0_2 _ v0_2 (hs.hasD (k := 3) rfl) A0_3 p0_3 _ v0_3 (hs.hasD (k := 4) rfl) _ h11) ?_
    rintro _ w ⟨A12, p13, k14, rfl, o15, hG⟩ a hk
    have hs := hs.call0k hG [7] rfl
    refine sa _ rfl hk rfl rfl rfl fun a hk => ?_
    refine sa _ rfl hk rfl rfl rfl fun a hk => ?_
    show wpList _ _ _ [] _ _
    refine wpList_nil ?_
    refine hK9 _ _ ?_
    refine wp_ret ?_
    obtain rfl := Option.some.inj H
    exact fin hk _ [(.slice A12 y10.length p13), (.int .i64 0)] rfl ⟨rfl, ⟨rfl, trivial⟩⟩ ⟨A12, p13, _, rfl, o15, (hs.pick [(0, 7)] rfl).dnil⟩

noncomputable def laws_eqEntry.f (x0 : S_Entry) (x1 : S_Entry) : Option (Bool) :=
  (bif (x0.Key != x1.Key) then (some false) else (bif (x0.Value != x1.Value) then (some false) else (some true)))
set_option maxRecDepth 100000 in
set_option maxHeartbeats 0 in
theorem laws_eqEntry_t (w0 : World) (x0 : S_Entry) (x1 : S_Entry) (r : Bool) (H : laws_eqEntry.f x0 x1 = some r) :
    Calls Try.prog 100 #[.agg #[.int .i64 x0.Key, .int .i64 x0.Value], .agg #[.int .i64 x1.Key, .int .i64 x1.Value]] w0 (Ret (fun v w => v = .bool r ∧ Sat [] w0 w [] [])) := by
  have hs : Sat [] w0 w0 [] [] := Sat.init w0 [] [] (by simp) (by simp) List.nodup_nil (by simp [blks])
  unfold laws_eqEntry.f at H
  refine enter Try.func100 rfl Try.ntmps100 rfl fun a hk => ?_
  apply wp_seq_k; intro K1 hK1
  apply wp_region_lit
  refine sbx 1 hs rfl hk rfl rfl rfl rfl fun b2 w a hk hs => ?_
  refine sbx 2 hs rfl hk rfl rfl rfl rfl fun b3 w a hk hs => ?_
  refine sa _ rfl hk rfl rfl rfl fun a hk => ?_
  show wpList _ _ _ [] _ _
  refine wpList_nil ?_
  refine hK1 _ _ ?_
  apply wp_seq_k; intro K4 hK4
  apply wp_seq_k; intro K5 hK5
  apply wp_region_lit
  refine sf ⟨b2, 0, none⟩ rfl hk rfl rfl rfl fd116_0 rfl fun a hk => ?_
  refine sl rfl hk rfl rfl rfl ag3 (box_cell hs (k := 1) rfl rfl) fun a hk => ?_
  refine sf ⟨b3, 0, none⟩ rfl hk rfl rfl rfl fd116_0 rfl fun a hk => ?_
  refine sl rfl hk rfl rfl rfl ag3 (box_cell hs (k := 2) rfl rfl) fun a hk => ?_
  refine sv (.bool (x0.Key != x1.Key)) hk rfl rfl rfl fun a hk => ?_
  show wpList _ _ _ [] _ _
  refine wpList_nil ?_
  refine hK5 _ _ ?_
  rcases cond_some H with ⟨c6, H⟩ | ⟨c6, H⟩
  · have hk := hk.lit 9 c6 rfl
    refine cnd_true hk rfl rfl ?_
    apply wp_seq_k; intro K7 hK7
    apply wp_region_lit
    refine sa _ rfl hk rfl rfl rfl fun a hk => ?_
    show wpList _ _ _ [] _ _
    refine wpList_nil ?_
    refine hK7 _ _ ?_
    refine wp_ret ?_
    obtain rfl := Option.some.inj H
    exact fin hk _ [(.bool false)] rfl ⟨rfl, trivial⟩ ⟨rfl, (hs.pick [] rfl).dnil⟩
  · have hk := hk.lit 9 c6 rfl
    refine cnd_false hk rfl rfl ?_
    refine wp_skip ?_
    refine hK4 _ _ ?_
    apply wp_seq_k; intro K8 hK8
    apply wp_seq_k; intro K9 hK9
    apply wp_region_lit
    refine sf ⟨b2, 1, none⟩ rfl hk rfl rfl rfl fd116_1 rfl fun a hk => ?_
    refine sl rfl hk rfl rfl rfl ag3 (box_cell hs (k := 1) rfl rfl) fun a hk => ?_
    refine sf ⟨b3, 1, none⟩ rfl hk rfl rfl rfl fd116_1 rfl fun a hk => ?_
    refine sl rfl hk rfl rfl rfl ag3 (box_cell hs (k := 2) rfl rfl) fun a hk => ?_
    refine sv (.bool (x0.Value != x1.Value)) hk rfl rfl rfl fun a hk => ?_
    show wpList _ _ _ [] _ _
    refine wpList_nil ?_
    refine hK9 _ _ ?_
    rcases cond_some H with ⟨c10, H⟩ | ⟨c10, H⟩
    · have hk := hk.lit 14 c10 rfl
      refine cnd_true hk rfl rfl ?_
      apply wp_seq_k; intro K11 hK11
      apply wp_region_lit
      refine sa _ rfl hk rfl rfl rfl fun a hk => ?_
      show wpList _ _ _ [] _ _
      refine wpList_nil ?_
      refine hK11 _ _ ?_
      refine wp_ret ?_
      obtain rfl := Option.some.inj H
      exact fin hk _ [(.bool false)] rfl ⟨rfl, trivial⟩ ⟨rfl, (hs.pick [] rfl).dnil⟩
    · have hk := hk.lit 14 c10 rfl
      refine cnd_false hk rfl rfl ?_
      refine wp_skip ?_
      refine hK8 _ _ ?_
      apply wp_seq_k; intro K12 hK12
      apply wp_region_lit
      refine sa _ rfl hk rfl rfl rfl fun a hk => ?_
      show wpList _ _ _ [] _ _
      refine wpList_nil ?_
      refine hK12 _ _ ?_
      refine wp_ret ?_
      obtain rfl := Option.some.inj H
      exact fin hk _ [(.bool true)] rfl ⟨rfl, trivial⟩ ⟨rfl, (hs.pick [] rfl).dnil⟩

noncomputable def laws_eqEntryS.s0 (l0 : List S_Entry) (l1 : List S_Entry) (u10 : Int) : Option ((Int) ⊕ Ex (Unit) (Bool)) :=
  (bif (decide (u10 < (l0.length : Int))) then (if 0 ≤ u10 ∧ u10 < (l0.length : Int) then (if 0 ≤ u10 ∧ u10 < (l1.length : Int) then ((laws_eqEntry.f (l0.getD u10.toNat z_Entry) (l1.getD u10.toNat z_Entry)).bind fun y33 => (bif (!y33) then (some (.inr (.ret false))) else (some (.inl (w64 (u10 + 1)))))) else none) else none) else (some (.inr (.out ()))))
noncomputable def laws_eqEntryS.f (l0 : List S_Entry) (l1 : List S_Entry) : Option (Bool) :=
  (bif ((l0.length : Int) != (l1.length : Int)) then (some false) else ((loopO (fun s => laws_eqEntryS.s0 l0 l1 s) 0).bind fun o => match o with | .out _ => (some true) | .ret r => (some r)))
set_option maxRecDepth 100000 in
set_option maxHeartbeats 0 in
theorem laws_eqEntryS_t (w0 : World) (A0_ : Option Addr) (p0_ : Nat) (l0 : List S_Entry) (k0_ : Chunk) (v0_ : View L_Entry A0_ p0_ l0 k0_) (w0_ : Has w0 k0_) (A1_ : Option Addr) (p1_ : Nat) (l1 : List S_Entry) (k1_ : Chunk) (v1_ : View L_Entry A1_ p1_ l1 k1_) (w1_ : Has w0 k1_) (r : Bool) (H : laws_eqEntryS.f l0 l1 = some r) :
    Calls Try.prog 28 #[.slice A0_ l0.length p0_, .slice A1_ l1.length p1_] w0 (Ret (fun v w => v = .bool r ∧ Sat [] w0 w [] [])) := by
  have hs : Sat [] w0 w0 [(1, k0_), (2, k1_)] [] := Sat.init w0 [(1, k0_), (2, k1_)] [] (by simp only [List.mem_cons, List.not_mem_nil, or_false]; rintro x (rfl | rfl) <;> assumption) (by simp) List.nodup_nil (by simp [blks])
  unfold laws_eqEntryS.f at H
  refine enter Try.func28 rfl Try.ntmps28 rfl fun a hk => ?_
  apply wp_seq_k; intro K1 hK1
  apply wp_region_lit
  refine sa _ rfl hk rfl rfl rfl fun a hk => ?_
  show wpList _ _ _ [] _ _
  refine wpList_nil ?_
  refine hK1 _ _ ?_
  apply wp_seq_k; intro K2 hK2
  apply wp_seq_k; intro K3 hK3
  apply wp_region_lit
  refine sm _ rfl hk rfl rfl rfl fun a hk => ?_
  refine sle rfl hk rfl rfl rfl un50 fun a hk => ?_
  refine sm _ rfl hk rfl rfl rfl fun a hk => ?_
  refine sle rfl hk rfl rfl rfl un50 fun a hk => ?_
  refine sv (.bool ((l0.length : Int) != (l1.length : Int))) hk rfl rfl rfl fun a hk => ?_
  show wpList _ _ _ [] _ _
  refine wpList_nil ?_
  refine hK3 _ _ ?_
  rcases cond_some H with ⟨c4, H⟩ | ⟨c4, H⟩
  · have hk := hk.lit 10 c4 rfl
    refine cnd_true hk rfl rfl ?_
    apply wp_seq_k; intro K5 hK5
    apply wp_region_lit
    refine sa _ rfl hk rfl rfl rfl fun a hk => ?_
    show wpList _ _ _ [] _ _
    refine wpList_nil ?_
    refine hK5 _ _ ?_
    refine wp_ret ?_
    obtain rfl := Option.some.inj H
    exact fin hk _ [(.bool false)] rfl ⟨rfl, trivial⟩ ⟨rfl, (hs.pick [] rfl).dnil⟩
  · have hk := hk.lit 10 c4 rfl
    refine cnd_false hk rfl rfl ?_
    refine wp_skip ?_
    refine hK2 _ _ ?_
    apply wp_seq_k; intro K6 hK6
    apply wp_seq_k; intro K7 hK7
    apply wp_region_lit
    refine sa _ rfl hk rfl rfl rfl fun a hk => ?_
    show wpList _ _ _ [] _ _
    refine wpList_nil ?_
    refine hK7 _ _ ?_
    obtain ⟨o11, h12, HL13⟩ := bind_some H
    clear H
    obtain ⟨R14, hR14⟩ : ∃ R : Act → World → Prop, R = fun a w => o11 = .out () ∧ Kn [] 27 a ∧ Sat [] w0 w [(1, k0_), (2, k1_)] [] := ⟨_, rfl⟩
    refine wp_cutq R14 ?_ ?_
    · refine wp_block ?_
      obtain ⟨fu16, h12⟩ := loopO_some h12
      obtain ⟨I15, hI15⟩ : ∃ I : Nat → Act → World → Prop, I = fun fu a w => ∃ (u10 : Int), loopN (fun s => laws_eqEntryS.s0 l0 l1 s) fu u10 = some o11 ∧ Kn [(0, (.slice A0_ l0.length p0_)), (1, (.slice A1_ l1.length p1_)), (5, (.int .i64 u10))] 27 a ∧ Sat [] w0 w [(1, k0_), (2, k1_)] [] := ⟨_, rfl⟩
      refine wp_loop_ghost I15 fu16 ?_ ?_
      · rw [hI15]
        exact ⟨0, h12, (hk.c 0 rfl (hk.c 1 rfl (hk.c 5 rfl hk.k))), (hs.pick [] rfl)⟩
      · clear h12 hk hs
        intro fu16 a w hI0
        rw [hI15] at hI0
        obtain ⟨u10, hi, hk, hs⟩ := hI0
        obtain ⟨x17, H, h18⟩ := loop_round hi
        try dsimp only at H
        unfold laws_eqEntryS.s0 at H
        apply wp_seq_k; intro K19 hK19
        apply wp_seq_k; intro K20 hK20
        apply wp_region_lit
        refine sm _ rfl hk rfl rfl rfl fun a hk => ?_
        refine sm _ rfl hk rfl rfl rfl fun a hk => ?_
        refine sle rfl hk rfl rfl rfl un50 fun a hk => ?_
        refine sv (.bool (decide (u10 < (l0.length : Int)))) hk rfl rfl rfl fun a hk => ?_
        show wpList _ _ _ [] _ _
        refine wpList_nil ?_
        refine hK20 _ _ ?_
        rcases cond_some H with ⟨c21, H⟩ | ⟨c21, H⟩
        · have hk := hk.lit 14 c21 rfl
          refine cnd_true hk rfl rfl ?_
          refine wp_skip ?_
          refine hK19 _ _ ?_
          apply wp_seq_k; intro K22 hK22
          refine wp_block ?_
          apply wp_seq_k; intro K23 hK23
          refine wp_region_tree (.q 0 (.q 1 (.q 2 (.q 3 (.q 4 (.alt 5 (.alt 6 (.alt 7 (.alt 8 (.alt 9 .done .stop) .stop) .stop) .stop) .stop)))))) mo (by kernel_rfl) (hs.pick [] rfl) fun _ => ?_
          have hs := hs.drew
          refine tqst (.slice A0_ l0.length p0_) hk rfl rfl rfl rfl (fun w hs => sm _ rfl hk rfl rfl rfl fun a hk => qe hk) fun a hk => ?_
          refine tqst (.int .i64 u10) hk rfl rfl rfl rfl (fun w hs => sm _ rfl hk rfl rfl rfl fun a hk => qe hk) fun a hk => ?_
          rcases ite_some H with ⟨c25, H⟩ | ⟨_, H⟩
          rotate_left
          · cases H
          obtain ⟨b26, q27, hAc25⟩ := (v0_).some_ u10 c25.1 c25.2
          refine tqst (.pointer (some (padd A0_ (u10.toNat * 2)))) hk rfl rfl rfl rfl (fun w hs => si rfl hk rfl rfl rfl rfl un50 sz116 c25.1 c25.2 hAc25 fun a hk => qe hk) fun a hk => ?_
          obtain ⟨_, rfl, e28⟩ := (v0_).at_ z_Entry u10 c25.1 c25.2
          refine tqst (.agg #[.int .i64 ((l0.getD u10.toNat z_Entry).Key), .int .i64 ((l0.getD u10.toNat z_Entry).Value)]) hk rfl rfl rfl rfl (fun w hs => sln [.int .i64 ((l0.getD u10.toNat z_Entry).Key), .int .i64 ((l0.getD u10.toNat z_Entry).Value)] rfl hk rfl rfl rfl ag116 sz116 (cells_at e28 (hs.hasD (k := 1) rfl)) fun a hk => qe hk) fun a hk => ?_
          refine tqst (.slice A1_ l1.length p1_) hk rfl rfl rfl rfl (fun w hs => sm _ rfl hk rfl rfl rfl fun a hk => qe hk) fun a hk => ?_
          refine tsst hk rfl rfl (fun K_r24_5 hK_r24_5 w hF => ?_) wt_stop
          have hs := hs.f hF
          refine sm _ rfl hk rfl rfl rfl fun a hk => ?_
          refine se (hs.pick [] rfl) hk (hK_r24_5 _ _ ?_)
          refine tsst hk rfl rfl (fun K_r24_6 hK_r24_6 w hF => ?_) wt_stop
          have hs := hs.f hF
          rcases ite_some H with ⟨c29, H⟩ | ⟨_, H⟩
          rotate_left
          · cases H
          obtain ⟨b30, q31, hAc29⟩ := (v1_).some_ u10 c29.1 c29.2
          refine si rfl hk rfl rfl rfl rfl un50 sz116 c29.1 c29.2 hAc29 fun a hk => ?_
          refine se (hs.pick [] rfl) hk (hK_r24_6 _ _ ?_)
          refine tsst hk rfl rfl (fun K_r24_7 hK_r24_7 w hF => ?_) wt_stop
          have hs := hs.f hF
          obtain ⟨_, rfl, e32⟩ := (v1_).at_ z_Entry u10 c29.1 c29.2
          refine sln [.int .i64 ((l1.getD u10.toNat z_Entry).Key), .int .i64 ((l1.getD u10.toNat z_Entry).Value)] rfl hk rfl rfl rfl ag116 sz116 (cells_at e32 (hs.hasD (k := 2) rfl)) fun a hk => ?_
          refine se (hs.pick [] rfl) hk (hK_r24_7 _ _ ?_)
          refine tsst hk rfl rfl (fun K_r24_8 hK_r24_8 w hF => ?_) wt_stop
          have hs := hs.f hF
          obtain ⟨y33, h34, H⟩ := bind_some H
          refine sc rfl en100 hk rfl rfl rfl (laws_eqEntry_t _ (l0.getD u10.toNat z_Entry) (l1.getD u10.toNat z_Entry) _ h34) ?_
          rintro _ w ⟨rfl, hG⟩ a hk
          have hs := hs.call0 hG
          refine se (hs.pick [] rfl) hk (hK_r24_8 _ _ ?_)
          refine tsst hk rfl rfl (fun K_r24_9 hK_r24_9 w hF => ?_) wt_stop
          have hs := hs.f hF
          refine sv (.bool (!y33)) hk rfl rfl rfl fun a hk => ?_
          refine se (hs.pick [] rfl) hk (hK_r24_9 _ _ ?_)
          refine wtl_nil fun w hF _ => ?_
          have hs := hs.f hF
          refine hK23 _ _ ?_
          rcases cond_some H with ⟨c35, H⟩ | ⟨c35, H⟩
          · have hk := hk.lit 26 c35 rfl
            refine cnd_true hk rfl rfl ?_
            apply wp_seq_k; intro K36 hK36
            apply wp_region_lit
            refine sa _ rfl hk rfl rfl rfl fun a hk => ?_
            show wpList _ _ _ [] _ _
            refine wpList_nil ?_
            refine hK36 _ _ ?_
            refine wp_ret ?_
            obtain rfl := Option.some.inj H
            have ho11 := h18
            try dsimp only at ho11
            subst ho11
            have H := HL13
            try dsimp only at H
            obtain rfl := Option.some.inj H
            exact fin hk _ [(.bool false)] rfl ⟨rfl, trivial⟩ ⟨rfl, (hs.pick [] rfl).dnil⟩
          · have hk := hk.lit 26 c35 rfl
            refine cnd_false hk rfl rfl ?_
            refine wp_skip ?_
            refine hK22 _ _ ?_
            apply wp_region_lit
            refine sm _ rfl hk rfl rfl rfl fun a hk => ?_
            refine sv (.int .i64 (w64 (u10 + 1))) hk rfl rfl rfl fun a hk => ?_
            refine sa _ rfl hk rfl rfl rfl fun a hk => ?_
            show wpList _ _ _ [] _ _
            refine wpList_nil ?_
            obtain rfl := Option.some.inj H
            obtain ⟨m37, hmm37, h18⟩ := h18
            show ∃ n', n' < _ ∧ I15 n' _ _
            refine ⟨m37, hmm37, ?_⟩
            rw [hI15]
            exact ⟨(w64 (u10 + 1)), h18, (hk.c 0 rfl (hk.c 1 rfl (hk.c 5 rfl hk.k))), (hs.pick [] rfl)⟩
        · have hk := hk.lit 14 c21 rfl
          refine cnd_false hk rfl rfl ?_
          refine wp_exit ?_
          obtain rfl := Option.some.inj H
          show R14 _ _
          rw [hR14]
          exact ⟨h18.symm, hk.k, (hs.pick [] rfl)⟩
    · intro a w hR0
      rw [hR14] at hR0
      obtain ⟨rfl, hk, hs⟩ := hR0
      have H := HL13
      try dsimp only at H
      refine hK6 _ _ ?_
      apply wp_seq_k; intro K38 hK38
      apply wp_region_lit
      refine sa _ rfl hk rfl rfl rfl fun a hk => ?_
      show wpList _ _ _ [] _ _
      refine wpList_nil ?_
      refine hK38 _ _ ?_
      refine wp_ret ?_
      obtain rfl := Option.some.inj H
      exact fin hk _ [(.bool true)] rfl ⟨rfl, trivial⟩ ⟨rfl, (hs.pick [] rfl).dnil⟩

end Go.Proofs.Ytjlhmcieholdiaa
