/- Further functions. -/
import Derived.Test.YtmgfkpfacdlfbaaGXReadEntry
namespace Go.Proofs.Ytmgfkpfacdlfbaa
open Go Go.Z Go.Proofs Go.MuLone Go.ChangeShapes Go.WideShapes Go.ChangeAt Go.RowKit
set_option linter.unusedVariables false
set_option linter.unusedSimpArgs false
noncomputable def slices_IndexFunc_int_int.s0 (l0 : List Int) (q1 : Int → Option (Bool)) (u6 : Int) : Option ((Int) ⊕ Ex (Unit) (Int)) :=
  (bif (decide (u6 < (l0.length : Int))) then (if 0 ≤ u6 ∧ u6 < (l0.length : Int) then ((q1 (l0.getD u6.toNat 0)).bind fun y25 => (bif y25 then (some (.inr (.ret u6))) else (some (.inl (w64 (u6 + 1)))))) else none) else (some (.inr (.out ()))))
noncomputable def slices_IndexFunc_int_int.f (l0 : List Int) (q1 : Int → Option (Bool)) : Option (Int) :=
  ((loopO (fun s => slices_IndexFunc_int_int.s0 l0 q1 s) 0).bind fun o => match o with | .out _ => (some (-1)) | .ret r => (some r))
set_option maxRecDepth 100000 in
set_option maxHeartbeats 0 in
theorem slices_IndexFunc_int_int_t (w0 : World) (A0_ : Option Addr) (p0_ : Nat) (l0 : List Int) (k0_ : Chunk) (v0_ : View (Lay.int .i64) A0_ p0_ l0 k0_) (w0_ : Has w0 k0_) (f1_ : FuncId) (c1_ : List Value) (e1_ : Enters Try.prog f1_) (q1 : Int → Option (Bool)) (k1_ : Chunk) (t1_ : ∀ w, Has w k1_ → ∀ (z0 : Int) (r : Bool), q1 z0 = some r → Calls Try.prog f1_ (([.int .i64 z0] : List Value) ++ c1_).toArray w (Ret (fun v w2 => v = .bool r ∧ Sat [] w w2 [] []))) (w1_ : Has w0 k1_) (r : Int) (H : slices_IndexFunc_int_int.f l0 q1 = some r) :
    Calls Try.prog 180 #[.slice A0_ l0.length p0_, .func (.func f1_) #[] c1_.toArray] w0 (Ret (fun v w => v = .int .i64 r ∧ Sat [] w0 w [] [])) := by
  have hs : Sat [] w0 w0 [(1, k0_), (2, k1_)] [] := Sat.init w0 [(1, k0_), (2, k1_)] [] (by simp only [List.mem_cons, List.not_mem_nil, or_false]; rintro x (rfl | rfl) <;> assumption) (by simp) List.nodup_nil (by simp [blks])
  unfold slices_IndexFunc_int_int.f at H
  refine enter Try.func180 rfl Try.ntmps180 rfl fun a hk => ?_
  apply wp_seq_k; intro K1 hK1
  apply wp_region_lit
  refine sa _ rfl hk rfl rfl rfl fun a hk => ?_
  show wpList _ _ _ [] _ _
  refine wpList_nil ?_
  refine hK1 _ _ ?_
  apply wp_seq_k; intro K2 hK2
  apply wp_seq_k; intro K3 hK3
  apply wp_region_lit
  refine sm _ rfl hk rfl rfl rfl fun a hk => ?_
  refine sle rfl hk rfl rfl rfl un31 fun a hk => ?_
  refine sm _ rfl hk rfl rfl rfl fun a hk => ?_
  show wpList _ _ _ [] _ _
  refine wpList_nil ?_
  refine hK3 _ _ ?_
  obtain ⟨o7, h8, HL9⟩ := bind_some H
  clear H
  obtain ⟨R10, hR10⟩ : ∃ R : Act → World → Prop, R = fun a w => o7 = .out () ∧ Kn [] 19 a ∧ Sat [] w0 w [(1, k0_), (2, k1_)] [] := ⟨_, rfl⟩
  refine wp_cutq R10 ?_ ?_
  · refine wp_block ?_
    obtain ⟨fu12, h8⟩ := loopO_some h8
    obtain ⟨I11, hI11⟩ : ∃ I : Nat → Act → World → Prop, I = fun fu a w => ∃ (u6 : Int), loopN (fun s => slices_IndexFunc_int_int.s0 l0 q1 s) fu u6 = some o7 ∧ Kn [(0, (.slice A0_ l0.length p0_)), (1, (.func (.func f1_) #[] c1_.toArray)), (7, (.int .i64 (l0.length : Int))), (8, (.int .i64 u6))] 19 a ∧ Sat [] w0 w [(1, k0_), (2, k1_)] [] := ⟨_, rfl⟩
    refine wp_loop_ghost I11 fu12 ?_ ?_
    · rw [hI11]
      exact ⟨0, h8, (hk.c 0 rfl (hk.c 1 rfl (hk.c 7 rfl (hk.c 8 rfl hk.k)))), (hs.pick [] rfl)⟩
    · clear h8 hk hs
      intro fu12 a w hI0
      rw [hI11] at hI0
      obtain ⟨u6, hi, hk, hs⟩ := hI0
      obtain ⟨x13, H, h14⟩ := loop_round hi
      try dsimp only at H
      unfold slices_IndexFunc_int_int.s0 at H
      apply wp_seq_k; intro K15 hK15
      apply wp_region_lit
      refine sv (.bool (decide (u6 < (l0.length : Int)))) hk rfl rfl rfl fun a hk => ?_
      show wpList _ _ _ [] _ _
      refine wpList_nil ?_
      refine hK15 _ _ ?_
      apply wp_seq_k; intro K16 hK16
      rcases cond_some H with ⟨c17, H⟩ | ⟨c17, H⟩
      · have hk := hk.lit 9 c17 rfl
        refine cnd_true hk rfl rfl ?_
        refine wp_skip ?_
        refine hK16 _ _ ?_
        apply wp_seq_k; intro K18 hK18
        refine wp_block ?_
        apply wp_seq_k; intro K19 hK19
        apply wp_region_lit
        refine sm _ rfl hk rfl rfl rfl fun a hk => ?_
        refine sa _ rfl hk rfl rfl rfl fun a hk => ?_
        show wpList _ _ _ [] _ _
        refine wpList_nil ?_
        refine hK19 _ _ ?_
        apply wp_seq_k; intro K20 hK20
        apply wp_region_lit
        refine sm _ rfl hk rfl rfl rfl fun a hk => ?_
        refine sm _ rfl hk rfl rfl rfl fun a hk => ?_
        refine sm _ rfl hk rfl rfl rfl fun a hk => ?_
        rcases ite_some H with ⟨c21, H⟩ | ⟨_, H⟩
        rotate_left
        · cases H
        obtain ⟨b22, q23, hAc21⟩ := (v0_).some_ u6 c21.1 c21.2
        refine si rfl hk rfl rfl rfl rfl un31 sz3 c21.1 c21.2 hAc21 fun a hk => ?_
        obtain ⟨_, rfl, e24⟩ := (v0_).at_ 0 u6 c21.1 c21.2
        refine sl (v := (.int .i64 (l0.getD u6.toNat 0))) rfl hk rfl rfl rfl ag3 ((e24 0 _ rfl).cell (hs.hasD (k := 1) rfl)) fun a hk => ?_
        obtain ⟨y25, h26, H⟩ := bind_some H
        refine scv (vs := ([(.int .i64 (l0.getD u6.toNat 0))] : List Value) ++ c1_) rfl rfl e1_ hk rfl rfl rfl (t1_ _ (hs.hasD (k := 2) rfl) (l0.getD u6.toNat 0) _ h26) ?_
        rintro _ w ⟨rfl, hG⟩ a hk
        have hs := hs.call0 hG
        show wpList _ _ _ [] _ _
        refine wpList_nil ?_
        refine hK20 _ _ ?_
        rcases cond_some H with ⟨c27, H⟩ | ⟨c27, H⟩
        · have hk := hk.lit 16 c27 rfl
          refine cnd_true hk rfl rfl ?_
          apply wp_seq_k; intro K28 hK28
          apply wp_region_lit
          refine sm _ rfl hk rfl rfl rfl fun a hk => ?_
          refine sa _ rfl hk rfl rfl rfl fun a hk => ?_
          show wpList _ _ _ [] _ _
          refine wpList_nil ?_
          refine hK28 _ _ ?_
          refine wp_ret ?_
          obtain rfl := Option.some.inj H
          have ho7 := h14
          try dsimp only at ho7
          subst ho7
          have H := HL9
          try dsimp only at H
          obtain rfl := Option.some.inj H
          exact fin hk _ [(.int .i64 u6)] rfl ⟨rfl, trivial⟩ ⟨rfl, (hs.pick [] rfl).dnil⟩
        · have hk := hk.lit 16 c27 rfl
          refine cnd_false hk rfl rfl ?_
          refine wp_skip ?_
          refine hK18 _ _ ?_
          apply wp_region_lit
          refine sv (.int .i64 (w64 (u6 + 1))) hk rfl rfl rfl fun a hk => ?_
          refine sm _ rfl hk rfl rfl rfl fun a hk => ?_
          show wpList _ _ _ [] _ _
          refine wpList_nil ?_
          obtain rfl := Option.some.inj H
          obtain ⟨m29, hmm29, h14⟩ := h14
          show ∃ n', n' < _ ∧ I11 n' _ _
          refine ⟨m29, hmm29, ?_⟩
          rw [hI11]
          exact ⟨(w64 (u6 + 1)), h14, (hk.c 0 rfl (hk.c 1 rfl (hk.c 7 rfl (hk.c 8 rfl hk.k)))), (hs.pick [] rfl)⟩
      · have hk := hk.lit 9 c17 rfl
        refine cnd_false hk rfl rfl ?_
        refine wp_exit ?_
        obtain rfl := Option.some.inj H
        show R10 _ _
        rw [hR10]
        exact ⟨h14.symm, hk.k, (hs.pick [] rfl)⟩
  · intro a w hR0
    rw [hR10] at hR0
    obtain ⟨rfl, hk, hs⟩ := hR0
    have H := HL9
    try dsimp only at H
    refine hK2 _ _ ?_
    apply wp_seq_k; intro K30 hK30
    apply wp_region_lit
    refine sa _ rfl hk rfl rfl rfl fun a hk => ?_
    show wpList _ _ _ [] _ _
    refine wpList_nil ?_
    refine hK30 _ _ ?_
    refine wp_ret ?_
    obtain rfl := Option.some.inj H
    exact fin hk _ [(.int .i64 (-1))] rfl ⟨rfl, trivial⟩ ⟨rfl, (hs.pick [] rfl).dnil⟩

noncomputable def slices_ContainsFunc_int_int.f (l0 : List Int) (q1 : Int → Option (Bool)) : Option (Bool) :=
  ((slices_IndexFunc_int_int.f l0 q1).bind fun y3 => (some (decide (y3 ≥ 0))))
set_option maxRecDepth 100000 in
set_option maxHeartbeats 0 in
theorem slices_ContainsFunc_int_int_t (w0 : World) (A0_ : Option Addr) (p0_ : Nat) (l0 : List Int) (k0_ : Chunk) (v0_ : View (Lay.int .i64) A0_ p0_ l0 k0_) (w0_ : Has w0 k0_) (f1_ : FuncId) (c1_ : List Value) (e1_ : Enters Try.prog f1_) (q1 : Int → Option (Bool)) (k1_ : Chunk) (t1_ : ∀ w, Has w k1_ → ∀ (z0 : Int) (r : Bool), q1 z0 = some r → Calls Try.prog f1_ (([.int .i64 z0] : List Value) ++ c1_).toArray w (Ret (fun v w2 => v = .bool r ∧ Sat [] w w2 [] []))) (w1_ : Has w0 k1_) (r : Bool) (H : slices_ContainsFunc_int_int.f l0 q1 = some r) :
    Calls Try.prog 154 #[.slice A0_ l0.length p0_, .func (.func f1_) #[] c1_.toArray] w0 (Ret (fun v w => v = .bool r ∧ Sat [] w0 w [] [])) := by
  have hs : Sat [] w0 w0 [(1, k0_), (2, k1_)] [] := Sat.init w0 [(1, k0_), (2, k1_)] [] (by simp only [List.mem_cons, List.not_mem_nil, or_false]; rintro x (rfl | rfl) <;> assumption) (by simp) List.nodup_nil (by simp [blks])
  unfold slices_ContainsFunc_int_int.f at H
  refine enter Try.func154 rfl Try.ntmps154 rfl fun a hk => ?_
  apply wp_seq_k; intro K1 hK1
  apply wp_region_lit
  refine sa _ rfl hk rfl rfl rfl fun a hk => ?_
  show wpList _ _ _ [] _ _
  refine wpList_nil ?_
  refine hK1 _ _ ?_
  apply wp_seq_k; intro K2 hK2
  apply wp_region_lit
  refine sm _ rfl hk rfl rfl rfl fun a hk => ?_
  refine sm _ rfl hk rfl rfl rfl fun a hk => ?_
  obtain ⟨y3, h4, H⟩ := bind_some H
  refine sc rfl en180 hk rfl rfl rfl (slices_IndexFunc_int_int_t _ A0_ p0_ l0 _ v0_ (hs.hasD (k := 1) rfl) f1_ c1_ e1_ q1 k1_ t1_ (hs.hasD (k := 2) rfl) _ h4) ?_
  rintro _ w ⟨rfl, hG⟩ a hk
  have hs := hs.call0 hG
  refine sv (.bool (decide (y3 ≥ 0))) hk rfl rfl rfl fun a hk => ?_
  refine sa _ rfl hk rfl rfl rfl fun a hk => ?_
  show wpList _ _ _ [] _ _
  refine wpList_nil ?_
  refine hK2 _ _ ?_
  refine wp_ret ?_
  obtain rfl := Option.some.inj H
  exact fin hk _ [(.bool (decide (y3 ≥ 0)))] rfl ⟨rfl, trivial⟩ ⟨rfl, (hs.pick [] rfl).dnil⟩

noncomputable def impl_areAll_int__c1.f (x0 : Int) (q1 : Int → Option (Bool)) : Option (Bool) :=
  ((q1 x0).bind fun y3 => (some (!y3)))
set_option maxRecDepth 100000 in
set_option maxHeartbeats 0 in
theorem impl_areAll_int__c1_t (w0 : World) (x0 : Int) (b1_ : Nat) (f1_ : FuncId) (c1_ : List Value) (e1_ : Enters Try.prog f1_) (q1 : Int → Option (Bool)) (k1_ : Chunk) (t1_ : ∀ w, Has w k1_ → ∀ (z0 : Int) (r : Bool), q1 z0 = some r → Calls Try.prog f1_ (([.int .i64 z0] : List Value) ++ c1_).toArray w (Ret (fun v w2 => v = .bool r ∧ Sat [] w w2 [] []))) (w1_ : Has w0 k1_) (h1_ : Has w0 [(b1_, .cells #[.func (.func f1_) #[] c1_.toArray] 113 (0, 0))]) (r : Bool) (H : impl_areAll_int__c1.f x0 q1 = some r) :
    Calls Try.prog 155 #[.int .i64 x0, .pointer (some ⟨b1_, 0, none⟩)] w0 (Ret (fun v w => v = .bool r ∧ Sat [] w0 w [] [])) := by
  have hs : Sat [] w0 w0 [(2, k1_), (1, [(b1_, .cells #[.func (.func f1_) #[] c1_.toArray] 113 (0, 0))])] [] := Sat.init w0 [(2, k1_), (1, [(b1_, .cells #[.func (.func f1_) #[] c1_.toArray] 113 (0, 0))])] [] (by simp only [List.mem_cons, List.not_mem_nil, or_false]; rintro x (rfl | rfl) <;> assumption) (by simp) List.nodup_nil (by simp [blks])
  unfold impl_areAll_int__c1.f at H
  refine enter Try.func155 rfl Try.ntmps155 rfl fun a hk => ?_
  apply wp_seq_k; intro K1 hK1
  apply wp_region_lit
  refine sa _ rfl hk rfl rfl rfl fun a hk => ?_
  show wpList _ _ _ [] _ _
  refine wpList_nil ?_
  refine hK1 _ _ ?_
  apply wp_seq_k; intro K2 hK2
  apply wp_region_lit
  refine sl rfl hk rfl rfl rfl ag113 (box_cellD hs (k := 1) rfl rfl) fun a hk => ?_
  refine sm _ rfl hk rfl rfl rfl fun a hk => ?_
  obtain ⟨y3, h4, H⟩ := bind_some H
  refine scv (vs := ([(.int .i64 x0)] : List Value) ++ c1_) rfl rfl e1_ hk rfl rfl rfl (t1_ _ (hs.hasD (k := 2) rfl) x0 _ h4) ?_
  rintro _ w ⟨rfl, hG⟩ a hk
  have hs := hs.call0 hG
  refine sv (.bool (!y3)) hk rfl rfl rfl fun a hk => ?_
  refine sa _ rfl hk rfl rfl rfl fun a hk => ?_
  show wpList _ _ _ [] _ _
  refine wpList_nil ?_
  refine hK2 _ _ ?_
  refine wp_ret ?_
  obtain rfl := Option.some.inj H
  exact fin hk _ [(.bool (!y3))] rfl ⟨rfl, trivial⟩ ⟨rfl, (hs.pick [] rfl).dnil⟩

noncomputable def impl_areAll_int.f (l0 : List Int) (q1 : Int → Option (Bool)) : Option (Bool) :=
  ((slices_ContainsFunc_int_int.f l0 (fun z0 => impl_areAll_int__c1.f z0 q1)).bind fun y4 => (some (!y4)))
set_option maxRecDepth 100000 in
set_option maxHeartbeats 0 in
theorem impl_areAll_int_t (w0 : World) (A0_ : Option Addr) (p0_ : Nat) (l0 : List Int) (k0_ : Chunk) (v0_ : View (Lay.int .i64) A0_ p0_ l0 k0_) (w0_ : Has w0 k0_) (f1_ : FuncId) (c1_ : List Value) (e1_ : Enters Try.prog f1_) (q1 : Int → Option (Bool)) (k1_ : Chunk) (t1_ : ∀ w, Has w k1_ → ∀ (z0 : Int) (r : Bool), q1 z0 = some r → Calls Try.prog f1_ (([.int .i64 z0] : List Value) ++ c1_).toArray w (Ret (fun v w2 => v = .bool r ∧ Sat [] w w2 [] []))) (w1_ : Has w0 k1_) (r : Bool) (H : impl_areAll_int.f l0 q1 = some r) :
    Calls Try.prog 114 #[.slice A0_ l0.length p0_, .func (.func f1_) #[] c1_.toArray] w0 (Ret (fun v w => v = .bool r ∧ Sat [] w0 w [] [])) := by
  have hs : Sat [] w0 w0 [(1, k0_), (2, k1_)] [] := Sat.init w0 [(1, k0_), (2, k1_)] [] (by simp only [List.mem_cons, List.not_mem_nil, or_false]; rintro x (rfl | rfl) <;> assumption) (by simp) List.nodup_nil (by simp [blks])
  unfold impl_areAll_int.f at H
  refine enter Try.func114 rfl Try.ntmps114 rfl fun a hk => ?_
  apply wp_seq_k; intro K1 hK1
  apply wp_region_lit
  refine sbx 3 hs rfl hk rfl rfl rfl rfl fun b2 w a hk hs => ?_
  refine sa _ rfl hk rfl rfl rfl fun a hk => ?_
  show wpList _ _ _ [] _ _
  refine wpList_nil ?_
  refine hK1 _ _ ?_
  apply wp_seq_k; intro K3 hK3
  apply wp_region_lit
  refine sm _ rfl hk rfl rfl rfl fun a hk => ?_
  refine smf (cs := [.pointer (some ⟨b2, 0, none⟩)]) rfl hk rfl rfl rfl fun a hk => ?_
  obtain ⟨y4, h5, H⟩ := bind_some H
  refine sc rfl en154 hk rfl rfl rfl (slices_ContainsFunc_int_int_t _ A0_ p0_ l0 _ v0_ (hs.hasD (k := 1) rfl) 155 [.pointer (some ⟨b2, 0, none⟩)] en155 (fun z0 => impl_areAll_int__c1.f z0 q1) ([(b2, .cells #[.func (.func f1_) #[] c1_.toArray] 113 (0, 0))] ++ k1_) (fun w hz z0 r h => impl_areAll_int__c1_t w z0 _ f1_ c1_ e1_ q1 k1_ t1_ (Has.right hz) (Has.left hz) r h) (Has.app (hs.hasG (k := 3) rfl) (hs.hasD (k := 2) rfl)) _ h5) ?_
  rintro _ w ⟨rfl, hG⟩ a hk
  have hs := hs.call0 hG
  refine sv (.bool (!y4)) hk rfl rfl rfl fun a hk => ?_
  refine sa _ rfl hk rfl rfl rfl fun a hk => ?_
  show wpList _ _ _ [] _ _
  refine wpList_nil ?_
  refine hK3 _ _ ?_
  refine wp_ret ?_
  obtain rfl := Option.some.inj H
  exact fin hk _ [(.bool (!y4))] rfl ⟨rfl, trivial⟩ ⟨rfl, (hs.pick [] rfl).dnil⟩

noncomputable def impl_reader_ends_c1.f (x0 : Int) : Option (Bool) :=
  (some (x0 == 0))
set_option maxRecDepth 100000 in
set_option maxHeartbeats 0 in
theorem impl_reader_ends_c1_t (w0 : World) (x0 : Int) (r : Bool) (H : impl_reader_ends_c1.f x0 = some r) :
    Calls Try.prog 173 #[.int .i64 x0] w0 (Ret (fun v w => v = .bool r ∧ Sat [] w0 w [] [])) := by
  have hs : Sat [] w0 w0 [] [] := Sat.init w0 [] [] (by simp) (by simp) List.nodup_nil (by simp [blks])
  unfold impl_reader_ends_c1.f at H
  refine enter Try.func173 rfl Try.ntmps173 rfl fun a hk => ?_
  apply wp_seq_k; intro K1 hK1
  apply wp_region_lit
  refine sa _ rfl hk rfl rfl rfl fun a hk => ?_
  show wpList _ _ _ [] _ _
  refine wpList_nil ?_
  refine hK1 _ _ ?_
  apply wp_seq_k; intro K2 hK2
  apply wp_region_lit
  refine sm _ rfl hk rfl rfl rfl fun a hk => ?_
  refine sv (.bool (x0 == 0)) hk rfl rfl rfl fun a hk => ?_
  refine sa _ rfl hk rfl rfl rfl fun a hk => ?_
  show wpList _ _ _ [] _ _
  refine wpList_nil ?_
  refine hK2 _ _ ?_
  refine wp_ret ?_
  obtain rfl := Option.some.inj H
  exact fin hk _ [(.bool (x0 == 0))] rfl ⟨rfl, trivial⟩ ⟨rfl, (hs.pick [] rfl).dnil⟩

noncomputable def impl_reader_ends.f (x0 : S_reader) : Option (Bool × Int × Bool) :=
  (((bif (!x0.bad) then (if 0 ≤ x0.at_ ∧ x0.at_ ≤ (x0.list.length : Int) then ((impl_areAll_int.f (x0.list.drop x0.at_.toNat) impl_reader_ends_c1.f).bind fun y13 => (some y13)) else none) else (some false)) : Option (Bool)).bind fun u4 => (some (u4, x0.at_, x0.bad)))
set_option maxRecDepth 100000 in
set_option maxHeartbeats 0 in
theorem impl_reader_ends_t (w0 : World) (b0_ : Nat) (x0 : S_reader) (A0_0 : Option Addr) (p0_0 : Nat) (k0_0 : Chunk) (v0_0 : View (Lay.int .i64) A0_0 p0_0 x0.list k0_0) (w0_0 : Has w0 k0_0) (hs0 : Sat (blks [(1, [(b0_, .cells #[.slice A0_0 x0.list.length p0_0, .int .i64 x0.at_, .bool x0.bad] 183 (0, 0))])]) w0 w0 [(2, k0_0)] [(1, [(b0_, .cells #[.slice A0_0 x0.list.length p0_0, .int .i64 x0.at_, .bool x0.bad] 183 (0, 0))])]) (r : Bool × Int × Bool) (H : impl_reader_ends.f x0 = some r) :
    Calls Try.prog 139 #[.pointer (some ⟨b0_, 0, none⟩)] w0 (Ret (fun v w => v = .bool r.1 ∧ Sat (blks [(1, [(b0_, .cells #[.slice A0_0 x0.list.length p0_0, .int .i64 x0.at_, .bool x0.bad] 183 (0, 0))])]) w0 w [] [(0, [(b0_, .cells #[.slice A0_0 x0.list.length p0_0, .int .i64 r.2.1, .bool r.2.2] 183 (0, 0))])])) := by
  have hs := hs0
  unfold impl_reader_ends.f at H
  refine enter Try.func139 rfl Try.ntmps139 rfl fun a hk => ?_
  apply wp_seq_k; intro K1 hK1
  apply wp_region_lit
  refine sa _ rfl hk rfl rfl rfl fun a hk => ?_
  show wpList _ _ _ [] _ _
  refine wpList_nil ?_
  refine hK1 _ _ ?_
  apply wp_seq_k; intro K2 hK2
  obtain ⟨o5, h6, HL7⟩ := bind_some H
  clear H
  obtain ⟨R8, hR8⟩ : ∃ R : Act → World → Prop, R = fun a w => ∃ (u4 : Bool), u4 = o5 ∧ Kn [(0, (.pointer (some ⟨b0_, 0, none⟩))), (2, (.bool u4))] 20 a ∧ Sat (blks [(1, [(b0_, .cells #[.slice A0_0 x0.list.length p0_0, .int .i64 x0.at_, .bool x0.bad] 183 (0, 0))])]) w0 w [(2, k0_0)] [(1, [(b0_, .cells #[.slice A0_0 x0.list.length p0_0, .int .i64 x0.at_, .bool x0.bad] 183 (0, 0))])] := ⟨_, rfl⟩
  refine wp_cutq R8 ?_ ?_
  · have H := h6
    refine wp_region_mix [(0, true), (1, true), (2, true), (3, true), (4, true), (5, true), (6, true), (7, true), (8, true), (9, true), (10, true), (11, true), (12, true), (13, true), (14, true), (15, true), (16, true), (17, true)] mo (by kernel_rfl) hs fun _ => ?_
    have hs := hs.drew
    refine qst (.pointer (some ⟨b0_, 0, none⟩)) hk rfl rfl rfl rfl (fun w hs => sm _ rfl hk rfl rfl rfl fun a hk => qe hk) fun a hk => ?_
    refine qst (.pointer (some ⟨b0_, 0, none⟩)) hk rfl rfl rfl rfl (fun w hs => snk rfl hk rfl rfl rfl fun a hk => qe hk) fun a hk => ?_
    refine qst (.pointer (some ⟨b0_, 2, none⟩)) hk rfl rfl rfl rfl (fun w hs => sf ⟨b0_, 2, none⟩ rfl hk rfl rfl rfl fd183_2 rfl fun a hk => qe hk) fun a hk => ?_
    refine qst (.bool x0.bad) hk rfl rfl rfl rfl (fun w hs => sl rfl hk rfl rfl rfl ag4 (box_cell hs (k := 1) rfl rfl) fun a hk => qe hk) fun a hk => ?_
    refine qst (.bool (!x0.bad)) hk rfl rfl rfl rfl (fun w hs => sv (.bool (!x0.bad)) hk rfl rfl rfl fun a hk => qe hk) fun a hk => ?_
    refine qst (.bool (!x0.bad)) hk rfl rfl rfl rfl (fun w hs => sm _ rfl hk rfl rfl rfl fun a hk => qe hk) fun a hk => ?_
    rcases cond_some H with ⟨c9, H⟩ | ⟨c9, H⟩
    · have hk := hk.lit 8 c9 rfl
      refine qst (.pointer (some ⟨b0_, 0, none⟩)) hk rfl rfl rfl rfl (fun w hs => sm _ rfl hk rfl rfl rfl fun a hk => qe hk) fun a hk => ?_
      refine qst (.pointer (some ⟨b0_, 0, none⟩)) hk rfl rfl rfl rfl (fun w hs => snk rfl hk rfl rfl rfl fun a hk => qe hk) fun a hk => ?_
      refine qst (.pointer (some ⟨b0_, 0, none⟩)) hk rfl rfl rfl rfl (fun w hs => sf ⟨b0_, 0, none⟩ rfl hk rfl rfl rfl fd183_0 rfl fun a hk => qe hk) fun a hk => ?_
      refine qst (.slice A0_0 x0.list.length p0_0) hk rfl rfl rfl rfl (fun w hs => sl rfl hk rfl rfl rfl ag31 (box_cell hs (k := 1) rfl rfl) fun a hk => qe hk) fun a hk => ?_
      refine qst (.pointer (some ⟨b0_, 0, none⟩)) hk rfl rfl rfl rfl (fun w hs => sm _ rfl hk rfl rfl rfl fun a hk => qe hk) fun a hk => ?_
      refine qst (.pointer (some ⟨b0_, 0, none⟩)) hk rfl rfl rfl rfl (fun w hs => snk rfl hk rfl rfl rfl fun a hk => qe hk) fun a hk => ?_
      refine qst (.pointer (some ⟨b0_, 1, none⟩)) hk rfl rfl rfl rfl (fun w hs => sf ⟨b0_, 1, none⟩ rfl hk rfl rfl rfl fd183_1 rfl fun a hk => qe hk) fun a hk => ?_
      refine qst (.int .i64 x0.at_) hk rfl rfl rfl rfl (fun w hs => sl rfl hk rfl rfl rfl ag3 (box_cell hs (k := 1) rfl rfl) fun a hk => qe hk) fun a hk => ?_
      rcases ite_some H with ⟨c10, H⟩ | ⟨_, H⟩
      rotate_left
      · cases H
      refine qst (.slice (if p0_0 = x0.at_.toNat then A0_0 else (A0_0 : Option Addr).map (·.add (x0.at_.toNat * 1))) (x0.list.length - x0.at_.toNat) (p0_0 - x0.at_.toNat)) hk rfl rfl rfl rfl (fun w hs => sll_l rfl hk rfl rfl rfl rfl un31 sz3 c10.1 c10.2 fun a hk => qe hk) fun a hk => ?_
      have v11 : View (Lay.int .i64) (if p0_0 = x0.at_.toNat then A0_0 else (A0_0 : Option Addr).map (·.add (x0.at_.toNat * 1))) (p0_0 - x0.at_.toNat) (x0.list.drop x0.at_.toNat) k0_0 := (v0_0).dropv x0.at_.toNat (by omega)
      have lh12 : (x0.list.drop x0.at_.toNat).length = (x0.list.length - x0.at_.toNat) := (by rw [List.length_drop])
      have hk := hk.re 17 (v' := (.slice (if p0_0 = x0.at_.toNat then A0_0 else (A0_0 : Option Addr).map (·.add (x0.at_.toNat * 1))) (x0.list.drop x0.at_.toNat).length (p0_0 - x0.at_.toNat))) rfl (by rw [lh12])
      obtain ⟨y13, h14, H⟩ := bind_some H
      refine qst (.bool y13) hk rfl rfl rfl rfl (fun w hs => sc rfl en114 hk rfl rfl rfl (impl_areAll_int_t _ (if p0_0 = x0.at_.toNat then A0_0 else (A0_0 : Option Addr).map (·.add (x0.at_.toNat * 1))) (p0_0 - x0.at_.toNat) (x0.list.drop x0.at_.toNat) _ v11 (hs.hasD (k := 2) rfl) 173 [] en173 impl_reader_ends_c1.f [] (fun w _ z0 r h => impl_reader_ends_c1_t w z0 r h) (Has.nil _) _ h14) fun _ w hR a hk => qc hR hk) fun a hk => ?_
      refine qst (.bool y13) hk rfl rfl rfl rfl (fun w hs => sv (.bool y13) hk rfl rfl rfl fun a hk => qe hk) fun a hk => ?_
      refine qst (.bool y13) hk rfl rfl rfl rfl (fun w hs => sa _ rfl hk rfl rfl rfl fun a hk => qe hk) fun a hk => ?_
      refine wml_nil fun w hF _ => ?_
      have hs := hs.f hF
      obtain rfl := Option.some.inj H
      show R8 _ _
      rw [hR8]
      exact ⟨y13, rfl, (hk.c 0 rfl (hk.c 2 rfl hk.k)), (hs.pick [(1, 1)] rfl)⟩
    · have hk := hk.lit 8 c9 rfl
      refine qsk hk rfl rfl rfl rfl fun a hk => ?_
      refine qsk hk rfl rfl rfl rfl fun a hk => ?_
      refine qsk hk rfl rfl rfl rfl fun a hk => ?_
      refine qsk hk rfl rfl rfl rfl fun a hk => ?_
      refine qsk hk rfl rfl rfl rfl fun a hk => ?_
      refine qsk hk rfl rfl rfl rfl fun a hk => ?_
      refine qsk hk rfl rfl rfl rfl fun a hk => ?_
      refine qsk hk rfl rfl rfl rfl fun a hk => ?_
      refine qsk hk rfl rfl rfl rfl fun a hk => ?_
      refine qsk hk rfl rfl rfl rfl fun a hk => ?_
      refine qst (.bool false) hk rfl rfl rfl rfl (fun w hs => sv (.bool false) hk rfl rfl rfl fun a hk => qe hk) fun a hk => ?_
      refine qst (.bool false) hk rfl rfl rfl rfl (fun w hs => sa _ rfl hk rfl rfl rfl fun a hk => qe hk) fun a hk => ?_
      refine wml_nil fun w hF _ => ?_
      have hs := hs.f hF
      obtain rfl := Option.some.inj H
      show R8 _ _
      rw [hR8]
      exact ⟨false, rfl, (hk.c 0 rfl (hk.c 2 rfl hk.k)), (hs.pick [(1, 1)] rfl)⟩
  · intro a w hR0
    rw [hR8] at hR0
    obtain ⟨u4, rfl, hk, hs⟩ := hR0
    have H := HL7
    try dsimp only at H
    refine hK2 _ _ ?_
    refine wp_ret ?_
    obtain rfl := Option.some.inj H
    exact fin hk _ [(.bool u4)] rfl ⟨rfl, trivial⟩ ⟨rfl, (hs.pick [(0, 1)] rfl).dnil⟩

noncomputable def impl_reader_next.f (x0 : S_reader) (x1 : Int) (x2 : Int) : Option (Int × Int × Bool) :=
  (((bif x0.bad then (some true) else (bif (x0.at_ == (x0.list.length : Int)) then (some true) else (if 0 ≤ x0.at_ ∧ x0.at_ < (x0.list.length : Int) then ((impl_within.f (x0.list.getD (x0.at_).toNat 0) x1 x2).bind fun y16 => (some (!y16))) else none))) : Option (Bool)).bind fun u5 => (bif u5 then (some (0, x0.at_, true)) else (if 0 ≤ (w64 ((w64 (x0.at_ + 1)) - 1)) ∧ (w64 ((w64 (x0.at_ + 1)) - 1)) < (x0.list.length : Int) then (some ((x0.list.getD (w64 ((w64 (x0.at_ + 1)) - 1)).toNat 0), (w64 (x0.at_ + 1)), x0.bad)) else none)))
set_option maxRecDepth 100000 in
set_option maxHeartbeats 0 in
theorem impl_reader_next_t (w0 : World) (b0_ : Nat) (x0 : S_reader) (A0_0 : Option Addr) (p0_0 : Nat) (k0_0 : Chunk) (v0_0 : View (Lay.int .i64) A0_0 p0_0 x0.list k0_0) (w0_0 : Has w0 k0_0) (x1 : Int) (x2 : Int) (hs0 : Sat (blks [(1, [(b0_, .cells #[.slice A0_0 x0.list.length p0_0, .int .i64 x0.at_, .bool x0.bad] 183 (0, 0))])]) w0 w0 [(2, k0_0)] [(1, [(b0_, .cells #[.slice A0_0 x0.list.length p0_0, .int .i64 x0.at_, .bool x0.bad] 183 (0, 0))])]) (r : Int × Int × Bool) (H : impl_reader_next.f x0 x1 x2 = some r) :
    Calls Try.prog 141 #[.pointer (some ⟨b0_, 0, none⟩), .int .i64 x1, .int .i64 x2] w0 (Ret (fun v w => v = .int .i64 r.1 ∧ Sat (blks [(1, [(b0_, .cells #[.slice A0_0 x0.list.length p0_0, .int .i64 x0.at_, .bool x0.bad] 183 (0, 0))])]) w0 w [] [(0, [(b0_, .cells #[.slice A0_0 x0.list.length p0_0, .int .i64 r.2.1, .bool r.2.2] 183 (0, 0))])])) := by
  have hs := hs0
  unfold impl_reader_next.f at H
  refine enter Try.func141 rfl Try.ntmps141 rfl fun a hk => ?_
  apply wp_seq_k; intro K1 hK1
  apply wp_region_lit
  refine sa _ rfl hk rfl rfl rfl fun a hk => ?_
  show wpList _ _ _ [] _ _
  refine wpList_nil ?_
  refine hK1 _ _ ?_
  apply wp_seq_k; intro K2 hK2
  apply wp_seq_k; intro K3 hK3
  obtain ⟨o6, h7, HL8⟩ := bind_some H
  clear H
  obtain ⟨R9, hR9⟩ : ∃ R : Act → World → Prop, R = fun a w => ∃ (u5 : Bool), u5 = o6 ∧ Kn [(0, (.pointer (some ⟨b0_, 0, none⟩))), (38, (.bool u5))] 60 a ∧ Sat (blks [(1, [(b0_, .cells #[.slice A0_0 x0.list.length p0_0, .int .i64 x0.at_, .bool x0.bad] 183 (0, 0))])]) w0 w [(2, k0_0)] [(1, [(b0_, .cells #[.slice A0_0 x0.list.length p0_0, .int .i64 x0.at_, .bool x0.bad] 183 (0, 0))])] := ⟨_, rfl⟩
  refine wp_cutq R9 ?_ ?_
  · have H := h7
    refine wp_region_mix [(0, true), (1, true), (2, true), (3, true), (4, true), (5, true), (6, true), (7, true), (8, true), (9, true), (10, true), (11, true), (12, true), (13, true), (14, true), (15, true), (16, true), (17, true), (18, true), (19, true), (20, true), (21, true), (22, true), (23, true), (24, true), (25, true), (26, true), (27, true), (28, true), (29, true), (30, true), (31, true)] mo (by kernel_rfl) hs fun _ => ?_
    have hs := hs.drew
    refine qst (.pointer (some ⟨b0_, 0, none⟩)) hk rfl rfl rfl rfl (fun w hs => sm _ rfl hk rfl rfl rfl fun a hk => qe hk) fun a hk => ?_
    refine qst (.pointer (some ⟨b0_, 0, none⟩)) hk rfl rfl rfl rfl (fun w hs => snk rfl hk rfl rfl rfl fun a hk => qe hk) fun a hk => ?_
    refine qst (.pointer (some ⟨b0_, 2, none⟩)) hk rfl rfl rfl rfl (fun w hs => sf ⟨b0_, 2, none⟩ rfl hk rfl rfl rfl fd183_2 rfl fun a hk => qe hk) fun a hk => ?_
    refine qst (.bool x0.bad) hk rfl rfl rfl rfl (fun w hs => sl rfl hk rfl rfl rfl ag4 (box_cell hs (k := 1) rfl rfl) fun a hk => qe hk) fun a hk => ?_
    refine qst (.bool x0.bad) hk rfl rfl rfl rfl (fun w hs => sm _ rfl hk rfl rfl rfl fun a hk => qe hk) fun a hk => ?_
    rcases cond_some H with ⟨c10, H⟩ | ⟨c10, H⟩
    · have hk := hk.lit 11 c10 rfl
      refine qsk hk rfl rfl rfl rfl fun a hk => ?_
      refine qsk hk rfl rfl rfl rfl fun a hk => ?_
      refine qsk hk rfl rfl rfl rfl fun a hk => ?_
      refine qsk hk rfl rfl rfl rfl fun a hk => ?_
      refine qsk hk rfl rfl rfl rfl fun a hk => ?_
      refine qsk hk rfl rfl rfl rfl fun a hk => ?_
      refine qsk hk rfl rfl rfl rfl fun a hk => ?_
      refine qsk hk rfl rfl rfl rfl fun a hk => ?_
      refine qsk hk rfl rfl rfl rfl fun a hk => ?_
      refine qsk hk rfl rfl rfl rfl fun a hk => ?_
      refine qst (.bool true) hk rfl rfl rfl rfl (fun w hs => sv (.bool true) hk rfl rfl rfl fun a hk => qe hk) fun a hk => ?_
      refine qst (.bool true) hk rfl rfl rfl rfl (fun w hs => sm _ rfl hk rfl rfl rfl fun a hk => qe hk) fun a hk => ?_
      refine qsk hk rfl rfl rfl rfl fun a hk => ?_
      refine qsk hk rfl rfl rfl rfl fun a hk => ?_
      refine qsk hk rfl rfl rfl rfl fun a hk => ?_
      refine qsk hk rfl rfl rfl rfl fun a hk => ?_
      refine qsk hk rfl rfl rfl rfl fun a hk => ?_
      refine qsk hk rfl rfl rfl rfl fun a hk => ?_
      refine qsk hk rfl rfl rfl rfl fun a hk => ?_
      refine qsk hk rfl rfl rfl rfl fun a hk => ?_
      refine qsk hk rfl rfl rfl rfl fun a hk => ?_
      refine qsk hk rfl rfl rfl rfl fun a hk => ?_
      refine qsk hk rfl rfl rfl rfl fun a hk => ?_
      refine qsk hk rfl rfl rfl rfl fun a hk => ?_
      refine qsk hk rfl rfl rfl rfl fun a hk => ?_
      refine qsk hk rfl rfl rfl rfl fun a hk => ?_
      refine qst (.bool true) hk rfl rfl rfl rfl (fun w hs => sv (.bool true) hk rfl rfl rfl fun a hk => qe hk) fun a hk => ?_
      refine wml_nil fun w hF _ => ?_
      have hs := hs.f hF
      obtain rfl := Option.some.inj H
      show R9 _ _
      rw [hR9]
      exact ⟨true, rfl, (hk.c 0 rfl (hk.c 38 rfl hk.k)), (hs.pick [(1, 1)] rfl)⟩
    · have hk := hk.lit 11 c10 rfl
      refine qst (.pointer (some ⟨b0_, 0, none⟩)) hk rfl rfl rfl rfl (fun w hs => sm _ rfl hk rfl rfl rfl fun a hk => qe hk) fun a hk => ?_
      refine qst (.pointer (some ⟨b0_, 0, none⟩)) hk rfl rfl rfl rfl (fun w hs => snk rfl hk rfl rfl rfl fun a hk => qe hk) fun a hk => ?_
      refine qst (.pointer (some ⟨b0_, 1, none⟩)) hk rfl rfl rfl rfl (fun w hs => sf ⟨b0_, 1, none⟩ rfl hk rfl rfl rfl fd183_1 rfl fun a hk => qe hk) fun a hk => ?_
      refine qst (.int .i64 x0.at_) hk rfl rfl rfl rfl (fun w hs => sl rfl hk rfl rfl rfl ag3 (box_cell hs (k := 1) rfl rfl) fun a hk => qe hk) fun a hk => ?_
      refine qst (.pointer (some ⟨b0_, 0, none⟩)) hk rfl rfl rfl rfl (fun w hs => sm _ rfl hk rfl rfl rfl fun a hk => qe hk) fun a hk => ?_
      refine qst (.pointer (some ⟨b0_, 0, none⟩)) hk rfl rfl rfl rfl (fun w hs => snk rfl hk rfl rfl rfl fun a hk => qe hk) fun a hk => ?_
      refine qst (.pointer (some ⟨b0_, 0, none⟩)) hk rfl rfl rfl rfl (fun w hs => sf ⟨b0_, 0, none⟩ rfl hk rfl rfl rfl fd183_0 rfl fun a hk => qe hk) fun a hk => ?_
      refine qst (.slice A0_0 x0.list.length p0_0) hk rfl rfl rfl rfl (fun w hs => sl rfl hk rfl rfl rfl ag31 (box_cell hs (k := 1) rfl rfl) fun a hk => qe hk) fun a hk => ?_
      refine qst (.int .i64 (x0.list.length : Int)) hk rfl rfl rfl rfl (fun w hs => sle rfl hk rfl rfl rfl un31 fun a hk => qe hk) fun a hk => ?_
      refine qst (.bool (x0.at_ == (x0.list.length : Int))) hk rfl rfl rfl rfl (fun w hs => sv (.bool (x0.at_ == (x0.list.length : Int))) hk rfl rfl rfl fun a hk => qe hk) fun a hk => ?_
      refine qst (.bool (x0.at_ == (x0.list.length : Int))) hk rfl rfl rfl rfl (fun w hs => sv (.bool (x0.at_ == (x0.list.length : Int))) hk rfl rfl rfl fun a hk => qe hk) fun a hk => ?_
      refine qst (.bool (x0.at_ == (x0.list.length : Int))) hk rfl rfl rfl rfl (fun w hs => sm _ rfl hk rfl rfl rfl fun a hk => qe hk) fun a hk => ?_
      rcases cond_some H with ⟨c11, H⟩ | ⟨c11, H⟩
      · have hk := hk.lit 23 c11 rfl
        refine qsk hk rfl rfl rfl rfl fun a hk => ?_
        refine qsk hk rfl rfl rfl rfl fun a hk => ?_
        refine qsk hk rfl rfl rfl rfl fun a hk => ?_
        refine qsk hk rfl rfl rfl rfl fun a hk => ?_
        refine qsk hk rfl rfl rfl rfl fun a hk => ?_
        refine qsk hk rfl rfl rfl rfl fun a hk => ?_
        refine qsk hk rfl rfl rfl rfl fun a hk => ?_
        refine qsk hk rfl rfl rfl rfl fun a hk => ?_
        refine qsk hk rfl rfl rfl rfl fun a hk => ?_
        refine qsk hk rfl rfl rfl rfl fun a hk => ?_
        refine qsk hk rfl rfl rfl rfl fun a hk => ?_
        refine qsk hk rfl rfl rfl rfl fun a hk => ?_
        refine qsk hk rfl rfl rfl rfl fun a hk => ?_
        refine qsk hk rfl rfl rfl rfl fun a hk => ?_
        refine qst (.bool true) hk rfl rfl rfl rfl (fun w hs => sv (.bool true) hk rfl rfl rfl fun a hk => qe hk) fun a hk => ?_
        refine wml_nil fun w hF _ => ?_
        have hs := hs.f hF
        obtain rfl := Option.some.inj H
        show R9 _ _
        rw [hR9]
        exact ⟨true, rfl, (hk.c 0 rfl (hk.c 38 rfl hk.k)), (hs.pick [(1, 1)] rfl)⟩
      · have hk := hk.lit 23 c11 rfl
        refine qst (.pointer (some ⟨b0_, 0, none⟩)) hk rfl rfl rfl rfl (fun w hs => sm _ rfl hk rfl rfl rfl fun a hk => qe hk) fun a hk => ?_
        refine qst (.pointer (some ⟨b0_, 0, none⟩)) hk rfl rfl rfl rfl (fun w hs => snk rfl hk rfl rfl rfl fun a hk => qe hk) fun a hk => ?_
        refine qst (.pointer (some ⟨b0_, 0, none⟩)) hk rfl rfl rfl rfl (fun w hs => sf ⟨b0_, 0, none⟩ rfl hk rfl rfl rfl fd183_0 rfl fun a hk => qe hk) fun a hk => ?_
        refine qst (.slice A0_0 x0.list.length p0_0) hk rfl rfl rfl rfl (fun w hs => sl rfl hk rfl rfl rfl ag31 (box_cell hs (k := 1) rfl rfl) fun a hk => qe hk) fun a hk => ?_
        refine qst (.pointer (some ⟨b0_, 0, none⟩)) hk rfl rfl rfl rfl (fun w hs => sm _ rfl hk rfl rfl rfl fun a hk => qe hk) fun a hk => ?_
        refine qst (.pointer (some ⟨b0_, 0, none⟩)) hk rfl rfl rfl rfl (fun w hs => snk rfl hk rfl rfl rfl fun a hk => qe hk) fun a hk => ?_
        refine qst (.pointer (some ⟨b0_, 1, none⟩)) hk rfl rfl rfl rfl (fun w hs => sf ⟨b0_, 1, none⟩ rfl hk rfl rfl rfl fd183_1 rfl fun a hk => qe hk) fun a hk => ?_
        refine qst (.int .i64 x0.at_) hk rfl rfl rfl rfl (fun w hs => sl rfl hk rfl rfl rfl ag3 (box_cell hs (k := 1) rfl rfl) fun a hk => qe hk) fun a hk => ?_
        rcases ite_some H with ⟨c12, H⟩ | ⟨_, H⟩
        rotate_left
        · cases H
        obtain ⟨b13, q14, hAc12⟩ := (v0_0).some_ x0.at_ c12.1 c12.2
        refine qst (.pointer (some (padd A0_0 ((x0.at_).toNat * 1)))) hk rfl rfl rfl rfl (fun w hs => si rfl hk rfl rfl rfl rfl un31 sz3 c12.1 c12.2 hAc12 fun a hk => qe hk) fun a hk => ?_
        obtain ⟨_, rfl, e15⟩ := (v0_0).at_ 0 x0.at_ c12.1 c12.2
        refine qst (.int .i64 (x0.list.getD (x0.at_).toNat 0)) hk rfl rfl rfl rfl (fun w hs => sl (v := (.int .i64 (x0.list.getD (x0.at_).toNat 0))) rfl hk rfl rfl rfl ag3 ((e15 0 _ rfl).cell (hs.hasD (k := 2) rfl)) fun a hk => qe hk) fun a hk => ?_
        refine qst (.int .i64 x1) hk rfl rfl rfl rfl (fun w hs => sm _ rfl hk rfl rfl rfl fun a hk => qe hk) fun a hk => ?_
        refine qst (.int .i64 x2) hk rfl rfl rfl rfl (fun w hs => sm _ rfl hk rfl rfl rfl fun a hk => qe hk) fun a hk => ?_
        obtain ⟨y16, h17, H⟩ := bind_some H
        refine qst (.bool y16) hk rfl rfl rfl rfl (fun w hs => sc rfl en115 hk rfl rfl rfl (impl_within_t _ (x0.list.getD (x0.at_).toNat 0) x1 x2 _ h17) fun _ w hR a hk => qc hR hk) fun a hk => ?_
        refine qst (.bool (!y16)) hk rfl rfl rfl rfl (fun w hs => sv (.bool (!y16)) hk rfl rfl rfl fun a hk => qe hk) fun a hk => ?_
        refine qst (.bool (!y16)) hk rfl rfl rfl rfl (fun w hs => sv (.bool (!y16)) hk rfl rfl rfl fun a hk => qe hk) fun a hk => ?_
        refine wml_nil fun w hF _ => ?_
        have hs := hs.f hF
        obtain rfl := Option.some.inj H
        show R9 _ _
        rw [hR9]
        exact ⟨(!y16), rfl, (hk.c 0 rfl (hk.c 38 rfl hk.k)), (hs.pick [(1, 1)] rfl)⟩
  · intro a w hR0
    rw [hR9] at hR0
    obtain ⟨u5, rfl, hk, hs⟩ := hR0
    have H := HL8
    try dsimp only at H
    refine hK3 _ _ ?_
    rcases cond_some H with ⟨c18, H⟩ | ⟨c18, H⟩
    · have hk := hk.lit 38 c18 rfl
      refine cnd_true hk rfl rfl ?_
      apply wp_seq_k; intro K19 hK19
      apply wp_region_lit
      refine sm _ rfl hk rfl rfl rfl fun a hk => ?_
      refine snk rfl hk rfl rfl rfl fun a hk => ?_
      refine sf ⟨b0_, 2, none⟩ rfl hk rfl rfl rfl fd183_2 rfl fun a hk => ?_
      refine ssx (cs' := #[.slice A0_0 x0.list.length p0_0, .int .i64 x0.at_, .bool true]) 1 hs rfl rfl hk rfl rfl rfl rfl sz4 rfl rfl rfl rfl fun w a hk hs => ?_
      show wpList _ _ _ [] _ _
      refine wpList_nil ?_
      refine hK19 _ _ ?_
      apply wp_seq_k; intro K20 hK20
      apply wp_region_lit
      refine sa _ rfl hk rfl rfl rfl fun a hk => ?_
      show wpList _ _ _ [] _ _
      refine wpList_nil ?_
      refine hK20 _ _ ?_
      refine wp_ret ?_
      obtain rfl := Option.some.inj H
      exact fin hk _ [(.int .i64 0)] rfl ⟨rfl, trivial⟩ ⟨rfl, (hs.pick [(0, 1)] rfl).dnil⟩
    · have hk := hk.lit 38 c18 rfl
      refine cnd_false hk rfl rfl ?_
      refine wp_skip ?_
      refine hK2 _ _ ?_
      apply wp_seq_k; intro K21 hK21
      apply wp_region_lit
      refine sm _ rfl hk rfl rfl rfl fun a hk => ?_
      refine snk rfl hk rfl rfl rfl fun a hk => ?_
      refine sf ⟨b0_, 1, none⟩ rfl hk rfl rfl rfl fd183_1 rfl fun a hk => ?_
      refine sl rfl hk rfl rfl rfl ag3 (box_cell hs (k := 1) rfl rfl) fun a hk => ?_
      refine sv (.int .i64 (w64 (x0.at_ + 1))) hk rfl rfl rfl fun a hk => ?_
      refine snk rfl hk rfl rfl rfl fun a hk => ?_
      refine sf ⟨b0_, 1, none⟩ rfl hk rfl rfl rfl fd183_1 rfl fun a hk => ?_
      refine ssx (cs' := #[.slice A0_0 x0.list.length p0_0, .int .i64 (w64 (x0.at_ + 1)), .bool x0.bad]) 1 hs rfl rfl hk rfl rfl rfl rfl sz3 rfl rfl rfl rfl fun w a hk hs => ?_
      show wpList _ _ _ [] _ _
      refine wpList_nil ?_
      refine hK21 _ _ ?_
      apply wp_seq_k; intro K22 hK22
      refine wp_region_tree (.q 0 (.q 1 (.q 2 (.q 3 (.alt 4 (.alt 5 (.alt 6 (.alt 7 (.alt 8 (.alt 9 (.alt 10 (.last 11) .stop) .stop) .stop) .stop) .stop) .stop) .stop))))) mo (by kernel_rfl) (hs.pick [(1, 1)] rfl) fun _ => ?_
      have hs := hs.drew
      refine tqst (.pointer (some ⟨b0_, 0, none⟩)) hk rfl rfl rfl rfl (fun w hs => sm _ rfl hk rfl rfl rfl fun a hk => qe hk) fun a hk => ?_
      refine tqst (.pointer (some ⟨b0_, 0, none⟩)) hk rfl rfl rfl rfl (fun w hs => snk rfl hk rfl rfl rfl fun a hk => qe hk) fun a hk => ?_
      refine tqst (.pointer (some ⟨b0_, 0, none⟩)) hk rfl rfl rfl rfl (fun w hs => sf ⟨b0_, 0, none⟩ rfl hk rfl rfl rfl fd183_0 rfl fun a hk => qe hk) fun a hk => ?_
      refine tqst (.slice A0_0 x0.list.length p0_0) hk rfl rfl rfl rfl (fun w hs => sl rfl hk rfl rfl rfl ag31 (box_cell hs (k := 1) rfl rfl) fun a hk => qe hk) fun a hk => ?_
      refine tsst hk rfl rfl (fun K_r23_4 hK_r23_4 w hF => ?_) wt_stop
      have hs := hs.f hF
      refine sm _ rfl hk rfl rfl rfl fun a hk => ?_
      refine se (hs.pick [(1, 1)] rfl) hk (hK_r23_4 _ _ ?_)
      refine tsst hk rfl rfl (fun K_r23_5 hK_r23_5 w hF => ?_) wt_stop
      have hs := hs.f hF
      refine snk rfl hk rfl rfl rfl fun a hk => ?_
      refine se (hs.pick [(1, 1)] rfl) hk (hK_r23_5 _ _ ?_)
      refine tsst hk rfl rfl (fun K_r23_6 hK_r23_6 w hF => ?_) wt_stop
      have hs := hs.f hF
      refine sf ⟨b0_, 1, none⟩ rfl hk rfl rfl rfl fd183_1 rfl fun a hk => ?_
      refine se (hs.pick [(1, 1)] rfl) hk (hK_r23_6 _ _ ?_)
      refine tsst hk rfl rfl (fun K_r23_7 hK_r23_7 w hF => ?_) wt_stop
      have hs := hs.f hF
      refine sl rfl hk rfl rfl rfl ag3 (box_cell hs (k := 1) rfl rfl) fun a hk => ?_
      refine se (hs.pick [(1, 1)] rfl) hk (hK_r23_7 _ _ ?_)
      refine tsst hk rfl rfl (fun K_r23_8 hK_r23_8 w hF => ?_) wt_stop
      have hs := hs.f hF
      refine sv (.int .i64 (w64 ((w64 (x0.at_ + 1)) - 1))) hk rfl rfl rfl fun a hk => ?_
      refine se (hs.pick [(1, 1)] rfl) hk (hK_r23_8 _ _ ?_)
      refine tsst hk rfl rfl (fun K_r23_9 hK_r23_9 w hF => ?_) wt_stop
      have hs := hs.f hF
      rcases ite_some H with ⟨c24, H⟩ | ⟨_, H⟩
      rotate_left
      · cases H
      obtain ⟨b25, q26, hAc24⟩ := (v0_0).some_ (w64 ((w64 (x0.at_ + 1)) - 1)) c24.1 c24.2
      refine si rfl hk rfl rfl rfl rfl un31 sz3 c24.1 c24.2 hAc24 fun a hk => ?_
      refine se (hs.pick [(1, 1)] rfl) hk (hK_r23_9 _ _ ?_)
      refine tsst hk rfl rfl (fun K_r23_10 hK_r23_10 w hF => ?_) wt_stop
      have hs := hs.f hF
      obtain ⟨_, rfl, e27⟩ := (v0_0).at_ 0 (w64 ((w64 (x0.at_ + 1)) - 1)) c24.1 c24.2
      refine sl (v := (.int .i64 (x0.list.getD (w64 ((w64 (x0.at_ + 1)) - 1)).toNat 0))) rfl hk rfl rfl rfl ag3 ((e27 0 _ rfl).cell (hs.hasD (k := 2) rfl)) fun a hk => ?_
      refine se (hs.pick [(1, 1)] rfl) hk (hK_r23_10 _ _ ?_)
      refine tlst hk rfl rfl fun K_r23_11 hK_r23_11 w hF => ?_
      have hs := hs.f hF
      refine sa _ rfl hk rfl rfl rfl fun a hk => ?_
      refine se trivial hk (hK_r23_11 _ _ fun w hF => ?_)
      have hs := hs.f hF
      refine hK22 _ _ ?_
      refine wp_ret ?_
      obtain rfl := Option.some.inj H
      exact fin hk _ [(.int .i64 (x0.list.getD (w64 ((w64 (x0.at_ + 1)) - 1)).toNat 0))] rfl ⟨rfl, trivial⟩ ⟨rfl, (hs.pick [(0, 1)] rfl).dnil⟩

noncomputable def impl_reader_several.s0 (x0 : S_reader) (x1 : Int) (x2 : Int) (x3 : Int) (u15 : List Int) (u12 : Int) (u13 : Int) (u14 : Bool) : Option (((List Int) × Int × Int × Bool) ⊕ Ex ((List Int) × Int × Bool) ((List Int) × Int × Bool)) :=
  (bif (decide (u12 < x1)) then ((impl_reader_next.f (⟨x0.list, u13, u14⟩ : S_reader) x2 x3).bind fun y39 => (if u15.length + ([y39.1]).length ≤ 1073741824 then (some (.inl ((u15 ++ ([y39.1])), (w64 (u12 + 1)), y39.2.1, y39.2.2))) else none)) else (some (.inr (.out (u15, u13, u14)))))
noncomputable def impl_reader_several.f (x0 : S_reader) (x1 : Int) (x2 : Int) (x3 : Int) : Option ((List Int) × Int × Bool) :=
  ((loopO (fun s => impl_reader_several.s0 x0 x1 x2 x3 s.1 s.2.1 s.2.2.1 s.2.2.2) (([] : List Int), 0, x0.at_, x0.bad)).bind fun o => match o with | .out (u20, u25, u26) => (some (u20, u25, u26)) | .ret r => (some r))
set_option maxRecDepth 100000 in
set_option maxHeartbeats 0 in
theorem impl_reader_several_t (w0 : World) (b0_ : Nat) (x0 : S_reader) (A0_0 : Option Addr) (p0_0 : Nat) (k0_0 : Chunk) (v0_0 : View (Lay.int .i64) A0_0 p0_0 x0.list k0_0) (w0_0 : Has w0 k0_0) (x1 : Int) (x2 : Int) (x3 : Int) (hs0 : Sat (blks [(1, [(b0_, .cells #[.slice A0_0 x0.list.length p0_0, .int .i64 x0.at_, .bool x0.bad] 183 (0, 0))])]) w0 w0 [(2, k0_0)] [(1, [(b0_, .cells #[.slice A0_0 x0.list.length p0_0, .int .i64 x0.at_, .bool x0.bad] 183 (0, 0))])]) (r : (List Int) × Int × Bool) (H : impl_reader_several.f x0 x1 x2 x3 = some r) :
    Calls Try.prog 140 #[.pointer (some ⟨b0_, 0, none⟩), .int .i64 x1, .int .i64 x2, .int .i64 x3] w0 (Ret (fun v w => ∃ (A0 : Option Addr) (p0 : Nat) (k0 : Chunk), v = .slice A0 r.1.length p0 ∧ Own (Lay.int .i64) 3 A0 p0 r.1 k0 ∧ Sat (blks [(1, [(b0_, .cells #[.slice A0_0 x0.list.length p0_0, .int .i64 x0.at_, .bool x0.bad] 183 (0, 0))])]) w0 w [] [(0, k0), (1, [(b0_, .cells #[.slice A0_0 x0.list.length p0_0, .int .i64 r.2.1, .bool r.2.2] 183 (0, 0))])])) := by
  have hs := hs0
  unfold impl_reader_several.f at H
  refine enter Try.func140 rfl Try.ntmps140 rfl fun a hk => ?_
  apply wp_seq_k; intro K1 hK1
  apply wp_region_lit
  refine sa _ rfl hk rfl rfl rfl fun a hk => ?_
  show wpList _ _ _ [] _ _
  refine wpList_nil ?_
  refine hK1 _ _ ?_
  apply wp_seq_k; intro K2 hK2
  apply wp_region_lit
  refine sa _ rfl hk rfl rfl rfl fun a hk => ?_
  show wpList _ _ _ [] _ _
  refine wpList_nil ?_
  refine hK2 _ _ ?_
  apply wp_seq_k; intro K3 hK3
  apply wp_seq_k; intro K4 hK4
  apply wp_region_lit
  refine sm _ rfl hk rfl rfl rfl fun a hk => ?_
  refine sm _ rfl hk rfl rfl rfl fun a hk => ?_
  show wpList _ _ _ [] _ _
  refine wpList_nil ?_
  refine hK4 _ _ ?_
  obtain ⟨o27, h28, HL29⟩ := bind_some H
  clear H
  obtain ⟨R30, hR30⟩ : ∃ R : Act → World → Prop, R = fun a w => ∃ (u20 : List Int) (u25 : Int) (u26 : Bool) (A23 : Option Addr) (p24 : Nat) (k21 : Chunk), o27 = .out (u20, u25, u26) ∧ Kn [(0, (.pointer (some ⟨b0_, 0, none⟩))), (9, (.slice A23 u20.length p24))] 22 a ∧ Sat (blks [(1, [(b0_, .cells #[.slice A0_0 x0.list.length p0_0, .int .i64 x0.at_, .bool x0.bad] 183 (0, 0))])]) w0 w [(2, k0_0)] [(5, k21), (1, [(b0_, .cells #[.slice A0_0 x0.list.length p0_0, .int .i64 u25, .bool u26] 183 (0, 0))])] ∧ Own (Lay.int .i64) 3 A23 p24 u20 k21 := ⟨_, rfl⟩
  refine wp_cutq R30 ?_ ?_
  · refine wp_block ?_
    obtain ⟨fu32, h28⟩ := loopO_some h28
    obtain ⟨I31, hI31⟩ : ∃ I : Nat → Act → World → Prop, I = fun fu a w => ∃ (u15 : List Int) (u12 : Int) (u13 : Int) (u14 : Bool) (A18 : Option Addr) (p19 : Nat) (k16 : Chunk), loopN (fun s => impl_reader_several.s0 x0 x1 x2 x3 s.1 s.2.1 s.2.2.1 s.2.2.2) fu (u15, u12, u13, u14) = some o27 ∧ Kn [(0, (.pointer (some ⟨b0_, 0, none⟩))), (2, (.int .i64 x2)), (3, (.int .i64 x3)), (9, (.slice A18 u15.length p19)), (10, (.int .i64 x1)), (11, (.int .i64 u12))] 22 a ∧ Sat (blks [(1, [(b0_, .cells #[.slice A0_0 x0.list.length p0_0, .int .i64 x0.at_, .bool x0.bad] 183 (0, 0))])]) w0 w [(2, k0_0)] [(5, k16), (1, [(b0_, .cells #[.slice A0_0 x0.list.length p0_0, .int .i64 u13, .bool u14] 183 (0, 0))])] ∧ Own (Lay.int .i64) 3 A18 p19 u15 k16 := ⟨_, rfl⟩
    refine wp_loop_ghost I31 fu32 ?_ ?_
    · rw [hI31]
      exact ⟨([] : List Int), 0, x0.at_, x0.bad, none, 0, _, h28, (hk.c 0 rfl (hk.c 2 rfl (hk.c 3 rfl (hk.c 9 rfl (hk.c 10 rfl (hk.c 11 rfl hk.k)))))), ((hs.addNil 1005).pick [(5, 1005), (1, 1)] rfl), Own.nil _ _⟩
    · clear h28 hk hs
      intro fu32 a w hI0
      rw [hI31] at hI0
      obtain ⟨u15, u12, u13, u14, A18, p19, k16, hi, hk, hs, o17⟩ := hI0
      obtain ⟨x33, H, h34⟩ := loop_round hi
      try dsimp only at H
      unfold impl_reader_several.s0 at H
      apply wp_seq_k; intro K35 hK35
      apply wp_region_lit
      refine sv (.bool (decide (u12 < x1))) hk rfl rfl rfl fun a hk => ?_
      show wpList _ _ _ [] _ _
      refine wpList_nil ?_
      refine hK35 _ _ ?_
      apply wp_seq_k; intro K36 hK36
      rcases cond_some H with ⟨c37, H⟩ | ⟨c37, H⟩
      · have hk := hk.lit 12 c37 rfl
        refine cnd_true hk rfl rfl ?_
        refine wp_skip ?_
        refine hK36 _ _ ?_
        apply wp_seq_k; intro K38 hK38
        refine wp_block ?_
        apply wp_region_lit
        refine sm _ rfl hk rfl rfl rfl fun a hk => ?_
        refine sm _ rfl hk rfl rfl rfl fun a hk => ?_
        refine sm _ rfl hk rfl rfl rfl fun a hk => ?_
        refine sm _ rfl hk rfl rfl rfl fun a hk => ?_
        obtain ⟨y39, h40, H⟩ := bind_some H
        refine sc rfl en141 hk rfl rfl rfl (impl_reader_next_t _ b0_ (⟨x0.list, u13, u14⟩ : S_reader) A0_0 p0_0 _ v0_0 (hs.hasD (k := 2) rfl) x2 x3 ((hs.hand [(1, 1)] rfl).dpick [(2, 2)] rfl) _ h40) ?_
        rintro _ w ⟨rfl, hG⟩ a hk
        have hs := hs.back [(1, 1)] rfl hG [1] rfl
        refine sbs (L := (Lay.int .i64)) (pv := [(0, (.int .i64 y39.1))]) (xs := [y39.1]) (ess := [[.int .i64 y39.1]]) 6 hs rfl hk rfl rfl rfl un31 (bs3_0 y39.1) (AllOwn.cons0 ⟨rfl, rfl⟩ AllOwn.nil) rfl rfl rfl fun b41 k42 w a hk o43 hs => ?_
        rcases ite_some H with ⟨c44, H⟩ | ⟨_, H⟩
        rotate_left
        · cases H
        refine sap 5 (xs := u15) (ys := [y39.1]) (flat_flat : ((Lay.int .i64)).Flat) hs rfl o17 o43.view (hs.hasG (k := 6) rfl) rfl hk rfl rfl rfl rfl rfl rfl un31 mk3 rfl rfl rfl c44 fun A45 p46 k47 w a hk o48 hs => ?_
        refine sa _ rfl hk rfl rfl rfl fun a hk => ?_
        show wpList _ _ _ [] _ _
        refine wpList_nil ?_
        refine hK38 _ _ ?_
        apply wp_region_lit
        refine sv (.int .i64 (w64 (u12 + 1))) hk rfl rfl rfl fun a hk => ?_
        refine sm _ rfl hk rfl rfl rfl fun a hk => ?_
        show wpList _ _ _ [] _ _
        refine wpList_nil ?_
        obtain rfl := Option.some.inj H
        obtain ⟨m49, hmm49, h34⟩ := h34
        show ∃ n', n' < _ ∧ I31 n' _ _
        refine ⟨m49, hmm49, ?_⟩
        rw [hI31]
        exact ⟨(u15 ++ ([y39.1])), (w64 (u12 + 1)), y39.2.1, y39.2.2, A45, p46, _, h34, (hk.c 0 rfl (hk.c 2 rfl (hk.c 3 rfl (hk.c 9 rfl (hk.c 10 rfl (hk.c 11 rfl hk.k)))))), (hs.pick [(5, 5), (1, 1)] rfl), o48⟩
      · have hk := hk.lit 12 c37 rfl
        refine cnd_false hk rfl rfl ?_
        refine wp_exit ?_
        obtain rfl := Option.some.inj H
        show R30 _ _
        rw [hR30]
        exact ⟨u15, u13, u14, A18, p19, _, h34.symm, (hk.c 0 rfl (hk.c 9 rfl hk.k)), (hs.pick [(5, 5), (1, 1)] rfl), o17⟩
  · intro a w hR0
    rw [hR30] at hR0
    obtain ⟨u20, u25, u26, A23, p24, k21, rfl, hk, hs, o22⟩ := hR0
    have H := HL29
    try dsimp only at H
    refine hK3 _ _ ?_
    apply wp_seq_k; intro K50 hK50
    apply wp_region_lit
    refine sm _ rfl hk rfl rfl rfl fun a hk => ?_
    refine sa _ rfl hk rfl rfl rfl fun a hk => ?_
    show wpList _ _ _ [] _ _
    refine wpList_nil ?_
    refine hK50 _ _ ?_
    refine wp_ret ?_
    obtain rfl := Option.some.inj H
    exact fin hk _ [(.slice A23 u20.length p24)] rfl ⟨rfl, trivial⟩ ⟨A23, p24, _, rfl, o22, (hs.pick [(0, 5), (1, 1)] rfl).dnil⟩

noncomputable def impl_readEntry.s1 (y3 : S_reader) (y60 : Int × Int × Bool) (u64 : Int) (u65 : Int) (u66 : Bool) (u72 : List S_Op) : Option ((Int × Int × Bool × (List S_Op)) ⊕ Ex (Int × Bool × (List S_Op)) ((List S_Txn) × (List Int) × Bool)) :=
  (bif (decide (u64 < y60.1)) then ((impl_reader_next.f (⟨y3.list, u65, u66⟩ : S_reader) 1 6).bind fun y97 => ((impl_reader_next.f (⟨y3.list, y97.2.1, y97.2.2⟩ : S_reader) 1 9999).bind fun y99 => ((impl_reader_next.f (⟨y3.list, y99.2.1, y99.2.2⟩ : S_reader) 0 999999).bind fun y101 => (if u72.length + ([(⟨y97.1, y99.1, y101.1⟩ : S_Op)]).length ≤ 1073741824 then (some (.inl ((w64 (u64 + 1)), y101.2.1, y101.2.2, (u72 ++ ([(⟨y97.1, y99.1, y101.1⟩ : S_Op)]))))) else none)))) else (some (.inr (.out (u65, u66, u72)))))
noncomputable def impl_readEntry.s0 (y3 : S_reader) (y20 : Int × Int × Bool) (u32 : List S_Txn) (u29 : Int) (u30 : Int) (u31 : Bool) : Option (((List S_Txn) × Int × Int × Bool) ⊕ Ex ((List S_Txn) × Int × Bool) ((List S_Txn) × (List Int) × Bool)) :=
  (bif (decide (u29 < y20.1)) then ((impl_reader_next.f (⟨y3.list, u30, u31⟩ : S_reader) 1 4).bind fun y60 => ((loopO (fun s => impl_readEntry.s1 y3 y60 s.1 s.2.1 s.2.2.1 s.2.2.2) (0, y60.2.1, y60.2.2, ([] : List S_Op))).bind fun o => match o with | .out (u77, u78, u79) => (if u32.length + ([(⟨u79⟩ : S_Txn)]).length ≤ 1073741824 then (some (.inl ((u32 ++ ([(⟨u79⟩ : S_Txn)])), (w64 (u29 + 1)), u77, u78))) else none) | .ret r => (some (.inr (.ret r))))) else (some (.inr (.out (u32, u30, u31)))))
noncomputable def impl_readEntry.f (x0 : ByteArray) : Option ((List S_Txn) × (List Int) × Bool) :=
  ((impl_readerOf.f x0 68).bind fun y3 => ((impl_reader_several.f y3 40 0 7).bind fun y11 => ((impl_reader_next.f (⟨y3.list, y11.2.1, y11.2.2⟩ : S_reader) 1 2).bind fun y20 => ((loopO (fun s => impl_readEntry.s0 y3 y20 s.1 s.2.1 s.2.2.1 s.2.2.2) (([] : List S_Txn), 0, y20.2.1, y20.2.2)).bind fun o => match o with | .out (u37, u42, u43) => ((((impl_reader_ends.f (⟨y3.list, u42, u43⟩ : S_reader)).bind fun y129 => (bif (!y129.1) then (some true) else ((impl_BatchOK.f u37).bind fun y132 => (some (!y132))))) : Option (Bool)).bind fun u124 => (bif u124 then (some (([] : List S_Txn), ([] : List Int), false)) else (some (u37, y11.1, true)))) | .ret r => (some r)))))
set_option maxRecDepth 100000 in
set_option maxHeartbeats 0 in
theorem impl_readEntry_t (w0 : World) (x0 : ByteArray) (r : (List S_Txn) × (List Int) × Bool) (H : impl_readEntry.f x0 = some r) :
    Calls Try.prog 89 #[.string x0] w0 (Ret (fun v w => ∃ (A0 : Option Addr) (p0 : Nat) (k0 : Chunk), ∃ (A1 : Option Addr) (p1 : Nat) (k1 : Chunk), v = .tuple #[.slice A0 r.1.length p0, .slice A1 r.2.1.length p1, .bool r.2.2] ∧ Own L_impl_Txn 95 A0 p0 r.1 k0 ∧ Own (Lay.int .i64) 3 A1 p1 r.2.1 k1 ∧ Sat [] w0 w [] [(0, k0), (1, k1)])) := by
  have hs : Sat [] w0 w0 [] [] := Sat.init w0 [] [] (by simp) (by simp) List.nodup_nil (by simp [blks])
  unfold impl_readEntry.f at H
  refine enter Try.func89 rfl Try.ntmps89 rfl fun a hk => ?_
  apply wp_seq_k; intro K1 hK1
  apply wp_region_lit
  refine sa _ rfl hk rfl rfl rfl fun a hk => ?_
  refine sa _ rfl hk rfl rfl rfl fun a hk => ?_
  refine sa _ rfl hk rfl rfl rfl fun a hk => ?_
  show wpList _ _ _ [] _ _
  refine wpList_nil ?_
  refine hK1 _ _ ?_
  apply wp_seq_k; intro K2 hK2
  apply wp_region_lit
  refine sm _ rfl hk rfl rfl rfl fun a hk => ?_
  obtain ⟨y3, h4, H⟩ := bind_some H
  refine sc rfl en137 hk rfl rfl rfl (impl_readerOf_t _ x0 68 _ h4) ?_
  rintro _ w ⟨b5, A6, p7, k8, rfl, o9, hG⟩ a hk
  have hs := hs.call0k hG [1, 2] rfl
  refine sa _ rfl hk rfl rfl rfl fun a hk => ?_
  show wpList _ _ _ [] _ _
  refine wpList_nil ?_
  refine hK2 _ _ ?_
  apply wp_seq_k; intro K10 hK10
  apply wp_region_lit
  refine sm _ rfl hk rfl rfl rfl fun a hk => ?_
  obtain ⟨y11, h12, H⟩ := bind_some H
  refine sc rfl en140 hk rfl rfl rfl (impl_reader_several_t _ b5 y3 A6 p7 _ o9.view (hs.hasG (k := 2) rfl) 40 0 7 ((hs.hand [(1, 1)] rfl).dpick [(2, 2)] rfl) _ h12) ?_
  rintro _ w ⟨A13, p14, k15, rfl, o16, hG⟩ a hk
  have hs := hs.back [(1, 1)] rfl hG [3, 1] rfl
  refine sa _ rfl hk rfl rfl rfl fun a hk => ?_
  show wpList _ _ _ [] _ _
  refine wpList_nil ?_
  refine hK10 _ _ ?_
  apply wp_seq_k; intro K17 hK17
  apply wp_region_lit
  refine sa _ rfl hk rfl rfl rfl fun a hk => ?_
  show wpList _ _ _ [] _ _
  refine wpList_nil ?_
  refine hK17 _ _ ?_
  apply wp_seq_k; intro K18 hK18
  apply wp_seq_k; intro K19 hK19
  apply wp_region_lit
  refine sm _ rfl hk rfl rfl rfl fun a hk => ?_
  obtain ⟨y20, h21, H⟩ := bind_some H
  refine sc rfl en141 hk rfl rfl rfl (impl_reader_next_t _ b5 (⟨y3.list, y11.2.1, y11.2.2⟩ : S_reader) A6 p7 _ o9.view (hs.hasG (k := 2) rfl) 1 2 ((hs.hand [(1, 1)] rfl).dpick [(2, 2)] rfl) _ h21) ?_
  rintro _ w ⟨rfl, hG⟩ a hk
  have hs := hs.back [(1, 1)] rfl hG [1] rfl
  refine sm _ rfl hk rfl rfl rfl fun a hk => ?_
  show wpList _ _ _ [] _ _
  refine wpList_nil ?_
  refine hK19 _ _ ?_
  obtain ⟨o44, h45, HL46⟩ := bind_some H
  clear H
  obtain ⟨R47, hR47⟩ : ∃ R : Act → World → Prop, R = fun a w => ∃ (u37 : List S_Txn) (u42 : Int) (u43 : Bool) (A40 : Option Addr) (p41 : Nat) (k38 : Chunk), o44 = .out (u37, u42, u43) ∧ Kn [(5, (.pointer (some ⟨b5, 0, none⟩))), (6, (.slice A13 y11.1.length p14)), (7, (.slice A40 u37.length p41))] 49 a ∧ Sat [] w0 w [] [(3, k15), (6, k38), (1, [(b5, .cells #[.slice A6 y3.list.length p7, .int .i64 u42, .bool u43] 183 (0, 0))]), (2, k8)] ∧ Own L_impl_Txn 95 A40 p41 u37 k38 := ⟨_, rfl⟩
  refine wp_cutq R47 ?_ ?_
  · refine wp_block ?_
    obtain ⟨fu49, h45⟩ := loopO_some h45
    obtain ⟨I48, hI48⟩ : ∃ I : Nat → Act → World → Prop, I = fun fu a w => ∃ (u32 : List S_Txn) (u29 : Int) (u30 : Int) (u31 : Bool) (A35 : Option Addr) (p36 : Nat) (k33 : Chunk), loopN (fun s => impl_readEntry.s0 y3 y20 s.1 s.2.1 s.2.2.1 s.2.2.2) fu (u32, u29, u30, u31) = some o44 ∧ Kn [(5, (.pointer (some ⟨b5, 0, none⟩))), (6, (.slice A13 y11.1.length p14)), (7, (.slice A35 u32.length p36)), (14, (.int .i64 y20.1)), (15, (.int .i64 u29))] 49 a ∧ Sat [] w0 w [] [(3, k15), (6, k33), (1, [(b5, .cells #[.slice A6 y3.list.length p7, .int .i64 u30, .bool u31] 183 (0, 0))]), (2, k8)] ∧ Own L_impl_Txn 95 A35 p36 u32 k33 := ⟨_, rfl⟩
    refine wp_loop_ghost I48 fu49 ?_ ?_
    · rw [hI48]
      exact ⟨([] : List S_Txn), 0, y20.2.1, y20.2.2, none, 0, _, h45, (hk.c 5 rfl (hk.c 6 rfl (hk.c 7 rfl (hk.c 14 rfl (hk.c 15 rfl hk.k))))), ((hs.addNil 1006).pick [(3, 3), (6, 1006), (1, 1), (2, 2)] rfl), Own.nil _ _⟩
    · clear h45 hk hs
      intro fu49 a w hI0
      rw [hI48] at hI0
      obtain ⟨u32, u29, u30, u31, A35, p36, k33, hi, hk, hs, o34⟩ := hI0
      obtain ⟨x50, H, h51⟩ := loop_round hi
      try dsimp only at H
      unfold impl_readEntry.s0 at H
      apply wp_seq_k; intro K52 hK52
      apply wp_region_lit
      refine sv (.bool (decide (u29 < y20.1))) hk rfl rfl rfl fun a hk => ?_
      show wpList _ _ _ [] _ _
      refine wpList_nil ?_
      refine hK52 _ _ ?_
      apply wp_seq_k; intro K53 hK53
      rcases cond_some H with ⟨c54, H⟩ | ⟨c54, H⟩
      · have hk := hk.lit 16 c54 rfl
        refine cnd_true hk rfl rfl ?_
        refine wp_skip ?_
        refine hK53 _ _ ?_
        apply wp_seq_k; intro K55 hK55
        refine wp_block ?_
        apply wp_seq_k; intro K56 hK56
        apply wp_region_lit
        refine salx 7 hs rfl hk rfl rfl ze95 rfl fun b57 w a hk hs => ?_
        show wpList _ _ _ [] _ _
        refine wpList_nil ?_
        refine hK56 _ _ ?_
        apply wp_seq_k; intro K58 hK58
        apply wp_seq_k; intro K59 hK59
        apply wp_region_lit
        refine sm _ rfl hk rfl rfl rfl fun a hk => ?_
        obtain ⟨y60, h61, H⟩ := bind_some H
        refine sc rfl en141 hk rfl rfl rfl (impl_reader_next_t _ b5 (⟨y3.list, u30, u31⟩ : S_reader) A6 p7 _ o9.view (hs.hasG (k := 2) rfl) 1 4 ((hs.hand [(1, 1)] rfl).dpick [(2, 2)] rfl) _ h61) ?_
        rintro _ w ⟨rfl, hG⟩ a hk
        have hs := hs.back [(1, 1)] rfl hG [1] rfl
        refine sm _ rfl hk rfl rfl rfl fun a hk => ?_
        show wpList _ _ _ [] _ _
        refine wpList_nil ?_
        refine hK59 _ _ ?_
        obtain ⟨o84, h85, HL86⟩ := bind_some H
        clear H
        obtain ⟨R87, hR87⟩ : ∃ R : Act → World → Prop, R = fun a w => ∃ (u77 : Int) (u78 : Bool) (u79 : List S_Op) (A82 : Option Addr) (p83 : Nat) (k80 : Chunk), o84 = .out (u77, u78, u79) ∧ Kn [(5, (.pointer (some ⟨b5, 0, none⟩))), (6, (.slice A13 y11.1.length p14)), (7, (.slice A35 u32.length p36)), (8, (.pointer (some ⟨b57, 0, none⟩))), (14, (.int .i64 y20.1)), (15, (.int .i64 u29))] 49 a ∧ Sat [] w0 w [] [(3, k15), (6, k33), (1, [(b5, .cells #[.slice A6 y3.list.length p7, .int .i64 u77, .bool u78] 183 (0, 0))]), (2, k8), (7, [(b57, .cells #[.slice A82 u79.length p83] 95 (0, 0))]), (10, k80)] ∧ Own L_Op 135 A82 p83 u79 k80 := ⟨_, rfl⟩
        refine wp_cutq R87 ?_ ?_
        · refine wp_block ?_
          obtain ⟨fu89, h85⟩ := loopO_some h85
          obtain ⟨I88, hI88⟩ : ∃ I : Nat → Act → World → Prop, I = fun fu a w => ∃ (u64 : Int) (u65 : Int) (u66 : Bool) (u72 : List S_Op) (A75 : Option Addr) (p76 : Nat) (k73 : Chunk), loopN (fun s => impl_readEntry.s1 y3 y60 s.1 s.2.1 s.2.2.1 s.2.2.2) fu (u64, u65, u66, u72) = some o84 ∧ Kn [(5, (.pointer (some ⟨b5, 0, none⟩))), (6, (.slice A13 y11.1.length p14)), (7, (.slice A35 u32.length p36)), (8, (.pointer (some ⟨b57, 0, none⟩))), (14, (.int .i64 y20.1)), (15, (.int .i64 u29)), (18, (.int .i64 y60.1)), (19, (.int .i64 u64))] 49 a ∧ Sat [] w0 w [] [(3, k15), (6, k33), (1, [(b5, .cells #[.slice A6 y3.list.length p7, .int .i64 u65, .bool u66] 183 (0, 0))]), (2, k8), (7, [(b57, .cells #[.slice A75 u72.length p76] 95 (0, 0))]), (10, k73)] ∧ Own L_Op 135 A75 p76 u72 k73 := ⟨_, rfl⟩
          refine wp_loop_ghost I88 fu89 ?_ ?_
          · rw [hI88]
            exact ⟨0, y60.2.1, y60.2.2, ([] : List S_Op), none, 0, _, h85, (hk.c 5 rfl (hk.c 6 rfl (hk.c 7 rfl (hk.c 8 rfl (hk.c 14 rfl (hk.c 15 rfl (hk.c 18 rfl (hk.c 19 rfl hk.k)))))))), ((hs.addNil 1010).pick [(3, 3), (6, 6), (1, 1), (2, 2), (7, 7), (10, 1010)] rfl), Own.nil _ _⟩
          · clear h85 hk hs
            intro fu89 a w hI0
            rw [hI88] at hI0
            obtain ⟨u64, u65, u66, u72, A75, p76, k73, hi, hk, hs, o74⟩ := hI0
            obtain ⟨x90, H, h91⟩ := loop_round hi
            try dsimp only at H
            unfold impl_readEntry.s1 at H
            apply wp_seq_k; intro K92 hK92
            apply wp_region_lit
            refine sv (.bool (decide (u64 < y60.1))) hk rfl rfl rfl fun a hk => ?_
            show wpList _ _ _ [] _ _
            refine wpList_nil ?_
            refine hK92 _ _ ?_
            apply wp_seq_k; intro K93 hK93
            rcases cond_some H with ⟨c94, H⟩ | ⟨c94, H⟩
            · have hk := hk.lit 20 c94 rfl
              refine cnd_true hk rfl rfl ?_
              refine wp_skip ?_
              refine hK93 _ _ ?_
              apply wp_seq_k; intro K95 hK95
              refine wp_block ?_
              refine wp_region_tree (.q 0 (.q 1 (.q 2 (.q 4 (.q 6 (.alt 3 (.alt 5 (.alt 7 (.alt 8 (.alt 9 (.alt 10 (.alt 11 (.last 12) .stop) .stop) .stop) .stop) .stop) .stop) .stop)))))) mo (by kernel_rfl) (hs.pick [(3, 3), (6, 6), (2, 2), (7, 7)] rfl) fun _ => ?_
              have hs := hs.drew
              refine tqst (.pointer (some ⟨b57, 0, none⟩)) hk rfl rfl rfl rfl (fun w hs => sf ⟨b57, 0, none⟩ rfl hk rfl rfl rfl fd95_0 rfl fun a hk => qe hk) fun a hk => ?_
              refine tqst (.slice A75 u72.length p76) hk rfl rfl rfl rfl (fun w hs => sl rfl hk rfl rfl rfl ag93 (box_cell hs (k := 7) rfl rfl) fun a hk => qe hk) fun a hk => ?_
              refine tqst (.pointer (some ⟨b5, 0, none⟩)) hk rfl rfl rfl rfl (fun w hs => sm _ rfl hk rfl rfl rfl fun a hk => qe hk) fun a hk => ?_
              refine tqst (.pointer (some ⟨b5, 0, none⟩)) hk rfl rfl rfl rfl (fun w hs => sm _ rfl hk rfl rfl rfl fun a hk => qe hk) fun a hk => ?_
              refine tqst (.pointer (some ⟨b5, 0, none⟩)) hk rfl rfl rfl rfl (fun w hs => sm _ rfl hk rfl rfl rfl fun a hk => qe hk) fun a hk => ?_
              refine tsst hk rfl rfl (fun K_r96_3 hK_r96_3 w hF => ?_) wt_stop
              have hs := hs.f hF
              obtain ⟨y97, h98, H⟩ := bind_some H
              refine sc rfl en141 hk rfl rfl rfl (impl_reader_next_t _ b5 (⟨y3.list, u65, u66⟩ : S_reader) A6 p7 _ o9.view (hs.hasG (k := 2) rfl) 1 6 ((hs.hand [(1, 1)] rfl).dpick [(2, 2)] rfl) _ h98) ?_
              rintro _ w ⟨rfl, hG⟩ a hk
              have hs := hs.back [(1, 1)] rfl hG [1] rfl
              refine se (hs.pick [(3, 3), (6, 6), (2, 2), (7, 7)] rfl) hk (hK_r96_3 _ _ ?_)
              refine tsst hk rfl rfl (fun K_r96_5 hK_r96_5 w hF => ?_) wt_stop
              have hs := hs.f hF
              obtain ⟨y99, h100, H⟩ := bind_some H
              refine sc rfl en141 hk rfl rfl rfl (impl_reader_next_t _ b5 (⟨y3.list, y97.2.1, y97.2.2⟩ : S_reader) A6 p7 _ o9.view (hs.hasG (k := 2) rfl) 1 9999 ((hs.hand [(1, 1)] rfl).dpick [(2, 2)] rfl) _ h100) ?_
              rintro _ w ⟨rfl, hG⟩ a hk
              have hs := hs.back [(1, 1)] rfl hG [1] rfl
              refine se (hs.pick [(3, 3), (6, 6), (2, 2), (7, 7)] rfl) hk (hK_r96_5 _ _ ?_)
              refine tsst hk rfl rfl (fun K_r96_7 hK_r96_7 w hF => ?_) wt_stop
              have hs := hs.f hF
              obtain ⟨y101, h102, H⟩ := bind_some H
              refine sc rfl en141 hk rfl rfl rfl (impl_reader_next_t _ b5 (⟨y3.list, y99.2.1, y99.2.2⟩ : S_reader) A6 p7 _ o9.view (hs.hasG (k := 2) rfl) 0 999999 ((hs.hand [(1, 1)] rfl).dpick [(2, 2)] rfl) _ h102) ?_
              rintro _ w ⟨rfl, hG⟩ a hk
              have hs := hs.back [(1, 1)] rfl hG [1] rfl
              refine se (hs.pick [(3, 3), (6, 6), (2, 2), (7, 7)] rfl) hk (hK_r96_7 _ _ ?_)
              refine tsst hk rfl rfl (fun K_r96_8 hK_r96_8 w hF => ?_) wt_stop
              have hs := hs.f hF
              refine sbd (pv := [(0, (.int .i64 y97.1)), (1, (.int .i64 y99.1)), (2, (.int .i64 y101.1))]) rfl hk rfl rfl rfl (bd135_9 y97.1 y99.1 y101.1) fun a hk => ?_
              refine se (hs.pick [(3, 3), (6, 6), (2, 2), (7, 7)] rfl) hk (hK_r96_8 _ _ ?_)
              refine tsst hk rfl rfl (fun K_r96_9 hK_r96_9 w hF => ?_) wt_stop
              have hs := hs.f hF
              refine sbs (L := L_Op) (pv := [(0, (.agg #[.int .i64 y97.1, .int .i64 y99.1, .int .i64 y101.1]))]) (xs := [(⟨y97.1, y99.1, y101.1⟩ : S_Op)]) (ess := [[.int .i64 y97.1, .int .i64 y99.1, .int .i64 y101.1]]) 12 hs rfl hk rfl rfl rfl un93 (bs135_5 y97.1 y99.1 y101.1) (AllOwn.cons0 ⟨rfl, rfl⟩ AllOwn.nil) rfl rfl rfl fun b103 k104 w a hk o105 hs => ?_
              refine se (hs.pick [(3, 3), (6, 6), (2, 2), (7, 7)] rfl) hk (hK_r96_9 _ _ ?_)
              refine tsst hk rfl rfl (fun K_r96_10 hK_r96_10 w hF => ?_) wt_stop
              have hs := hs.f hF
              rcases ite_some H with ⟨c106, H⟩ | ⟨_, H⟩
              rotate_left
              · cases H
              refine sap 10 (xs := u72) (ys := [(⟨y97.1, y99.1, y101.1⟩ : S_Op)]) (flat_flat : (L_Op).Flat) hs rfl o74 o105.view (hs.hasG (k := 12) rfl) rfl hk rfl rfl rfl rfl rfl rfl un93 mk135 rfl rfl rfl c106 fun A107 p108 k109 w a hk o110 hs => ?_
              refine se (hs.pick [(3, 3), (6, 6), (2, 2), (7, 7)] rfl) hk (hK_r96_10 _ _ ?_)
              refine tsst hk rfl rfl (fun K_r96_11 hK_r96_11 w hF => ?_) wt_stop
              have hs := hs.f hF
              refine sf ⟨b57, 0, none⟩ rfl hk rfl rfl rfl fd95_0 rfl fun a hk => ?_
              refine se (hs.pick [(3, 3), (6, 6), (2, 2), (7, 7)] rfl) hk (hK_r96_11 _ _ ?_)
              refine tlst hk rfl rfl fun K_r96_12 hK_r96_12 w hF => ?_
              have hs := hs.f hF
              refine ssx (cs' := #[.slice A107 (u72 ++ ([(⟨y97.1, y99.1, y101.1⟩ : S_Op)])).length p108]) 7 hs rfl rfl hk rfl rfl rfl rfl sz93 rfl rfl rfl rfl fun w a hk hs => ?_
              refine se trivial hk (hK_r96_12 _ _ fun w hF => ?_)
              have hs := hs.f hF
              refine hK95 _ _ ?_
              apply wp_region_lit
              refine sv (.int .i64 (w64 (u64 + 1))) hk rfl rfl rfl fun a hk => ?_
              refine sm _ rfl hk rfl rfl rfl fun a hk => ?_
              show wpList _ _ _ [] _ _
              refine wpList_nil ?_
              obtain rfl := Option.some.inj H
              obtain ⟨m111, hmm111, h91⟩ := h91
              show ∃ n', n' < _ ∧ I88 n' _ _
              refine ⟨m111, hmm111, ?_⟩
              rw [hI88]
              exact ⟨(w64 (u64 + 1)), y101.2.1, y101.2.2, (u72 ++ ([(⟨y97.1, y99.1, y101.1⟩ : S_Op)])), A107, p108, _, h91, (hk.c 5 rfl (hk.c 6 rfl (hk.c 7 rfl (hk.c 8 rfl (hk.c 14 rfl (hk.c 15 rfl (hk.c 18 rfl (hk.c 19 rfl hk.k)))))))), (hs.pick [(3, 3), (6, 6), (1, 1), (2, 2), (7, 7), (10, 10)] rfl), o110⟩
            · have hk := hk.lit 20 c94 rfl
              refine cnd_false hk rfl rfl ?_
              refine wp_exit ?_
              obtain rfl := Option.some.inj H
              show R87 _ _
              rw [hR87]
              exact ⟨u65, u66, u72, A75, p76, _, h91.symm, (hk.c 5 rfl (hk.c 6 rfl (hk.c 7 rfl (hk.c 8 rfl (hk.c 14 rfl (hk.c 15 rfl hk.k)))))), (hs.pick [(3, 3), (6, 6), (1, 1), (2, 2), (7, 7), (10, 10)] rfl), o74⟩
        · intro a w hR0
          rw [hR87] at hR0
          obtain ⟨u77, u78, u79, A82, p83, k80, rfl, hk, hs, o81⟩ := hR0
          have H := HL86
          try dsimp only at H
          refine hK58 _ _ ?_
          apply wp_region_lit
          refine sm _ rfl hk rfl rfl rfl fun a hk => ?_
          refine sln [.slice A82 u79.length p83] rfl hk rfl rfl rfl ag95 sz95 (box_cells hs (k := 7) rfl) fun a hk => ?_
          refine sbs1 (L := L_impl_Txn) (pv := [(0, (.agg #[.slice A82 u79.length p83]))]) (xs := [(⟨u79⟩ : S_Txn)]) (ess := [[.slice A82 u79.length p83]]) 13 10 hs rfl rfl hk rfl rfl rfl un34 (bs95_6 A82 u79.length p83) (AllOwn.one ⟨_, rfl, o81.toV⟩) rfl rfl rfl fun b112 k113 w a hk o114 hs => ?_
          rcases ite_some H with ⟨c115, H⟩ | ⟨_, H⟩
          rotate_left
          · cases H
          refine sapm 6 13 (xs := u32) (ys := [(⟨u79⟩ : S_Txn)]) hs rfl rfl o34 o114 rfl hk rfl rfl rfl rfl rfl rfl un34 mk95 rfl rfl rfl c115 fun A116 p117 k118 w a hk o119 hs => ?_
          refine sa _ rfl hk rfl rfl rfl fun a hk => ?_
          show wpList _ _ _ [] _ _
          refine wpList_nil ?_
          refine hK55 _ _ ?_
          apply wp_region_lit
          refine sv (.int .i64 (w64 (u29 + 1))) hk rfl rfl rfl fun a hk => ?_
          refine sm _ rfl hk rfl rfl rfl fun a hk => ?_
          show wpList _ _ _ [] _ _
          refine wpList_nil ?_
          obtain rfl := Option.some.inj H
          obtain ⟨m120, hmm120, h51⟩ := h51
          show ∃ n', n' < _ ∧ I48 n' _ _
          refine ⟨m120, hmm120, ?_⟩
          rw [hI48]
          exact ⟨(u32 ++ ([(⟨u79⟩ : S_Txn)])), (w64 (u29 + 1)), u77, u78, A116, p117, _, h51, (hk.c 5 rfl (hk.c 6 rfl (hk.c 7 rfl (hk.c 14 rfl (hk.c 15 rfl hk.k))))), (hs.pick [(3, 3), (6, 6), (1, 1), (2, 2)] rfl), o119⟩
      · have hk := hk.lit 16 c54 rfl
        refine cnd_false hk rfl rfl ?_
        refine wp_exit ?_
        obtain rfl := Option.some.inj H
        show R47 _ _
        rw [hR47]
        exact ⟨u32, u30, u31, A35, p36, _, h51.symm, (hk.c 5 rfl (hk.c 6 rfl (hk.c 7 rfl hk.k))), (hs.pick [(3, 3), (6, 6), (1, 1), (2, 2)] rfl), o34⟩
  · intro a w hR0
    rw [hR47] at hR0
    obtain ⟨u37, u42, u43, A40, p41, k38, rfl, hk, hs, o39⟩ := hR0
    have H := HL46
    try dsimp only at H
    refine hK18 _ _ ?_
    apply wp_seq_k; intro K121 hK121
    apply wp_seq_k; intro K122 hK122
    obtain ⟨o125, h126, HL127⟩ := bind_some H
    clear H
    obtain ⟨R128, hR128⟩ : ∃ R : Act → World → Prop, R = fun a w => ∃ (u124 : Bool), u124 = o125 ∧ Kn [(6, (.slice A13 y11.1.length p14)), (7, (.slice A40 u37.length p41)), (46, (.bool u124))] 49 a ∧ Sat [] w0 w [] [(3, k15), (6, k38)] := ⟨_, rfl⟩
    refine wp_cutq R128 ?_ ?_
    · have H := h126
      apply wp_region_lit
      refine sm _ rfl hk rfl rfl rfl fun a hk => ?_
      obtain ⟨y129, h130, H⟩ := bind_some H
      refine sc rfl en139 hk rfl rfl rfl (impl_reader_ends_t _ b5 (⟨y3.list, u42, u43⟩ : S_reader) A6 p7 _ o9.view (hs.hasG (k := 2) rfl) ((hs.hand [(1, 1)] rfl).dpick [(2, 2)] rfl) _ h130) ?_
      rintro _ w ⟨rfl, hG⟩ a hk
      have hs := hs.back [(1, 1)] rfl hG [1] rfl
      refine sv (.bool (!y129.1)) hk rfl rfl rfl fun a hk => ?_
      refine sm _ rfl hk rfl rfl rfl fun a hk => ?_
      rcases cond_some H with ⟨c131, H⟩ | ⟨c131, H⟩
      · have hk := hk.lit 42 c131 rfl
        refine sk hk rfl rfl rfl fun a hk => ?_
        refine sk hk rfl rfl rfl fun a hk => ?_
        refine sk hk rfl rfl rfl fun a hk => ?_
        refine sv (.bool true) hk rfl rfl rfl fun a hk => ?_
        show wpList _ _ _ [] _ _
        refine wpList_nil ?_
        obtain rfl := Option.some.inj H
        show R128 _ _
        rw [hR128]
        exact ⟨true, rfl, (hk.c 6 rfl (hk.c 7 rfl (hk.c 46 rfl hk.k))), (hs.pick [(3, 3), (6, 6)] rfl)⟩
      · have hk := hk.lit 42 c131 rfl
        refine sm _ rfl hk rfl rfl rfl fun a hk => ?_
        obtain ⟨y132, h133, H⟩ := bind_some H
        refine sc rfl en66 hk rfl rfl rfl (impl_BatchOK_t _ A40 p41 u37 _ o39.view (hs.hasG (k := 6) rfl) _ h133) ?_
        rintro _ w ⟨rfl, hG⟩ a hk
        have hs := hs.call0 hG
        refine sv (.bool (!y132)) hk rfl rfl rfl fun a hk => ?_
        refine sv (.bool (!y132)) hk rfl rfl rfl fun a hk => ?_
        show wpList _ _ _ [] _ _
        refine wpList_nil ?_
        obtain rfl := Option.some.inj H
        show R128 _ _
        rw [hR128]
        exact ⟨(!y132), rfl, (hk.c 6 rfl (hk.c 7 rfl (hk.c 46 rfl hk.k))), (hs.pick [(3, 3), (6, 6)] rfl)⟩
    · intro a w hR0
      rw [hR128] at hR0
      obtain ⟨u124, rfl, hk, hs⟩ := hR0
      have H := HL127
      try dsimp only at H
      refine hK122 _ _ ?_
      rcases cond_some H with ⟨c134, H⟩ | ⟨c134, H⟩
      · have hk := hk.lit 46 c134 rfl
        refine cnd_true hk rfl rfl ?_
        apply wp_seq_k; intro K135 hK135
        apply wp_region_lit
        refine sa _ rfl hk rfl rfl rfl fun a hk => ?_
        refine sa _ rfl hk rfl rfl rfl fun a hk => ?_
        refine sa _ rfl hk rfl rfl rfl fun a hk => ?_
        show wpList _ _ _ [] _ _
        refine wpList_nil ?_
        refine hK135 _ _ ?_
        refine wp_ret ?_
        obtain rfl := Option.some.inj H
        have hs := hs.addNil 15
        have hs := hs.addNil 16
        exact fin hk _ [(.slice none 0 0), (.slice none 0 0), (.bool false)] rfl ⟨rfl, ⟨rfl, ⟨rfl, trivial⟩⟩⟩ ⟨none, 0, [], none, 0, [], rfl, Own.nil _ _, Own.nil _ _, (hs.pick [(0, 15), (1, 16)] rfl).dnil⟩
      · have hk := hk.lit 46 c134 rfl
        refine cnd_false hk rfl rfl ?_
        refine wp_skip ?_
        refine hK121 _ _ ?_
        apply wp_seq_k; intro K136 hK136
        apply wp_region_lit
        refine sm _ rfl hk rfl rfl rfl fun a hk => ?_
        refine sm _ rfl hk rfl rfl rfl fun a hk => ?_
        refine sa _ rfl hk rfl rfl rfl fun a hk => ?_
        refine sa _ rfl hk rfl rfl rfl fun a hk => ?_
        refine sa _ rfl hk rfl rfl rfl fun a hk => ?_
        show wpList _ _ _ [] _ _
        refine wpList_nil ?_
        refine hK136 _ _ ?_
        refine wp_ret ?_
        obtain rfl := Option.some.inj H
        exact fin hk _ [(.slice A40 u37.length p41), (.slice A13 y11.1.length p14), (.bool true)] rfl ⟨rfl, ⟨rfl, ⟨rfl, trivial⟩⟩⟩ ⟨A40, p41, _, A13, p14, _, rfl, o39, o16, (hs.pick [(0, 6), (1, 3)] rfl).dnil⟩

noncomputable def impl_ReadEntry.f (x0 : ByteArray) : Option ((List S_Txn) × (List Int) × Int) :=
  ((impl_areShort.f ([x0])).bind fun y7 => (bif (!y7) then (some (([] : List S_Txn), ([] : List Int), 2)) else ((impl_readEntry.f x0).bind fun y12 => (bif (!y12.2.2) then (some (([] : List S_Txn), ([] : List Int), 3)) else (some (y12.1, y12.2.1, 0))))))
set_option maxRecDepth 100000 in
set_option maxHeartbeats 0 in
theorem impl_ReadEntry_t (w0 : World) (x0 : ByteArray) (r : (List S_Txn) × (List Int) × Int) (H : impl_ReadEntry.f x0 = some r) :
    Calls Try.prog 38 #[.string x0] w0 (Ret (fun v w => ∃ (A0 : Option Addr) (p0 : Nat) (k0 : Chunk), ∃ (A1 : Option Addr) (p1 : Nat) (k1 : Chunk), v = .tuple #[.slice A0 r.1.length p0, .slice A1 r.2.1.length p1, .int .i64 r.2.2] ∧ Own L_impl_Txn 95 A0 p0 r.1 k0 ∧ Own (Lay.int .i64) 3 A1 p1 r.2.1 k1 ∧ Sat [] w0 w [] [(0, k0), (1, k1)])) := by
  have hs : Sat [] w0 w0 [] [] := Sat.init w0 [] [] (by simp) (by simp) List.nodup_nil (by simp [blks])
  unfold impl_ReadEntry.f at H
  refine enter Try.func38 rfl Try.ntmps38 rfl fun a hk => ?_
  apply wp_seq_k; intro K1 hK1
  apply wp_region_lit
  refine sa _ rfl hk rfl rfl rfl fun a hk => ?_
  refine sa _ rfl hk rfl rfl rfl fun a hk => ?_
  refine sa _ rfl hk rfl rfl rfl fun a hk => ?_
  show wpList _ _ _ [] _ _
  refine wpList_nil ?_
  refine hK1 _ _ ?_
  apply wp_seq_k; intro K2 hK2
  apply wp_seq_k; intro K3 hK3
  apply wp_region_lit
  refine sm _ rfl hk rfl rfl rfl fun a hk => ?_
  refine sbs (L := Lay.str) (pv := [(0, (.string x0))]) (xs := [x0]) (ess := [[.string x0]]) 1 hs rfl hk rfl rfl rfl un154 (bs9_10 x0) (AllOwn.cons0 ⟨rfl, rfl⟩ AllOwn.nil) rfl rfl rfl fun b4 k5 w a hk o6 hs => ?_
  obtain ⟨y7, h8, H⟩ := bind_some H
  refine sc rfl en86 hk rfl rfl rfl (impl_areShort_t _ (some ⟨b4, 0, none⟩) 1 ([x0]) _ o6.view (hs.hasG (k := 1) rfl) _ h8) ?_
  rintro _ w ⟨rfl, hG⟩ a hk
  have hs := hs.call0 hG
  refine sv (.bool (!y7)) hk rfl rfl rfl fun a hk => ?_
  show wpList _ _ _ [] _ _
  refine wpList_nil ?_
  refine hK3 _ _ ?_
  rcases cond_some H with ⟨c9, H⟩ | ⟨c9, H⟩
  · have hk := hk.lit 11 c9 rfl
    refine cnd_true hk rfl rfl ?_
    apply wp_seq_k; intro K10 hK10
    apply wp_region_lit
    refine sa _ rfl hk rfl rfl rfl fun a hk => ?_
    refine sa _ rfl hk rfl rfl rfl fun a hk => ?_
    refine sa _ rfl hk rfl rfl rfl fun a hk => ?_
    show wpList _ _ _ [] _ _
    refine wpList_nil ?_
    refine hK10 _ _ ?_
    refine wp_ret ?_
    obtain rfl := Option.some.inj H
    have hs := hs.addNil 2
    have hs := hs.addNil 3
    exact fin hk _ [(.slice none 0 0), (.slice none 0 0), (.int .i64 2)] rfl ⟨rfl, ⟨rfl, ⟨rfl, trivial⟩⟩⟩ ⟨none, 0, [], none, 0, [], rfl, Own.nil _ _, Own.nil _ _, (hs.pick [(0, 2), (1, 3)] rfl).dnil⟩
  · have hk := hk.lit 11 c9 rfl
    refine cnd_false hk rfl rfl ?_
    refine wp_skip ?_
    refine hK2 _ _ ?_
    apply wp_seq_k; intro K11 hK11
    apply wp_region_lit
    refine sm _ rfl hk rfl rfl rfl fun a hk => ?_
    obtain ⟨y12, h13, H⟩ := bind_some H
    refine sc rfl en89 hk rfl rfl rfl (impl_readEntry_t _ x0 _ h13) ?_
    rintro _ w ⟨A14, p15, k16, A18, p19, k20, rfl, o17, o21, hG⟩ a hk
    have hs := hs.call0k hG [4, 5] rfl
    refine sm _ rfl hk rfl rfl rfl fun a hk => ?_
    refine sv (.slice A14 y12.1.length p15) hk rfl rfl rfl fun a hk => ?_
    refine sv (.slice A18 y12.2.1.length p19) hk rfl rfl rfl fun a hk => ?_
    refine sv (.bool y12.2.2) hk rfl rfl rfl fun a hk => ?_
    refine sa _ rfl hk rfl rfl rfl fun a hk => ?_
    refine sa _ rfl hk rfl rfl rfl fun a hk => ?_
    refine sa _ rfl hk rfl rfl rfl fun a hk => ?_
    show wpList _ _ _ [] _ _
    refine wpList_nil ?_
    refine hK11 _ _ ?_
    apply wp_seq_k; intro K22 hK22
    apply wp_seq_k; intro K23 hK23
    apply wp_region_lit
    refine sm _ rfl hk rfl rfl rfl fun a hk => ?_
    refine sv (.bool (!y12.2.2)) hk rfl rfl rfl fun a hk => ?_
    show wpList _ _ _ [] _ _
    refine wpList_nil ?_
    refine hK23 _ _ ?_
    rcases cond_some H with ⟨c24, H⟩ | ⟨c24, H⟩
    · have hk := hk.lit 19 c24 rfl
      refine cnd_true hk rfl rfl ?_
      apply wp_seq_k; intro K25 hK25
      apply wp_region_lit
      refine sa _ rfl hk rfl rfl rfl fun a hk => ?_
      refine sa _ rfl hk rfl rfl rfl fun a hk => ?_
      refine sa _ rfl hk rfl rfl rfl fun a hk => ?_
      show wpList _ _ _ [] _ _
      refine wpList_nil ?_
      refine hK25 _ _ ?_
      refine wp_ret ?_
      obtain rfl := Option.some.inj H
      have hs := hs.addNil 6
      have hs := hs.addNil 7
      exact fin hk _ [(.slice none 0 0), (.slice none 0 0), (.int .i64 3)] rfl ⟨rfl, ⟨rfl, ⟨rfl, trivial⟩⟩⟩ ⟨none, 0, [], none, 0, [], rfl, Own.nil _ _, Own.nil _ _, (hs.pick [(0, 6), (1, 7)] rfl).dnil⟩
    · have hk := hk.lit 19 c24 rfl
      refine cnd_false hk rfl rfl ?_
      refine wp_skip ?_
      refine hK22 _ _ ?_
      apply wp_seq_k; intro K26 hK26
      apply wp_region_lit
      refine sm _ rfl hk rfl rfl rfl fun a hk => ?_
      refine sm _ rfl hk rfl rfl rfl fun a hk => ?_
      refine sa _ rfl hk rfl rfl rfl fun a hk => ?_
      refine sa _ rfl hk rfl rfl rfl fun a hk => ?_
      refine sa _ rfl hk rfl rfl rfl fun a hk => ?_
      show wpList _ _ _ [] _ _
      refine wpList_nil ?_
      refine hK26 _ _ ?_
      refine wp_ret ?_
      obtain rfl := Option.some.inj H
      exact fin hk _ [(.slice A14 y12.1.length p15), (.slice A18 y12.2.1.length p19), (.int .i64 0)] rfl ⟨rfl, ⟨rfl, ⟨rfl, trivial⟩⟩⟩ ⟨A14, p15, _, A18, p19, _, rfl, o17, o21, (hs.pick [(0, 4), (1, 5)] rfl).dnil⟩

noncomputable def laws_markOpS.s0 (l0 : List S_Op) (u6 : List S_Op) (u10 : Int) (u11 : Int) : Option (((List S_Op) × Int × Int) ⊕ Ex ((List S_Op) × Int) (Int × (List S_Op))) :=
  (bif (decide (u11 < (l0.length : Int))) then (if 0 ≤ u11 ∧ u11 < (l0.length : Int) then (if 0 ≤ u11 ∧ u11 < (l0.length : Int) then (if 0 ≤ u11 ∧ u11 < (l0.length : Int) then (some (.inl ((((u6.set u11.toNat (⟨u10, (u6.getD u11.toNat z_Op).Key, (u6.getD u11.toNat z_Op).Value⟩ : S_Op)).set u11.toNat (⟨((u6.set u11.toNat (⟨u10, (u6.getD u11.toNat z_Op).Key, (u6.getD u11.toNat z_Op).Value⟩ : S_Op)).getD u11.toNat z_Op).Kind, (w64 (u10 + 1)), ((u6.set u11.toNat (⟨u10, (u6.getD u11.toNat z_Op).Key, (u6.getD u11.toNat z_Op).Value⟩ : S_Op)).getD u11.toNat z_Op).Value⟩ : S_Op)).set u11.toNat (⟨(((u6.set u11.toNat (⟨u10, (u6.getD u11.toNat z_Op).Key, (u6.getD u11.toNat z_Op).Value⟩ : S_Op)).set u11.toNat (⟨((u6.set u11.toNat (⟨u10, (u6.getD u11.toNat z_Op).Key, (u6.getD u11.toNat z_Op).Value⟩ : S_Op)).getD u11.toNat z_Op).Kind, (w64 (u10 + 1)), ((u6.set u11.toNat (⟨u10, (u6.getD u11.toNat z_Op).Key, (u6.getD u11.toNat z_Op).Value⟩ : S_Op)).getD u11.toNat z_Op).Value⟩ : S_Op)).getD u11.toNat z_Op).Kind, (((u6.set u11.toNat (⟨u10, (u6.getD u11.toNat z_Op).Key, (u6.getD u11.toNat z_Op).Value⟩ : S_Op)).set u11.toNat (⟨((u6.set u11.toNat (⟨u10, (u6.getD u11.toNat z_Op).Key, (u6.getD u11.toNat z_Op).Value⟩ : S_Op)).getD u11.toNat z_Op).Kind, (w64 (u10 + 1)), ((u6.set u11.toNat (⟨u10, (u6.getD u11.toNat z_Op).Key, (u6.getD u11.toNat z_Op).Value⟩ : S_Op)).getD u11.toNat z_Op).Value⟩ : S_Op)).getD u11.toNat z_Op).Key, (w64 ((w64 (u10 + 1)) + 1))⟩ : S_Op)), (w64 ((w64 ((w64 (u10 + 1)) + 1)) + 1)), (w64 (u11 + 1))))) else none) else none) else none) else (some (.inr (.out (u6, u10)))))
noncomputable def laws_markOpS.f (l0 : List S_Op) (x1 : Int) : Option (Int × (List S_Op)) :=
  ((loopO (fun s => laws_markOpS.s0 l0 s.1 s.2.1 s.2.2) (l0, x1, 0)).bind fun o => match o with | .out (u12, u16) => (some (u16, u12)) | .ret r => (some r))
set_option maxRecDepth 100000 in
set_option maxHeartbeats 0 in
theorem laws_markOpS_t (w0 : World) (A0_ : Option Addr) (p0_ : Nat) (l0 : List S_Op) (k0_ : Chunk) (v0_ : Own L_Op 135 A0_ p0_ l0 k0_) (x1 : Int) (hs0 : Sat (blks [(1, k0_)]) w0 w0 [] [(1, k0_)]) (r : Int × (List S_Op)) (H : laws_markOpS.f l0 x1 = some r) :
    Calls Try.prog 90 #[.slice A0_ l0.length p0_, .int .i64 x1] w0 (Ret (fun v w => ∃ (k0 : Chunk), v = .int .i64 r.1 ∧ (Own L_Op 135 A0_ p0_ r.2 k0 ∧ r.2.length = l0.length) ∧ Sat (blks [(1, k0_)]) w0 w [] [(0, k0)])) := by
  have hs := hs0
  unfold laws_markOpS.f at H
  refine enter Try.func90 rfl Try.ntmps90 rfl fun a hk => ?_
  apply wp_seq_k; intro K1 hK1
  apply wp_region_lit
  refine sa _ rfl hk rfl rfl rfl fun a hk => ?_
  show wpList _ _ _ [] _ _
  refine wpList_nil ?_
  refine hK1 _ _ ?_
  apply wp_seq_k; intro K2 hK2
  apply wp_seq_k; intro K3 hK3
  apply wp_region_lit
  refine sa _ rfl hk rfl rfl rfl fun a hk => ?_
  show wpList _ _ _ [] _ _
  refine wpList_nil ?_
  refine hK3 _ _ ?_
  obtain ⟨o17, h18, HL19⟩ := bind_some H
  clear H
  obtain ⟨R20, hR20⟩ : ∃ R : Act → World → Prop, R = fun a w => ∃ (u12 : List S_Op) (u16 : Int) (k13 : Chunk), o17 = .out (u12, u16) ∧ Kn [(0, (.slice A0_ l0.length p0_)), (1, (.int .i64 u16))] 34 a ∧ Sat (blks [(1, k0_)]) w0 w [] [(1, k13)] ∧ Own L_Op 135 A0_ p0_ u12 k13 ∧ u12.length = l0.length := ⟨_, rfl⟩
  refine wp_cutq R20 ?_ ?_
  · refine wp_block ?_
    obtain ⟨fu22, h18⟩ := loopO_some h18
    obtain ⟨I21, hI21⟩ : ∃ I : Nat → Act → World → Prop, I = fun fu a w => ∃ (u6 : List S_Op) (u10 : Int) (u11 : Int) (k7 : Chunk), loopN (fun s => laws_markOpS.s0 l0 s.1 s.2.1 s.2.2) fu (u6, u10, u11) = some o17 ∧ Kn [(0, (.slice A0_ l0.length p0_)), (1, (.int .i64 u10)), (5, (.int .i64 u11))] 34 a ∧ Sat (blks [(1, k0_)]) w0 w [] [(1, k7)] ∧ Own L_Op 135 A0_ p0_ u6 k7 ∧ u6.length = l0.length := ⟨_, rfl⟩
    refine wp_loop_ghost I21 fu22 ?_ ?_
    · rw [hI21]
      exact ⟨l0, x1, 0, _, h18, (hk.c 0 rfl (hk.c 1 rfl (hk.c 5 rfl hk.k))), (hs.pick [(1, 1)] rfl), v0_, rfl⟩
    · clear h18 hk hs
      intro fu22 a w hI0
      rw [hI21] at hI0
      obtain ⟨u6, u10, u11, k7, hi, hk, hs, o8, lh9⟩ := hI0
      obtain ⟨x23, H, h24⟩ := loop_round hi
      try dsimp only at H
      unfold laws_markOpS.s0 at H
      apply wp_seq_k; intro K25 hK25
      apply wp_seq_k; intro K26 hK26
      apply wp_region_lit
      refine sm _ rfl hk rfl rfl rfl fun a hk => ?_
      refine sm _ rfl hk rfl rfl rfl fun a hk => ?_
      refine sle rfl hk rfl rfl rfl un93 fun a hk => ?_
      refine sv (.bool (decide (u11 < (l0.length : Int)))) hk rfl rfl rfl fun a hk => ?_
      show wpList _ _ _ [] _ _
      refine wpList_nil ?_
      refine hK26 _ _ ?_
      rcases cond_some H with ⟨c27, H⟩ | ⟨c27, H⟩
      · have hk := hk.lit 9 c27 rfl
        refine cnd_true hk rfl rfl ?_
        refine wp_skip ?_
        refine hK25 _ _ ?_
        apply wp_seq_k; intro K28 hK28
        refine wp_block ?_
        apply wp_seq_k; intro K29 hK29
        apply wp_region_lit
        refine sm _ rfl hk rfl rfl rfl fun a hk => ?_
        refine sm _ rfl hk rfl rfl rfl fun a hk => ?_
        refine sm _ rfl hk rfl rfl rfl fun a hk => ?_
        rcases ite_some H with ⟨c30, H⟩ | ⟨_, H⟩
        rotate_left
        · cases H
        obtain ⟨b31, q32, hAc30⟩ := (o8.view).some_ u11 c30.1 (by rw [lh9]; exact c30.2)
        refine si rfl hk rfl rfl rfl rfl un93 sz135 c30.1 c30.2 hAc30 fun a hk => ?_
        refine sf (padd A0_ (u11.toNat * 3 + 0)) rfl hk rfl rfl rfl fd135_0 (padd_add _ _ _) fun a hk => ?_
        refine so (j := 0) 1 z_Op (⟨u10, (u6.getD u11.toNat z_Op).Key, (u6.getD u11.toNat z_Op).Value⟩ : S_Op) hs rfl o8 c30.1 (by rw [lh9]; exact c30.2) rfl hk rfl rfl rfl rfl rfl sz3 (by simp [Value.cells, Value.oneCell']) (Nat.le_of_ble_eq_true rfl) (fun _ _ h => ⟨by rw [h.1]; rfl, h.2⟩) fun k33 w a hk o34 hs => ?_
        have lh35 : (u6.set u11.toNat (⟨u10, (u6.getD u11.toNat z_Op).Key, (u6.getD u11.toNat z_Op).Value⟩ : S_Op)).length = l0.length := by rw [List.length_set]; exact lh9
        show wpList _ _ _ [] _ _
        refine wpList_nil ?_
        refine hK29 _ _ ?_
        apply wp_seq_k; intro K36 hK36
        apply wp_region_lit
        refine sm _ rfl hk rfl rfl rfl fun a hk => ?_
        refine sv (.int .i64 (w64 (u10 + 1))) hk rfl rfl rfl fun a hk => ?_
        refine sa _ rfl hk rfl rfl rfl fun a hk => ?_
        show wpList _ _ _ [] _ _
        refine wpList_nil ?_
        refine hK36 _ _ ?_
        apply wp_seq_k; intro K37 hK37
        apply wp_region_lit
        refine sm _ rfl hk rfl rfl rfl fun a hk => ?_
        refine sm _ rfl hk rfl rfl rfl fun a hk => ?_
        refine sm _ rfl hk rfl rfl rfl fun a hk => ?_
        rcases ite_some H with ⟨c38, H⟩ | ⟨_, H⟩
        rotate_left
        · cases H
        obtain ⟨b39, q40, hAc38⟩ := (o34.view).some_ u11 c38.1 (by rw [lh35]; exact c38.2)
        refine si rfl hk rfl rfl rfl rfl un93 sz135 c38.1 c38.2 hAc38 fun a hk => ?_
        refine sf (padd A0_ (u11.toNat * 3 + 1)) rfl hk rfl rfl rfl fd135_1 (padd_add _ _ _) fun a hk => ?_
        refine so (j := 1) 1 z_Op (⟨((u6.set u11.toNat (⟨u10, (u6.getD u11.toNat z_Op).Key, (u6.getD u11.toNat z_Op).Value⟩ : S_Op)).getD u11.toNat z_Op).Kind, (w64 (u10 + 1)), ((u6.set u11.toNat (⟨u10, (u6.getD u11.toNat z_Op).Key, (u6.getD u11.toNat z_Op).Value⟩ : S_Op)).getD u11.toNat z_Op).Value⟩ : S_Op) hs rfl o34 c38.1 (by rw [lh35]; exact c38.2) rfl hk rfl rfl rfl rfl rfl sz3 (by simp [Value.cells, Value.oneCell']) (Nat.le_of_ble_eq_true rfl) (fun _ _ h => ⟨by rw [h.1]; rfl, h.2⟩) fun k41 w a hk o42 hs => ?_
        have lh43 : ((u6.set u11.toNat (⟨u10, (u6.getD u11.toNat z_Op).Key, (u6.getD u11.toNat z_Op).Value⟩ : S_Op)).set u11.toNat (⟨((u6.set u11.toNat (⟨u10, (u6.getD u11.toNat z_Op).Key, (u6.getD u11.toNat z_Op).Value⟩ : S_Op)).getD u11.toNat z_Op).Kind, (w64 (u10 + 1)), ((u6.set u11.toNat (⟨u10, (u6.getD u11.toNat z_Op).Key, (u6.getD u11.toNat z_Op).Value⟩ : S_Op)).getD u11.toNat z_Op).Value⟩ : S_Op)).length = l0.length := by rw [List.length_set]; exact lh35
        show wpList _ _ _ [] _ _
        refine wpList_nil ?_
        refine hK37 _ _ ?_
        apply wp_seq_k; intro K44 hK44
        apply wp_region_lit
        refine sm _ rfl hk rfl rfl rfl fun a hk => ?_
        refine sv (.int .i64 (w64 ((w64 (u10 + 1)) + 1))) hk rfl rfl rfl fun a hk => ?_
        refine sa _ rfl hk rfl rfl rfl fun a hk => ?_
        show wpList _ _ _ [] _ _
        refine wpList_nil ?_
        refine hK44 _ _ ?_
        apply wp_seq_k; intro K45 hK45
        apply wp_region_lit
        refine sm _ rfl hk rfl rfl rfl fun a hk => ?_
        refine sm _ rfl hk rfl rfl rfl fun a hk => ?_
        refine sm _ rfl hk rfl rfl rfl fun a hk => ?_
        rcases ite_some H with ⟨c46, H⟩ | ⟨_, H⟩
        rotate_left
        · cases H
        obtain ⟨b47, q48, hAc46⟩ := (o42.view).some_ u11 c46.1 (by rw [lh43]; exact c46.2)
        refine si rfl hk rfl rfl rfl rfl un93 sz135 c46.1 c46.2 hAc46 fun a hk => ?_
        refine sf (padd A0_ (u11.toNat * 3 + 2)) rfl hk rfl rfl rfl fd135_2 (padd_add _ _ _) fun a hk => ?_
        refine so (j := 2) 1 z_Op (⟨(((u6.set u11.toNat (⟨u10, (u6.getD u11.toNat z_Op).Key, (u6.getD u11.toNat z_Op).Value⟩ : S_Op)).set u11.toNat (⟨((u6.set u11.toNat (⟨u10, (u6.getD u11.toNat z_Op).Key, (u6.getD u11.toNat z_Op).Value⟩ : S_Op)).getD u11.toNat z_Op).Kind, (w64 (u10 + 1)), ((u6.set u11.toNat (⟨u10, (u6.getD u11.toNat z_Op).Key, (u6.getD u11.toNat z_Op).Value⟩ : S_Op)).getD u11.toNat z_Op).Value⟩ : S_Op)).getD u11.toNat z_Op).Kind, (((u6.set u11.toNat (⟨u10, (u6.getD u11.toNat z_Op).Key, (u6.getD u11.toNat z_Op).Value⟩ : S_Op)).set u11.toNat (⟨((u6.set u11.toNat (⟨u10, (u6.getD u11.toNat z_Op).Key, (u6.getD u11.toNat z_Op).Value⟩ : S_Op)).getD u11.toNat z_Op).Kind, (w64 (u10 + 1)), ((u6.set u11.toNat (⟨u10, (u6.getD u11.toNat z_Op).Key, (u6.getD u11.toNat z_Op).Value⟩ : S_Op)).getD u11.toNat z_Op).Value⟩ : S_Op)).getD u11.toNat z_Op).Key, (w64 ((w64 (u10 + 1)) + 1))⟩ : S_Op) hs rfl o42 c46.1 (by rw [lh43]; exact c46.2) rfl hk rfl rfl rfl rfl rfl sz3 (by simp [Value.cells, Value.oneCell']) (Nat.le_of_ble_eq_true rfl) (fun _ _ h => ⟨by rw [h.1]; rfl, h.2⟩) fun k49 w a hk o50 hs => ?_
        have lh51 : (((u6.set u11.toNat (⟨u10, (u6.getD u11.toNat z_Op).Key, (u6.getD u11.toNat z_Op).Value⟩ : S_Op)).set u11.toNat (⟨((u6.set u11.toNat (⟨u10, (u6.getD u11.toNat z_Op).Key, (u6.getD u11.toNat z_Op).Value⟩ : S_Op)).getD u11.toNat z_Op).Kind, (w64 (u10 + 1)), ((u6.set u11.toNat (⟨u10, (u6.getD u11.toNat z_Op).Key, (u6.getD u11.toNat z_Op).Value⟩ : S_Op)).getD u11.toNat z_Op).Value⟩ : S_Op)).set u11.toNat (⟨(((u6.set u11.toNat (⟨u10, (u6.getD u11.toNat z_Op).Key, (u6.getD u11.toNat z_Op).Value⟩ : S_Op)).set u11.toNat (⟨((u6.set u11.toNat (⟨u10, (u6.getD u11.toNat z_Op).Key, (u6.getD u11.toNat z_Op).Value⟩ : S_Op)).getD u11.toNat z_Op).Kind, (w64 (u10 + 1)), ((u6.set u11.toNat (⟨u10, (u6.getD u11.toNat z_Op).Key, (u6.getD u11.toNat z_Op).Value⟩ : S_Op)).getD u11.toNat z_Op).Value⟩ : S_Op)).getD u11.toNat z_Op).Kind, (((u6.set u11.toNat (⟨u10, (u6.getD u11.toNat z_Op).Key, (u6.getD u11.toNat z_Op).Value⟩ : S_Op)).set u11.toNat (⟨((u6.set u11.toNat (⟨u10, (u6.getD u11.toNat z_Op).Key, (u6.getD u11.toNat z_Op).Value⟩ : S_Op)).getD u11.toNat z_Op).Kind, (w64 (u10 + 1)), ((u6.set u11.toNat (⟨u10, (u6.getD u11.toNat z_Op).Key, (u6.getD u11.toNat z_Op).Value⟩ : S_Op)).getD u11.toNat z_Op).Value⟩ : S_Op)).getD u11.toNat z_Op).Key, (w64 ((w64 (u10 + 1)) + 1))⟩ : S_Op)).length = l0.length := by rw [List.length_set]; exact lh43
        show wpList _ _ _ [] _ _
        refine wpList_nil ?_
        refine hK45 _ _ ?_
        apply wp_region_lit
        refine sm _ rfl hk rfl rfl rfl fun a hk => ?_
        refine sv (.int .i64 (w64 ((w64 ((w64 (u10 + 1)) + 1)) + 1))) hk rfl rfl rfl fun a hk => ?_
        refine sa _ rfl hk rfl rfl rfl fun a hk => ?_
        show wpList _ _ _ [] _ _
        refine wpList_nil ?_
        refine hK28 _ _ ?_
        apply wp_region_lit
        refine sm _ rfl hk rfl rfl rfl fun a hk => ?_
        refine sv (.int .i64 (w64 (u11 + 1))) hk rfl rfl rfl fun a hk => ?_
        refine sa _ rfl hk rfl rfl rfl fun a hk => ?_
        show wpList _ _ _ [] _ _
        refine wpList_nil ?_
        obtain rfl := Option.some.inj H
        obtain ⟨m52, hmm52, h24⟩ := h24
        show ∃ n', n' < _ ∧ I21 n' _ _
        refine ⟨m52, hmm52, ?_⟩
        rw [hI21]
        exact ⟨(((u6.set u11.toNat (⟨u10, (u6.getD u11.toNat z_Op).Key, (u6.getD u11.toNat z_Op).Value⟩ : S_Op)).set u11.toNat (⟨((u6.set u11.toNat (⟨u10, (u6.getD u11.toNat z_Op).Key, (u6.getD u11.toNat z_Op).Value⟩ : S_Op)).getD u11.toNat z_Op).Kind, (w64 (u10 + 1)), ((u6.set u11.toNat (⟨u10, (u6.getD u11.toNat z_Op).Key, (u6.getD u11.toNat z_Op).Value⟩ : S_Op)).getD u11.toNat z_Op).Value⟩ : S_Op)).set u11.toNat (⟨(((u6.set u11.toNat (⟨u10, (u6.getD u11.toNat z_Op).Key, (u6.getD u11.toNat z_Op).Value⟩ : S_Op)).set u11.toNat (⟨((u6.set u11.toNat (⟨u10, (u6.getD u11.toNat z_Op).Key, (u6.getD u11.toNat z_Op).Value⟩ : S_Op)).getD u11.toNat z_Op).Kind, (w64 (u10 + 1)), ((u6.set u11.toNat (⟨u10, (u6.getD u11.toNat z_Op).Key, (u6.getD u11.toNat z_Op).Value⟩ : S_Op)).getD u11.toNat z_Op).Value⟩ : S_Op)).getD u11.toNat z_Op).Kind, (((u6.set u11.toNat (⟨u10, (u6.getD u11.toNat z_Op).Key, (u6.getD u11.toNat z_Op).Value⟩ : S_Op)).set u11.toNat (⟨((u6.set u11.toNat (⟨u10, (u6.getD u11.toNat z_Op).Key, (u6.getD u11.toNat z_Op).Value⟩ : S_Op)).getD u11.toNat z_Op).Kind, (w64 (u10 + 1)), ((u6.set u11.toNat (⟨u10, (u6.getD u11.toNat z_Op).Key, (u6.getD u11.toNat z_Op).Value⟩ : S_Op)).getD u11.toNat z_Op).Value⟩ : S_Op)).getD u11.toNat z_Op).Key, (w64 ((w64 (u10 + 1)) + 1))⟩ : S_Op)), (w64 ((w64 ((w64 (u10 + 1)) + 1)) + 1)), (w64 (u11 + 1)), _, h24, (hk.c 0 rfl (hk.c 1 rfl (hk.c 5 rfl hk.k))), (hs.pick [(1, 1)] rfl), o50, lh51⟩
      · have hk := hk.lit 9 c27 rfl
        refine cnd_false hk rfl rfl ?_
        refine wp_exit ?_
        obtain rfl := Option.some.inj H
        show R20 _ _
        rw [hR20]
        exact ⟨u6, u10, _, h24.symm, (hk.c 0 rfl (hk.c 1 rfl hk.k)), (hs.pick [(1, 1)] rfl), o8, lh9⟩
  · intro a w hR0
    rw [hR20] at hR0
    obtain ⟨u12, u16, k13, rfl, hk, hs, o14, lh15⟩ := hR0
    have H := HL19
    try dsimp only at H
    refine hK2 _ _ ?_
    apply wp_seq_k; intro K53 hK53
    apply wp_region_lit
    refine sm _ rfl hk rfl rfl rfl fun a hk => ?_
    refine sa _ rfl hk rfl rfl rfl fun a hk => ?_
    show wpList _ _ _ [] _ _
    refine wpList_nil ?_
    refine hK53 _ _ ?_
    refine wp_ret ?_
    obtain rfl := Option.some.inj H
    exact fin hk _ [(.int .i64 u16)] rfl ⟨rfl, trivial⟩ ⟨_, rfl, ⟨o14, lh15⟩, (hs.pick [(0, 1)] rfl).dnil⟩

noncomputable def laws_markTxnS.s0 (l0 : List S_Txn) (u6 : List S_Txn) (u10 : Int) (u11 : Int) : Option (((List S_Txn) × Int × Int) ⊕ Ex ((List S_Txn) × Int) (Int × (List S_Txn))) :=
  (bif (decide (u11 < (l0.length : Int))) then (if 0 ≤ u11 ∧ u11 < (l0.length : Int) then ((laws_markOpS.f ((u6.getD u11.toNat z_Txn).Ops) u10).bind fun y41 => (some (.inl ((u6.set u11.toNat (⟨y41.2⟩ : S_Txn)), y41.1, (w64 (u11 + 1)))))) else none) else (some (.inr (.out (u6, u10)))))
noncomputable def laws_markTxnS.f (l0 : List S_Txn) (x1 : Int) : Option (Int × (List S_Txn)) :=
  ((loopO (fun s => laws_markTxnS.s0 l0 s.1 s.2.1 s.2.2) (l0, x1, 0)).bind fun o => match o with | .out (u12, u16) => (some (u16, u12)) | .ret r => (some r))
set_option maxRecDepth 100000 in
set_option maxHeartbeats 0 in
theorem laws_markTxnS_t (w0 : World) (A0_ : Option Addr) (p0_ : Nat) (l0 : List S_Txn) (k0_ : Chunk) (v0_ : Own L_impl_Txn 95 A0_ p0_ l0 k0_) (x1 : Int) (hs0 : Sat (blks [(1, k0_)]) w0 w0 [] [(1, k0_)]) (r : Int × (List S_Txn)) (H : laws_markTxnS.f l0 x1 = some r) :
    Calls Try.prog 39 #[.slice A0_ l0.length p0_, .int .i64 x1] w0 (Ret (fun v w => ∃ (k0 : Chunk), v = .int .i64 r.1 ∧ (Own L_impl_Txn 95 A0_ p0_ r.2 k0 ∧ r.2.length = l0.length) ∧ Sat (blks [(1, k0_)]) w0 w [] [(0, k0)])) := by
  have hs := hs0
  unfold laws_markTxnS.f at H
  refine enter Try.func39 rfl Try.ntmps39 rfl fun a hk => ?_
  apply wp_seq_k; intro K1 hK1
  apply wp_region_lit
  refine sa _ rfl hk rfl rfl rfl fun a hk => ?_
  show wpList _ _ _ [] _ _
  refine wpList_nil ?_
  refine hK1 _ _ ?_
  apply wp_seq_k; intro K2 hK2
  apply wp_seq_k; intro K3 hK3
  apply wp_region_lit
  refine sa _ rfl hk rfl rfl rfl fun a hk => ?_
  show wpList _ _ _ [] _ _
  refine wpList_nil ?_
  refine hK3 _ _ ?_
  obtain ⟨o17, h18, HL19⟩ := bind_some H
  clear H
  obtain ⟨R20, hR20⟩ : ∃ R : Act → World → Prop, R = fun a w => ∃ (u12 : List S_Txn) (u16 : Int) (k13 : Chunk), o17 = .out (u12, u16) ∧ Kn [(0, (.slice A0_ l0.length p0_)), (1, (.int .i64 u16))] 20 a ∧ Sat (blks [(1, k0_)]) w0 w [] [(1, k13)] ∧ Own L_impl_Txn 95 A0_ p0_ u12 k13 ∧ u12.length = l0.length := ⟨_, rfl⟩
  refine wp_cutq R20 ?_ ?_
  · refine wp_block ?_
    obtain ⟨fu22, h18⟩ := loopO_some h18
    obtain ⟨I21, hI21⟩ : ∃ I : Nat → Act → World → Prop, I = fun fu a w => ∃ (u6 : List S_Txn) (u10 : Int) (u11 : Int) (k7 : Chunk), loopN (fun s => laws_markTxnS.s0 l0 s.1 s.2.1 s.2.2) fu (u6, u10, u11) = some o17 ∧ Kn [(0, (.slice A0_ l0.length p0_)), (1, (.int .i64 u10)), (5, (.int .i64 u11))] 20 a ∧ Sat (blks [(1, k0_)]) w0 w [] [(1, k7)] ∧ Own L_impl_Txn 95 A0_ p0_ u6 k7 ∧ u6.length = l0.length := ⟨_, rfl⟩
    refine wp_loop_ghost I21 fu22 ?_ ?_
    · rw [hI21]
      exact ⟨l0, x1, 0, _, h18, (hk.c 0 rfl (hk.c 1 rfl (hk.c 5 rfl hk.k))), (hs.pick [(1, 1)] rfl), v0_, rfl⟩
    · clear h18 hk hs
      intro fu22 a w hI0
      rw [hI21] at hI0
      obtain ⟨u6, u10, u11, k7, hi, hk, hs, o8, lh9⟩ := hI0
      obtain ⟨x23, H, h24⟩ := loop_round hi
      try dsimp only at H
      unfold laws_markTxnS.s0 at H
      apply wp_seq_k; intro K25 hK25
      apply wp_seq_k; intro K26 hK26
      apply wp_region_lit
      refine sm _ rfl hk rfl rfl rfl fun a hk => ?_
      refine sm _ rfl hk rfl rfl rfl fun a hk => ?_
      refine sle rfl hk rfl rfl rfl un34 fun a hk => ?_
      refine sv (.bool (decide (u11 < (l0.length : Int)))) hk rfl rfl rfl fun a hk => ?_
      show wpList _ _ _ [] _ _
      refine wpList_nil ?_
      refine hK26 _ _ ?_
      rcases cond_some H with ⟨c27, H⟩ | ⟨c27, H⟩
      · have hk := hk.lit 9 c27 rfl
        refine cnd_true hk rfl rfl ?_
        refine wp_skip ?_
        refine hK25 _ _ ?_
        apply wp_seq_k; intro K28 hK28
        refine wp_block ?_
        apply wp_region_lit
        refine sm _ rfl hk rfl rfl rfl fun a hk => ?_
        refine sm _ rfl hk rfl rfl rfl fun a hk => ?_
        rcases ite_some H with ⟨c29, H⟩ | ⟨_, H⟩
        rotate_left
        · cases H
        obtain ⟨b30, q31, hAc29⟩ := (o8.view).some_ u11 c29.1 (by rw [lh9]; exact c29.2)
        refine si rfl hk rfl rfl rfl rfl un34 sz95 c29.1 c29.2 hAc29 fun a hk => ?_
        refine sf (padd A0_ (u11.toNat * 1 + 0)) rfl hk rfl rfl rfl fd95_0 (padd_add _ _ _) fun a hk => ?_
        obtain ⟨_, ⟨_, rfl, A33, p34, rfl, v35⟩, e32⟩ := (o8.view).at_ z_Txn u11 c29.1 (by rw [lh9]; exact c29.2)
        refine sl (v := (.slice A33 ((u6.getD u11.toNat z_Txn).Ops).length p34)) rfl hk rfl rfl rfl ag93 ((e32 0 _ rfl).cell (hs.hasG (k := 1) rfl)) fun a hk => ?_
        refine sm _ rfl hk rfl rfl rfl fun a hk => ?_
        obtain ⟨k36, k37, o38, hs, hp39⟩ := Own.elemS 3 0 z_Txn (fun ys40 => (⟨ys40⟩ : S_Txn)) hs (k := 1) rfl o8 c29.1 (by rw [lh9]; exact c29.2) (e32 0 _ rfl) (fun es d h => el_sl h)
        obtain ⟨y41, h42, H⟩ := bind_some H
        refine sc rfl en90 hk rfl rfl rfl (laws_markOpS_t _ A33 p34 ((u6.getD u11.toNat z_Txn).Ops) _ o38 u10 ((hs.hand [(1, 3)] rfl).dpick [] rfl) _ h42) ?_
        rintro _ w ⟨k43, rfl, ⟨o44, lh45⟩, hG⟩ a hk
        have hs := hs.back [(1, 3)] rfl hG [3] rfl
        obtain ⟨k46, hp47, o48⟩ := hp39 y41.2 k43 lh45 o44
        have hs := hs.putb 1 3 rfl rfl hp47
        have lh49 : (u6.set u11.toNat (⟨y41.2⟩ : S_Txn)).length = l0.length := by rw [List.length_set]; exact lh9
        refine sa _ rfl hk rfl rfl rfl fun a hk => ?_
        show wpList _ _ _ [] _ _
        refine wpList_nil ?_
        refine hK28 _ _ ?_
        apply wp_region_lit
        refine sm _ rfl hk rfl rfl rfl fun a hk => ?_
        refine sv (.int .i64 (w64 (u11 + 1))) hk rfl rfl rfl fun a hk => ?_
        refine sa _ rfl hk rfl rfl rfl fun a hk => ?_
        show wpList _ _ _ [] _ _
        refine wpList_nil ?_
        obtain rfl := Option.some.inj H
        obtain ⟨m50, hmm50, h24⟩ := h24
        show ∃ n', n' < _ ∧ I21 n' _ _
        refine ⟨m50, hmm50, ?_⟩
        rw [hI21]
        exact ⟨(u6.set u11.toNat (⟨y41.2⟩ : S_Txn)), y41.1, (w64 (u11 + 1)), _, h24, (hk.c 0 rfl (hk.c 1 rfl (hk.c 5 rfl hk.k))), (hs.pick [(1, 1)] rfl), o48, lh49⟩
      · have hk := hk.lit 9 c27 rfl
        refine cnd_false hk rfl rfl ?_
        refine wp_exit ?_
        obtain rfl := Option.some.inj H
        show R20 _ _
        rw [hR20]
        exact ⟨u6, u10, _, h24.symm, (hk.c 0 rfl (hk.c 1 rfl hk.k)), (hs.pick [(1, 1)] rfl), o8, lh9⟩
  · intro a w hR0
    rw [hR20] at hR0
    obtain ⟨u12, u16, k13, rfl, hk, hs, o14, lh15⟩ := hR0
    have H := HL19
    try dsimp only at H
    refine hK2 _ _ ?_
    apply wp_seq_k; intro K51 hK51
    apply wp_region_lit
    refine sm _ rfl hk rfl rfl rfl fun a hk => ?_
    refine sa _ rfl hk rfl rfl rfl fun a hk => ?_
    show wpList _ _ _ [] _ _
    refine wpList_nil ?_
    refine hK51 _ _ ?_
    refine wp_ret ?_
    obtain rfl := Option.some.inj H
    exact fin hk _ [(.int .i64 u16)] rfl ⟨rfl, trivial⟩ ⟨_, rfl, ⟨o14, lh15⟩, (hs.pick [(0, 1)] rfl).dnil⟩

noncomputable def laws_markIntS.s0 (l0 : List Int) (u6 : List Int) (u10 : Int) (u11 : Int) : Option (((List Int) × Int × Int) ⊕ Ex ((List Int) × Int) (Int × (List Int))) :=
  (bif (decide (u11 < (l0.length : Int))) then (if 0 ≤ u11 ∧ u11 < (l0.length : Int) then (some (.inl ((u6.set u11.toNat u10), (w64 (u10 + 1)), (w64 (u11 + 1))))) else none) else (some (.inr (.out (u6, u10)))))
noncomputable def laws_markIntS.f (l0 : List Int) (x1 : Int) : Option (Int × (List Int)) :=
  ((loopO (fun s => laws_markIntS.s0 l0 s.1 s.2.1 s.2.2) (l0, x1, 0)).bind fun o => match o with | .out (u12, u16) => (some (u16, u12)) | .ret r => (some r))
set_option maxRecDepth 100000 in
set_option maxHeartbeats 0 in
theorem laws_markIntS_t (w0 : World) (A0_ : Option Addr) (p0_ : Nat) (l0 : List Int) (k0_ : Chunk) (v0_ : Own (Lay.int .i64) 3 A0_ p0_ l0 k0_) (x1 : Int) (hs0 : Sat (blks [(1, k0_)]) w0 w0 [] [(1, k0_)]) (r : Int × (List Int)) (H : laws_markIntS.f l0 x1 = some r) :
    Calls Try.prog 40 #[.slice A0_ l0.length p0_, .int .i64 x1] w0 (Ret (fun v w => ∃ (k0 : Chunk), v = .int .i64 r.1 ∧ (Own (Lay.int .i64) 3 A0_ p0_ r.2 k0 ∧ r.2.length = l0.length) ∧ Sat (blks [(1, k0_)]) w0 w [] [(0, k0)])) := by
  have hs := hs0
  unfold laws_markIntS.f at H
  refine enter Try.func40 rfl Try.ntmps40 rfl fun a hk => ?_
  apply wp_seq_k; intro K1 hK1
  apply wp_region_lit
  refine sa _ rfl hk rfl rfl rfl fun a hk => ?_
  show wpList _ _ _ [] _ _
  refine wpList_nil ?_
  refine hK1 _ _ ?_
  apply wp_seq_k; intro K2 hK2
  apply wp_seq_k; intro K3 hK3
  apply wp_region_lit
  refine sa _ rfl hk rfl rfl rfl fun a hk => ?_
  show wpList _ _ _ [] _ _
  refine wpList_nil ?_
  refine hK3 _ _ ?_
  obtain ⟨o17, h18, HL19⟩ := bind_some H
  clear H
  obtain ⟨R20, hR20⟩ : ∃ R : Act → World → Prop, R = fun a w => ∃ (u12 : List Int) (u16 : Int) (k13 : Chunk), o17 = .out (u12, u16) ∧ Kn [(0, (.slice A0_ l0.length p0_)), (1, (.int .i64 u16))] 19 a ∧ Sat (blks [(1, k0_)]) w0 w [] [(1, k13)] ∧ Own (Lay.int .i64) 3 A0_ p0_ u12 k13 ∧ u12.length = l0.length := ⟨_, rfl⟩
  refine wp_cutq R20 ?_ ?_
  · refine wp_block ?_
    obtain ⟨fu22, h18⟩ := loopO_some h18
    obtain ⟨I21, hI21⟩ : ∃ I : Nat → Act → World → Prop, I = fun fu a w => ∃ (u6 : List Int) (u10 : Int) (u11 : Int) (k7 : Chunk), loopN (fun s => laws_markIntS.s0 l0 s.1 s.2.1 s.2.2) fu (u6, u10, u11) = some o17 ∧ Kn [(0, (.slice A0_ l0.length p0_)), (1, (.int .i64 u10)), (5, (.int .i64 u11))] 19 a ∧ Sat (blks [(1, k0_)]) w0 w [] [(1, k7)] ∧ Own (Lay.int .i64) 3 A0_ p0_ u6 k7 ∧ u6.length = l0.length := ⟨_, rfl⟩
    refine wp_loop_ghost I21 fu22 ?_ ?_
    · rw [hI21]
      exact ⟨l0, x1, 0, _, h18, (hk.c 0 rfl (hk.c 1 rfl (hk.c 5 rfl hk.k))), (hs.pick [(1, 1)] rfl), v0_, rfl⟩
    · clear h18 hk hs
      intro fu22 a w hI0
      rw [hI21] at hI0
      obtain ⟨u6, u10, u11, k7, hi, hk, hs, o8, lh9⟩ := hI0
      obtain ⟨x23, H, h24⟩ := loop_round hi
      try dsimp only at H
      unfold laws_markIntS.s0 at H
      apply wp_seq_k; intro K25 hK25
      apply wp_seq_k; intro K26 hK26
      apply wp_region_lit
      refine sm _ rfl hk rfl rfl rfl fun a hk => ?_
      refine sm _ rfl hk rfl rfl rfl fun a hk => ?_
      refine sle rfl hk rfl rfl rfl un31 fun a hk => ?_
      refine sv (.bool (decide (u11 < (l0.length : Int)))) hk rfl rfl rfl fun a hk => ?_
      show wpList _ _ _ [] _ _
      refine wpList_nil ?_
      refine hK26 _ _ ?_
      rcases cond_some H with ⟨c27, H⟩ | ⟨c27, H⟩
      · have hk := hk.lit 9 c27 rfl
        refine cnd_true hk rfl rfl ?_
        refine wp_skip ?_
        refine hK25 _ _ ?_
        apply wp_seq_k; intro K28 hK28
        refine wp_block ?_
        apply wp_seq_k; intro K29 hK29
        apply wp_region_lit
        refine sm _ rfl hk rfl rfl rfl fun a hk => ?_
        refine sm _ rfl hk rfl rfl rfl fun a hk => ?_
        refine sm _ rfl hk rfl rfl rfl fun a hk => ?_
        rcases ite_some H with ⟨c30, H⟩ | ⟨_, H⟩
        rotate_left
        · cases H
        obtain ⟨b31, q32, hAc30⟩ := (o8.view).some_ u11 c30.1 (by rw [lh9]; exact c30.2)
        refine si rfl hk rfl rfl rfl rfl un31 sz3 c30.1 c30.2 hAc30 fun a hk => ?_
        refine so (j := 0) 1 0 u10 hs rfl o8 c30.1 (by rw [lh9]; exact c30.2) rfl hk rfl rfl rfl rfl rfl sz3 (by simp [Value.cells, Value.oneCell']) (Nat.le_of_ble_eq_true rfl) (fun _ _ h => ⟨by rw [h.1]; rfl, h.2⟩) fun k33 w a hk o34 hs => ?_
        have lh35 : (u6.set u11.toNat u10).length = l0.length := by rw [List.length_set]; exact lh9
        show wpList _ _ _ [] _ _
        refine wpList_nil ?_
        refine hK29 _ _ ?_
        apply wp_region_lit
        refine sm _ rfl hk rfl rfl rfl fun a hk => ?_
        refine sv (.int .i64 (w64 (u10 + 1))) hk rfl rfl rfl fun a hk => ?_
        refine sa _ rfl hk rfl rfl rfl fun a hk => ?_
        show wpList _ _ _ [] _ _
        refine wpList_nil ?_
        refine hK28 _ _ ?_
        apply wp_region_lit
        refine sm _ rfl hk rfl rfl rfl fun a hk => ?_
        refine sv (.int .i64 (w64 (u11 + 1))) hk rfl rfl rfl fun a hk => ?_
        refine sa _ rfl hk rfl rfl rfl fun a hk => ?_
        show wpList _ _ _ [] _ _
        refine wpList_nil ?_
        obtain rfl := Option.some.inj H
        obtain ⟨m36, hmm36, h24⟩ := h24
        show ∃ n', n' < _ ∧ I21 n' _ _
        refine ⟨m36, hmm36, ?_⟩
        rw [hI21]
        exact ⟨(u6.set u11.toNat u10), (w64 (u10 + 1)), (w64 (u11 + 1)), _, h24, (hk.c 0 rfl (hk.c 1 rfl (hk.c 5 rfl hk.k))), (hs.pick [(1, 1)] rfl), o34, lh35⟩
      · have hk := hk.lit 9 c27 rfl
        refine cnd_false hk rfl rfl ?_
        refine wp_exit ?_
        obtain rfl := Option.some.inj H
        show R20 _ _
        rw [hR20]
        exact ⟨u6, u10, _, h24.symm, (hk.c 0 rfl (hk.c 1 rfl hk.k)), (hs.pick [(1, 1)] rfl), o8, lh9⟩
  · intro a w hR0
    rw [hR20] at hR0
    obtain ⟨u12, u16, k13, rfl, hk, hs, o14, lh15⟩ := hR0
    have H := HL19
    try dsimp only at H
    refine hK2 _ _ ?_
    apply wp_seq_k; intro K37 hK37
    apply wp_region_lit
    refine sm _ rfl hk rfl rfl rfl fun a hk => ?_
    refine sa _ rfl hk rfl rfl rfl fun a hk => ?_
    show wpList _ _ _ [] _ _
    refine wpList_nil ?_
    refine hK37 _ _ ?_
    refine wp_ret ?_
    obtain rfl := Option.some.inj H
    exact fin hk _ [(.int .i64 u16)] rfl ⟨rfl, trivial⟩ ⟨_, rfl, ⟨o14, lh15⟩, (hs.pick [(0, 1)] rfl).dnil⟩

noncomputable def laws_heldOpS.s0 (l0 : List S_Op) (u6 : Int) (u7 : Int) : Option ((Int × Int) ⊕ Ex (Int) (Int)) :=
  (bif (decide (u7 < (l0.length : Int))) then (if 0 ≤ u7 ∧ u7 < (l0.length : Int) then (bif (((l0.getD u7.toNat z_Op).Kind) != u6) then (some (.inr (.ret (-1)))) else (if 0 ≤ u7 ∧ u7 < (l0.length : Int) then (bif (((l0.getD u7.toNat z_Op).Key) != (w64 (u6 + 1))) then (some (.inr (.ret (-1)))) else (if 0 ≤ u7 ∧ u7 < (l0.length : Int) then (bif (((l0.getD u7.toNat z_Op).Value) != (w64 ((w64 (u6 + 1)) + 1))) then (some (.inr (.ret (-1)))) else (some (.inl ((w64 ((w64 ((w64 (u6 + 1)) + 1)) + 1)), (w64 (u7 + 1)))))) else none)) else none)) else none) else (some (.inr (.out u6))))
noncomputable def laws_heldOpS.f (l0 : List S_Op) (x1 : Int) : Option (Int) :=
  ((loopO (fun s => laws_heldOpS.s0 l0 s.1 s.2) (x1, 0)).bind fun o => match o with | .out u8 => (some u8) | .ret r => (some r))
set_option maxRecDepth 100000 in
set_option maxHeartbeats 0 in
theorem laws_heldOpS_t (w0 : World) (A0_ : Option Addr) (p0_ : Nat) (l0 : List S_Op) (k0_ : Chunk) (v0_ : View L_Op A0_ p0_ l0 k0_) (w0_ : Has w0 k0_) (x1 : Int) (r : Int) (H : laws_heldOpS.f l0 x1 = some r) :
    Calls Try.prog 91 #[.slice A0_ l0.length p0_, .int .i64 x1] w0 (Ret (fun v w => v = .int .i64 r ∧ Sat [] w0 w [] [])) := by
  have hs : Sat [] w0 w0 [(1, k0_)] [] := Sat.init w0 [(1, k0_)] [] (by simp only [List.mem_cons, List.not_mem_nil, or_false]; rintro x (rfl) <;> assumption) (by simp) List.nodup_nil (by simp [blks])
  unfold laws_heldOpS.f at H
  refine enter Try.func91 rfl Try.ntmps91 rfl fun a hk => ?_
  apply wp_seq_k; intro K1 hK1
  apply wp_region_lit
  refine sa _ rfl hk rfl rfl rfl fun a hk => ?_
  show wpList _ _ _ [] _ _
  refine wpList_nil ?_
  refine hK1 _ _ ?_
  apply wp_seq_k; intro K2 hK2
  apply wp_seq_k; intro K3 hK3
  apply wp_region_lit
  refine sa _ rfl hk rfl rfl rfl fun a hk => ?_
  show wpList _ _ _ [] _ _
  refine wpList_nil ?_
  refine hK3 _ _ ?_
  obtain ⟨o9, h10, HL11⟩ := bind_some H
  clear H
  obtain ⟨R12, hR12⟩ : ∃ R : Act → World → Prop, R = fun a w => ∃ (u8 : Int), o9 = .out u8 ∧ Kn [(1, (.int .i64 u8))] 40 a ∧ Sat [] w0 w [(1, k0_)] [] := ⟨_, rfl⟩
  refine wp_cutq R12 ?_ ?_
  · refine wp_block ?_
    obtain ⟨fu14, h10⟩ := loopO_some h10
    obtain ⟨I13, hI13⟩ : ∃ I : Nat → Act → World → Prop, I = fun fu a w => ∃ (u6 : Int) (u7 : Int), loopN (fun s => laws_heldOpS.s0 l0 s.1 s.2) fu (u6, u7) = some o9 ∧ Kn [(0, (.slice A0_ l0.length p0_)), (1, (.int .i64 u6)), (5, (.int .i64 u7))] 40 a ∧ Sat [] w0 w [(1, k0_)] [] := ⟨_, rfl⟩
    refine wp_loop_ghost I13 fu14 ?_ ?_
    · rw [hI13]
      exact ⟨x1, 0, h10, (hk.c 0 rfl (hk.c 1 rfl (hk.c 5 rfl hk.k))), (hs.pick [] rfl)⟩
    · clear h10 hk hs
      intro fu14 a w hI0
      rw [hI13] at hI0
      obtain ⟨u6, u7, hi, hk, hs⟩ := hI0
      obtain ⟨x15, H, h16⟩ := loop_round hi
      try dsimp only at H
      unfold laws_heldOpS.s0 at H
      apply wp_seq_k; intro K17 hK17
      apply wp_seq_k; intro K18 hK18
      apply wp_region_lit
      refine sm _ rfl hk rfl rfl rfl fun a hk => ?_
      refine sm _ rfl hk rfl rfl rfl fun a hk => ?_
      refine sle rfl hk rfl rfl rfl un93 fun a hk => ?_
      refine sv (.bool (decide (u7 < (l0.length : Int)))) hk rfl rfl rfl fun a hk => ?_
      show wpList _ _ _ [] _ _
      refine wpList_nil ?_
      refine hK18 _ _ ?_
      rcases cond_some H with ⟨c19, H⟩ | ⟨c19, H⟩
      · have hk := hk.lit 9 c19 rfl
        refine cnd_true hk rfl rfl ?_
        refine wp_skip ?_
        refine hK17 _ _ ?_
        apply wp_seq_k; intro K20 hK20
        refine wp_block ?_
        apply wp_seq_k; intro K21 hK21
        apply wp_seq_k; intro K22 hK22
        apply wp_region_lit
        refine sm _ rfl hk rfl rfl rfl fun a hk => ?_
        refine sm _ rfl hk rfl rfl rfl fun a hk => ?_
        rcases ite_some H with ⟨c23, H⟩ | ⟨_, H⟩
        rotate_left
        · cases H
        obtain ⟨b24, q25, hAc23⟩ := (v0_).some_ u7 c23.1 c23.2
        refine si rfl hk rfl rfl rfl rfl un93 sz135 c23.1 c23.2 hAc23 fun a hk => ?_
        refine sf (padd A0_ (u7.toNat * 3 + 0)) rfl hk rfl rfl rfl fd135_0 (padd_add _ _ _) fun a hk => ?_
        obtain ⟨_, rfl, e26⟩ := (v0_).at_ z_Op u7 c23.1 c23.2
        refine sl (v := (.int .i64 ((l0.getD u7.toNat z_Op).Kind))) rfl hk rfl rfl rfl ag3 ((e26 0 _ rfl).cell (hs.hasD (k := 1) rfl)) fun a hk => ?_
        refine sm _ rfl hk rfl rfl rfl fun a hk => ?_
        refine sv (.bool (((l0.getD u7.toNat z_Op).Kind) != u6)) hk rfl rfl rfl fun a hk => ?_
        show wpList _ _ _ [] _ _
        refine wpList_nil ?_
        refine hK22 _ _ ?_
        rcases cond_some H with ⟨c27, H⟩ | ⟨c27, H⟩
        · have hk := hk.lit 18 c27 rfl
          refine cnd_true hk rfl rfl ?_
          apply wp_seq_k; intro K28 hK28
          apply wp_region_lit
          refine sa _ rfl hk rfl rfl rfl fun a hk => ?_
          show wpList _ _ _ [] _ _
          refine wpList_nil ?_
          refine hK28 _ _ ?_
          refine wp_ret ?_
          obtain rfl := Option.some.inj H
          have ho9 := h16
          try dsimp only at ho9
          subst ho9
          have H := HL11
          try dsimp only at H
          obtain rfl := Option.some.inj H
          exact fin hk _ [(.int .i64 (-1))] rfl ⟨rfl, trivial⟩ ⟨rfl, (hs.pick [] rfl).dnil⟩
        · have hk := hk.lit 18 c27 rfl
          refine cnd_false hk rfl rfl ?_
          refine wp_skip ?_
          refine hK21 _ _ ?_
          apply wp_seq_k; intro K29 hK29
          apply wp_region_lit
          refine sm _ rfl hk rfl rfl rfl fun a hk => ?_
          refine sv (.int .i64 (w64 (u6 + 1))) hk rfl rfl rfl fun a hk => ?_
          refine sa _ rfl hk rfl rfl rfl fun a hk => ?_
          show wpList _ _ _ [] _ _
          refine wpList_nil ?_
          refine hK29 _ _ ?_
          apply wp_seq_k; intro K30 hK30
          apply wp_seq_k; intro K31 hK31
          apply wp_region_lit
          refine sm _ rfl hk rfl rfl rfl fun a hk => ?_
          refine sm _ rfl hk rfl rfl rfl fun a hk => ?_
          rcases ite_some H with ⟨c32, H⟩ | ⟨_, H⟩
          rotate_left
          · cases H
          obtain ⟨b33, q34, hAc32⟩ := (v0_).some_ u7 c32.1 c32.2
          refine si rfl hk rfl rfl rfl rfl un93 sz135 c32.1 c32.2 hAc32 fun a hk => ?_
          refine sf (padd A0_ (u7.toNat * 3 + 1)) rfl hk rfl rfl rfl fd135_1 (padd_add _ _ _) fun a hk => ?_
          obtain ⟨_, rfl, e35⟩ := (v0_).at_ z_Op u7 c32.1 c32.2
          refine sl (v := (.int .i64 ((l0.getD u7.toNat z_Op).Key))) rfl hk rfl rfl rfl ag3 ((e35 1 _ rfl).cell (hs.hasD (k := 1) rfl)) fun a hk => ?_
          refine sm _ rfl hk rfl rfl rfl fun a hk => ?_
          refine sv (.bool (((l0.getD u7.toNat z_Op).Key) != (w64 (u6 + 1)))) hk rfl rfl rfl fun a hk => ?_
          show wpList _ _ _ [] _ _
          refine wpList_nil ?_
          refine hK31 _ _ ?_
          rcases cond_some H with ⟨c36, H⟩ | ⟨c36, H⟩
          · have hk := hk.lit 27 c36 rfl
            refine cnd_true hk rfl rfl ?_
            apply wp_seq_k; intro K37 hK37
            apply wp_region_lit
            refine sa _ rfl hk rfl rfl rfl fun a hk => ?_
            show wpList _ _ _ [] _ _
            refine wpList_nil ?_
            refine hK37 _ _ ?_
            refine wp_ret ?_
            obtain rfl := Option.some.inj H
            have ho9 := h16
            try dsimp only at ho9
            subst ho9
            have H := HL11
            try dsimp only at H
            obtain rfl := Option.some.inj H
            exact fin hk _ [(.int .i64 (-1))] rfl ⟨rfl, trivial⟩ ⟨rfl, (hs.pick [] rfl).dnil⟩
          · have hk := hk.lit 27 c36 rfl
            refine cnd_false hk rfl rfl ?_
            refine wp_skip ?_
            refine hK30 _ _ ?_
            apply wp_seq_k; intro K38 hK38
            apply wp_region_lit
            refine sm _ rfl hk rfl rfl rfl fun a hk => ?_
            refine sv (.int .i64 (w64 ((w64 (u6 + 1)) + 1))) hk rfl rfl rfl fun a hk => ?_
            refine sa _ rfl hk rfl rfl rfl fun a hk => ?_
            show wpList _ _ _ [] _ _
            refine wpList_nil ?_
            refine hK38 _ _ ?_
            apply wp_seq_k; intro K39 hK39
            apply wp_seq_k; intro K40 hK40
            apply wp_region_lit
            refine sm _ rfl hk rfl rfl rfl fun a hk => ?_
            refine sm _ rfl hk rfl rfl rfl fun a hk => ?_
            rcases ite_some H with ⟨c41, H⟩ | ⟨_, H⟩
            rotate_left
            · cases H
            obtain ⟨b42, q43, hAc41⟩ := (v0_).some_ u7 c41.1 c41.2
            refine si rfl hk rfl rfl rfl rfl un93 sz135 c41.1 c41.2 hAc41 fun a hk => ?_
            refine sf (padd A0_ (u7.toNat * 3 + 2)) rfl hk rfl rfl rfl fd135_2 (padd_add _ _ _) fun a hk => ?_
            obtain ⟨_, rfl, e44⟩ := (v0_).at_ z_Op u7 c41.1 c41.2
            refine sl (v := (.int .i64 ((l0.getD u7.toNat z_Op).Value))) rfl hk rfl rfl rfl ag3 ((e44 2 _ rfl).cell (hs.hasD (k := 1) rfl)) fun a hk => ?_
            refine sm _ rfl hk rfl rfl rfl fun a hk => ?_
            refine sv (.bool (((l0.getD u7.toNat z_Op).Value) != (w64 ((w64 (u6 + 1)) + 1)))) hk rfl rfl rfl fun a hk => ?_
            show wpList _ _ _ [] _ _
            refine wpList_nil ?_
            refine hK40 _ _ ?_
            rcases cond_some H with ⟨c45, H⟩ | ⟨c45, H⟩
            · have hk := hk.lit 36 c45 rfl
              refine cnd_true hk rfl rfl ?_
              apply wp_seq_k; intro K46 hK46
              apply wp_region_lit
              refine sa _ rfl hk rfl rfl rfl fun a hk => ?_
              show wpList _ _ _ [] _ _
              refine wpList_nil ?_
              refine hK46 _ _ ?_
              refine wp_ret ?_
              obtain rfl := Option.some.inj H
              have ho9 := h16
              try dsimp only at ho9
              subst ho9
              have H := HL11
              try dsimp only at H
              obtain rfl := Option.some.inj H
              exact fin hk _ [(.int .i64 (-1))] rfl ⟨rfl, trivial⟩ ⟨rfl, (hs.pick [] rfl).dnil⟩
            · have hk := hk.lit 36 c45 rfl
              refine cnd_false hk rfl rfl ?_
              refine wp_skip ?_
              refine hK39 _ _ ?_
              apply wp_region_lit
              refine sm _ rfl hk rfl rfl rfl fun a hk => ?_
              refine sv (.int .i64 (w64 ((w64 ((w64 (u6 + 1)) + 1)) + 1))) hk rfl rfl rfl fun a hk => ?_
              refine sa _ rfl hk rfl rfl rfl fun a hk => ?_
              show wpList _ _ _ [] _ _
              refine wpList_nil ?_
              refine hK20 _ _ ?_
              apply wp_region_lit
              refine sm _ rfl hk rfl rfl rfl fun a hk => ?_
              refine sv (.int .i64 (w64 (u7 + 1))) hk rfl rfl rfl fun a hk => ?_
              refine sa _ rfl hk rfl rfl rfl fun a hk => ?_
              show wpList _ _ _ [] _ _
              refine wpList_nil ?_
              obtain rfl := Option.some.inj H
              obtain ⟨m47, hmm47, h16⟩ := h16
              show ∃ n', n' < _ ∧ I13 n' _ _
              refine ⟨m47, hmm47, ?_⟩
              rw [hI13]
              exact ⟨(w64 ((w64 ((w64 (u6 + 1)) + 1)) + 1)), (w64 (u7 + 1)), h16, (hk.c 0 rfl (hk.c 1 rfl (hk.c 5 rfl hk.k))), (hs.pick [] rfl)⟩
      · have hk := hk.lit 9 c19 rfl
        refine cnd_false hk rfl rfl ?_
        refine wp_exit ?_
        obtain rfl := Option.some.inj H
        show R12 _ _
        rw [hR12]
        exact ⟨u6, h16.symm, (hk.c 1 rfl hk.k), (hs.pick [] rfl)⟩
  · intro a w hR0
    rw [hR12] at hR0
    obtain ⟨u8, rfl, hk, hs⟩ := hR0
    have H := HL11
    try dsimp only at H
    refine hK2 _ _ ?_
    apply wp_seq_k; intro K48 hK48
    apply wp_region_lit
    refine sm _ rfl hk rfl rfl rfl fun a hk => ?_
    refine sa _ rfl hk rfl rfl rfl fun a hk => ?_
    show wpList _ _ _ [] _ _
    refine wpList_nil ?_
    refine hK48 _ _ ?_
    refine wp_ret ?_
    obtain rfl := Option.some.inj H
    exact fin hk _ [(.int .i64 u8)] rfl ⟨rfl, trivial⟩ ⟨rfl, (hs.pick [] rfl).dnil⟩

noncomputable def laws_heldTxnS.s0 (l0 : List S_Txn) (u6 : Int) (u7 : Int) : Option ((Int × Int) ⊕ Ex (Int) (Int)) :=
  (bif (decide (u7 < (l0.length : Int))) then (if 0 ≤ u7 ∧ u7 < (l0.length : Int) then ((laws_heldOpS.f ((l0.getD u7.toNat z_Txn).Ops) u6).bind fun y29 => (bif (decide (y29 < 0)) then (some (.inr (.ret (-1)))) else (some (.inl (y29, (w64 (u7 + 1))))))) else none) else (some (.inr (.out u6))))
noncomputable def laws_heldTxnS.f (l0 : List S_Txn) (x1 : Int) : Option (Int) :=
  ((loopO (fun s => laws_heldTxnS.s0 l0 s.1 s.2) (x1, 0)).bind fun o => match o with | .out u8 => (some u8) | .ret r => (some r))
set_option maxRecDepth 100000 in
set_option maxHeartbeats 0 in
theorem laws_heldTxnS_t (w0 : World) (A0_ : Option Addr) (p0_ : Nat) (l0 : List S_Txn) (k0_ : Chunk) (v0_ : View L_impl_Txn A0_ p0_ l0 k0_) (w0_ : Has w0 k0_) (x1 : Int) (r : Int) (H : laws_heldTxnS.f l0 x1 = some r) :
    Calls Try.prog 41 #[.slice A0_ l0.length p0_, .int .i64 x1] w0 (Ret (fun v w => v = .int .i64 r ∧ Sat [] w0 w [] [])) := by
  have hs : Sat [] w0 w0 [(1, k0_)] [] := Sat.init w0 [(1, k0_)] [] (by simp only [List.mem_cons, List.not_mem_nil, or_false]; rintro x (rfl) <;> assumption) (by simp) List.nodup_nil (by simp [blks])
  unfold laws_heldTxnS.f at H
  refine enter Try.func41 rfl Try.ntmps41 rfl fun a hk => ?_
  apply wp_seq_k; intro K1 hK1
  apply wp_region_lit
  refine sa _ rfl hk rfl rfl rfl fun a hk => ?_
  show wpList _ _ _ [] _ _
  refine wpList_nil ?_
  refine hK1 _ _ ?_
  apply wp_seq_k; intro K2 hK2
  apply wp_seq_k; intro K3 hK3
  apply wp_region_lit
  refine sa _ rfl hk rfl rfl rfl fun a hk => ?_
  show wpList _ _ _ [] _ _
  refine wpList_nil ?_
  refine hK3 _ _ ?_
  obtain ⟨o9, h10, HL11⟩ := bind_some H
  clear H
  obtain ⟨R12, hR12⟩ : ∃ R : Act → World → Prop, R = fun a w => ∃ (u8 : Int), o9 = .out u8 ∧ Kn [(1, (.int .i64 u8))] 22 a ∧ Sat [] w0 w [(1, k0_)] [] := ⟨_, rfl⟩
  refine wp_cutq R12 ?_ ?_
  · refine wp_block ?_
    obtain ⟨fu14, h10⟩ := loopO_some h10
    obtain ⟨I13, hI13⟩ : ∃ I : Nat → Act → World → Prop, I = fun fu a w => ∃ (u6 : Int) (u7 : Int), loopN (fun s => laws_heldTxnS.s0 l0 s.1 s.2) fu (u6, u7) = some o9 ∧ Kn [(0, (.slice A0_ l0.length p0_)), (1, (.int .i64 u6)), (5, (.int .i64 u7))] 22 a ∧ Sat [] w0 w [(1, k0_)] [] := ⟨_, rfl⟩
    refine wp_loop_ghost I13 fu14 ?_ ?_
    · rw [hI13]
      exact ⟨x1, 0, h10, (hk.c 0 rfl (hk.c 1 rfl (hk.c 5 rfl hk.k))), (hs.pick [] rfl)⟩
    · clear h10 hk hs
      intro fu14 a w hI0
      rw [hI13] at hI0
      obtain ⟨u6, u7, hi, hk, hs⟩ := hI0
      obtain ⟨x15, H, h16⟩ := loop_round hi
      try dsimp only at H
      unfold laws_heldTxnS.s0 at H
      apply wp_seq_k; intro K17 hK17
      apply wp_seq_k; intro K18 hK18
      apply wp_region_lit
      refine sm _ rfl hk rfl rfl rfl fun a hk => ?_
      refine sm _ rfl hk rfl rfl rfl fun a hk => ?_
      refine sle rfl hk rfl rfl rfl un34 fun a hk => ?_
      refine sv (.bool (decide (u7 < (l0.length : Int)))) hk rfl rfl rfl fun a hk => ?_
      show wpList _ _ _ [] _ _
      refine wpList_nil ?_
      refine hK18 _ _ ?_
      rcases cond_some H with ⟨c19, H⟩ | ⟨c19, H⟩
      · have hk := hk.lit 9 c19 rfl
        refine cnd_true hk rfl rfl ?_
        refine wp_skip ?_
        refine hK17 _ _ ?_
        apply wp_seq_k; intro K20 hK20
        refine wp_block ?_
        apply wp_seq_k; intro K21 hK21
        apply wp_region_lit
        refine sm _ rfl hk rfl rfl rfl fun a hk => ?_
        refine sm _ rfl hk rfl rfl rfl fun a hk => ?_
        rcases ite_some H with ⟨c22, H⟩ | ⟨_, H⟩
        rotate_left
        · cases H
        obtain ⟨b23, q24, hAc22⟩ := (v0_).some_ u7 c22.1 c22.2
        refine si rfl hk rfl rfl rfl rfl un34 sz95 c22.1 c22.2 hAc22 fun a hk => ?_
        refine sf (padd A0_ (u7.toNat * 1 + 0)) rfl hk rfl rfl rfl fd95_0 (padd_add _ _ _) fun a hk => ?_
        obtain ⟨_, ⟨_, rfl, A26, p27, rfl, v28⟩, e25⟩ := (v0_).at_ z_Txn u7 c22.1 c22.2
        refine sl (v := (.slice A26 ((l0.getD u7.toNat z_Txn).Ops).length p27)) rfl hk rfl rfl rfl ag93 ((e25 0 _ rfl).cell (hs.hasD (k := 1) rfl)) fun a hk => ?_
        refine sm _ rfl hk rfl rfl rfl fun a hk => ?_
        obtain ⟨y29, h30, H⟩ := bind_some H
        refine sc rfl en91 hk rfl rfl rfl (laws_heldOpS_t _ A26 p27 ((l0.getD u7.toNat z_Txn).Ops) _ v28 (hs.hasD (k := 1) rfl) u6 _ h30) ?_
        rintro _ w ⟨rfl, hG⟩ a hk
        have hs := hs.call0 hG
        refine sa _ rfl hk rfl rfl rfl fun a hk => ?_
        show wpList _ _ _ [] _ _
        refine wpList_nil ?_
        refine hK21 _ _ ?_
        apply wp_seq_k; intro K31 hK31
        apply wp_region_lit
        refine sm _ rfl hk rfl rfl rfl fun a hk => ?_
        refine sv (.bool (decide (y29 < 0))) hk rfl rfl rfl fun a hk => ?_
        show wpList _ _ _ [] _ _
        refine wpList_nil ?_
        refine hK31 _ _ ?_
        rcases cond_some H with ⟨c32, H⟩ | ⟨c32, H⟩
        · have hk := hk.lit 20 c32 rfl
          refine cnd_true hk rfl rfl ?_
          apply wp_seq_k; intro K33 hK33
          apply wp_region_lit
          refine sa _ rfl hk rfl rfl rfl fun a hk => ?_
          show wpList _ _ _ [] _ _
          refine wpList_nil ?_
          refine hK33 _ _ ?_
          refine wp_ret ?_
          obtain rfl := Option.some.inj H
          have ho9 := h16
          try dsimp only at ho9
          subst ho9
          have H := HL11
          try dsimp only at H
          obtain rfl := Option.some.inj H
          exact fin hk _ [(.int .i64 (-1))] rfl ⟨rfl, trivial⟩ ⟨rfl, (hs.pick [] rfl).dnil⟩
        · have hk := hk.lit 20 c32 rfl
          refine cnd_false hk rfl rfl ?_
          refine wp_skip ?_
          refine hK20 _ _ ?_
          apply wp_region_lit
          refine sm _ rfl hk rfl rfl rfl fun a hk => ?_
          refine sv (.int .i64 (w64 (u7 + 1))) hk rfl rfl rfl fun a hk => ?_
          refine sa _ rfl hk rfl rfl rfl fun a hk => ?_
          show wpList _ _ _ [] _ _
          refine wpList_nil ?_
          obtain rfl := Option.some.inj H
          obtain ⟨m34, hmm34, h16⟩ := h16
          show ∃ n', n' < _ ∧ I13 n' _ _
          refine ⟨m34, hmm34, ?_⟩
          rw [hI13]
          exact ⟨y29, (w64 (u7 + 1)), h16, (hk.c 0 rfl (hk.c 1 rfl (hk.c 5 rfl hk.k))), (hs.pick [] rfl)⟩
      · have hk := hk.lit 9 c19 rfl
        refine cnd_false hk rfl rfl ?_
        refine wp_exit ?_
        obtain rfl := Option.some.inj H
        show R12 _ _
        rw [hR12]
        exact ⟨u6, h16.symm, (hk.c 1 rfl hk.k), (hs.pick [] rfl)⟩
  · intro a w hR0
    rw [hR12] at hR0
    obtain ⟨u8, rfl, hk, hs⟩ := hR0
    have H := HL11
    try dsimp only at H
    refine hK2 _ _ ?_
    apply wp_seq_k; intro K35 hK35
    apply wp_region_lit
    refine sm _ rfl hk rfl rfl rfl fun a hk => ?_
    refine sa _ rfl hk rfl rfl rfl fun a hk => ?_
    show wpList _ _ _ [] _ _
    refine wpList_nil ?_
    refine hK35 _ _ ?_
    refine wp_ret ?_
    obtain rfl := Option.some.inj H
    exact fin hk _ [(.int .i64 u8)] rfl ⟨rfl, trivial⟩ ⟨rfl, (hs.pick [] rfl).dnil⟩

noncomputable def laws_heldIntS.s0 (l0 : List Int) (u6 : Int) (u7 : Int) : Option ((Int × Int) ⊕ Ex (Int) (Int)) :=
  (bif (decide (u7 < (l0.length : Int))) then (if 0 ≤ u7 ∧ u7 < (l0.length : Int) then (bif ((l0.getD u7.toNat 0) != u6) then (some (.inr (.ret (-1)))) else (some (.inl ((w64 (u6 + 1)), (w64 (u7 + 1)))))) else none) else (some (.inr (.out u6))))
noncomputable def laws_heldIntS.f (l0 : List Int) (x1 : Int) : Option (Int) :=
  ((loopO (fun s => laws_heldIntS.s0 l0 s.1 s.2) (x1, 0)).bind fun o => match o with | .out u8 => (some u8) | .ret r => (some r))
set_option maxRecDepth 100000 in
set_option maxHeartbeats 0 in
theorem laws_heldIntS_t (w0 : World) (A0_ : Option Addr) (p0_ : Nat) (l0 : List Int) (k0_ : Chunk) (v0_ : View (Lay.int .i64) A0_ p0_ l0 k0_) (w0_ : Has w0 k0_) (x1 : Int) (r : Int) (H : laws_heldIntS.f l0 x1 = some r) :
    Calls Try.prog 42 #[.slice A0_ l0.length p0_, .int .i64 x1] w0 (Ret (fun v w => v = .int .i64 r ∧ Sat [] w0 w [] [])) := by
  have hs : Sat [] w0 w0 [(1, k0_)] [] := Sat.init w0 [(1, k0_)] [] (by simp only [List.mem_cons, List.not_mem_nil, or_false]; rintro x (rfl) <;> assumption) (by simp) List.nodup_nil (by simp [blks])
  unfold laws_heldIntS.f at H
  refine enter Try.func42 rfl Try.ntmps42 rfl fun a hk => ?_
  apply wp_seq_k; intro K1 hK1
  apply wp_region_lit
  refine sa _ rfl hk rfl rfl rfl fun a hk => ?_
  show wpList _ _ _ [] _ _
  refine wpList_nil ?_
  refine hK1 _ _ ?_
  apply wp_seq_k; intro K2 hK2
  apply wp_seq_k; intro K3 hK3
  apply wp_region_lit
  refine sa _ rfl hk rfl rfl rfl fun a hk => ?_
  show wpList _ _ _ [] _ _
  refine wpList_nil ?_
  refine hK3 _ _ ?_
  obtain ⟨o9, h10, HL11⟩ := bind_some H
  clear H
  obtain ⟨R12, hR12⟩ : ∃ R : Act → World → Prop, R = fun a w => ∃ (u8 : Int), o9 = .out u8 ∧ Kn [(1, (.int .i64 u8))] 21 a ∧ Sat [] w0 w [(1, k0_)] [] := ⟨_, rfl⟩
  refine wp_cutq R12 ?_ ?_
  · refine wp_block ?_
    obtain ⟨fu14, h10⟩ := loopO_some h10
    obtain ⟨I13, hI13⟩ : ∃ I : Nat → Act → World → Prop, I = fun fu a w => ∃ (u6 : Int) (u7 : Int), loopN (fun s => laws_heldIntS.s0 l0 s.1 s.2) fu (u6, u7) = some o9 ∧ Kn [(0, (.slice A0_ l0.length p0_)), (1, (.int .i64 u6)), (5, (.int .i64 u7))] 21 a ∧ Sat [] w0 w [(1, k0_)] [] := ⟨_, rfl⟩
    refine wp_loop_ghost I13 fu14 ?_ ?_
    · rw [hI13]
      exact ⟨x1, 0, h10, (hk.c 0 rfl (hk.c 1 rfl (hk.c 5 rfl hk.k))), (hs.pick [] rfl)⟩
    · clear h10 hk hs
      intro fu14 a w hI0
      rw [hI13] at hI0
      obtain ⟨u6, u7, hi, hk, hs⟩ := hI0
      obtain ⟨x15, H, h16⟩ := loop_round hi
      try dsimp only at H
      unfold laws_heldIntS.s0 at H
      apply wp_seq_k; intro K17 hK17
      apply wp_seq_k; intro K18 hK18
      apply wp_region_lit
      refine sm _ rfl hk rfl rfl rfl fun a hk => ?_
      refine sm _ rfl hk rfl rfl rfl fun a hk => ?_
      refine sle rfl hk rfl rfl rfl un31 fun a hk => ?_
      refine sv (.bool (decide (u7 < (l0.length : Int)))) hk rfl rfl rfl fun a hk => ?_
      show wpList _ _ _ [] _ _
      refine wpList_nil ?_
      refine hK18 _ _ ?_
      rcases cond_some H with ⟨c19, H⟩ | ⟨c19, H⟩
      · have hk := hk.lit 9 c19 rfl
        refine cnd_true hk rfl rfl ?_
        refine wp_skip ?_
        refine hK17 _ _ ?_
        apply wp_seq_k; intro K20 hK20
        refine wp_block ?_
        apply wp_seq_k; intro K21 hK21
        apply wp_seq_k; intro K22 hK22
        apply wp_region_lit
        refine sm _ rfl hk rfl rfl rfl fun a hk => ?_
        refine sm _ rfl hk rfl rfl rfl fun a hk => ?_
        rcases ite_some H with ⟨c23, H⟩ | ⟨_, H⟩
        rotate_left
        · cases H
        obtain ⟨b24, q25, hAc23⟩ := (v0_).some_ u7 c23.1 c23.2
        refine si rfl hk rfl rfl rfl rfl un31 sz3 c23.1 c23.2 hAc23 fun a hk => ?_
        obtain ⟨_, rfl, e26⟩ := (v0_).at_ 0 u7 c23.1 c23.2
        refine sl (v := (.int .i64 (l0.getD u7.toNat 0))) rfl hk rfl rfl rfl ag3 ((e26 0 _ rfl).cell (hs.hasD (k := 1) rfl)) fun a hk => ?_
        refine sm _ rfl hk rfl rfl rfl fun a hk => ?_
        refine sv (.bool ((l0.getD u7.toNat 0) != u6)) hk rfl rfl rfl fun a hk => ?_
        show wpList _ _ _ [] _ _
        refine wpList_nil ?_
        refine hK22 _ _ ?_
        rcases cond_some H with ⟨c27, H⟩ | ⟨c27, H⟩
        · have hk := hk.lit 17 c27 rfl
          refine cnd_true hk rfl rfl ?_
          apply wp_seq_k; intro K28 hK28
          apply wp_region_lit
          refine sa _ rfl hk rfl rfl rfl fun a hk => ?_
          show wpList _ _ _ [] _ _
          refine wpList_nil ?_
          refine hK28 _ _ ?_
          refine wp_ret ?_
          obtain rfl := Option.some.inj H
          have ho9 := h16
          try dsimp only at ho9
          subst ho9
          have H := HL11
          try dsimp only at H
          obtain rfl := Option.some.inj H
          exact fin hk _ [(.int .i64 (-1))] rfl ⟨rfl, trivial⟩ ⟨rfl, (hs.pick [] rfl).dnil⟩
        · have hk := hk.lit 17 c27 rfl
          refine cnd_false hk rfl rfl ?_
          refine wp_skip ?_
          refine hK21 _ _ ?_
          apply wp_region_lit
          refine sm _ rfl hk rfl rfl rfl fun a hk => ?_
          refine sv (.int .i64 (w64 (u6 + 1))) hk rfl rfl rfl fun a hk => ?_
          refine sa _ rfl hk rfl rfl rfl fun a hk => ?_
          show wpList _ _ _ [] _ _
          refine wpList_nil ?_
          refine hK20 _ _ ?_
          apply wp_region_lit
          refine sm _ rfl hk rfl rfl rfl fun a hk => ?_
          refine sv (.int .i64 (w64 (u7 + 1))) hk rfl rfl rfl fun a hk => ?_
          refine sa _ rfl hk rfl rfl rfl fun a hk => ?_
          show wpList _ _ _ [] _ _
          refine wpList_nil ?_
          obtain rfl := Option.some.inj H
          obtain ⟨m29, hmm29, h16⟩ := h16
          show ∃ n', n' < _ ∧ I13 n' _ _
          refine ⟨m29, hmm29, ?_⟩
          rw [hI13]
          exact ⟨(w64 (u6 + 1)), (w64 (u7 + 1)), h16, (hk.c 0 rfl (hk.c 1 rfl (hk.c 5 rfl hk.k))), (hs.pick [] rfl)⟩
      · have hk := hk.lit 9 c19 rfl
        refine cnd_false hk rfl rfl ?_
        refine wp_exit ?_
        obtain rfl := Option.some.inj H
        show R12 _ _
        rw [hR12]
        exact ⟨u6, h16.symm, (hk.c 1 rfl hk.k), (hs.pick [] rfl)⟩
  · intro a w hR0
    rw [hR12] at hR0
    obtain ⟨u8, rfl, hk, hs⟩ := hR0
    have H := HL11
    try dsimp only at H
    refine hK2 _ _ ?_
    apply wp_seq_k; intro K30 hK30
    apply wp_region_lit
    refine sm _ rfl hk rfl rfl rfl fun a hk => ?_
    refine sa _ rfl hk rfl rfl rfl fun a hk => ?_
    show wpList _ _ _ [] _ _
    refine wpList_nil ?_
    refine hK30 _ _ ?_
    refine wp_ret ?_
    obtain rfl := Option.some.inj H
    exact fin hk _ [(.int .i64 u8)] rfl ⟨rfl, trivial⟩ ⟨rfl, (hs.pick [] rfl).dnil⟩

noncomputable def laws_FnExactReadEntry.f (x0 : ByteArray) : Option (Bool) :=
  (bif (decide ((x0.size : Int) > 1048576)) then (some true) else ((spec_ReadEntry.f x0).bind fun y7 => ((impl_ReadEntry.f x0).bind fun y18 => ((((laws_eqTxnS.f y18.1 y7.1).bind fun y36 => (bif (!y36) then (some true) else ((laws_eqIntS.f y18.2.1 y7.2.1).bind fun y39 => (bif (!y39) then (some true) else (some (y18.2.2 != y7.2.2)))))) : Option (Bool)).bind fun u31 => (bif u31 then (some false) else ((laws_markTxnS.f y18.1 1).bind fun y46 => ((laws_markIntS.f y18.2.1 y46.1).bind fun y53 => ((laws_heldTxnS.f y46.2 1).bind fun y61 => (bif (decide (y61 < 0)) then (some false) else ((laws_heldIntS.f y53.2 y61).bind fun y68 => (bif (decide (y68 < 0)) then (some false) else (bif (y68 != y53.1) then (some false) else ((impl_ReadEntry.f x0).bind fun y79 => ((((laws_eqTxnS.f y79.1 y7.1).bind fun y97 => (bif (!y97) then (some true) else ((laws_eqIntS.f y79.2.1 y7.2.1).bind fun y100 => (bif (!y100) then (some true) else (some (y79.2.2 != y7.2.2)))))) : Option (Bool)).bind fun u92 => (bif u92 then (some false) else ((laws_heldTxnS.f y46.2 1).bind fun y107 => (bif (decide (y107 < 0)) then (some false) else ((laws_heldIntS.f y53.2 y107).bind fun y114 => (bif (decide (y114 < 0)) then (some false) else (bif (y114 != y53.1) then (some false) else (some true)))))))))))))))))))))
set_option maxRecDepth 100000 in
set_option maxHeartbeats 0 in
theorem laws_FnExactReadEntry_t (w0 : World) (x0 : ByteArray) (r : Bool) (H : laws_FnExactReadEntry.f x0 = some r) :
    Calls Try.prog 8 #[.string x0] w0 (Ret (fun v w => v = .bool r ∧ Sat [] w0 w [] [])) := by
  have hs : Sat [] w0 w0 [] [] := Sat.init w0 [] [] (by simp) (by simp) List.nodup_nil (by simp [blks])
  unfold laws_FnExactReadEntry.f at H
  refine enter Try.func8 rfl Try.ntmps8 rfl fun a hk => ?_
  apply wp_seq_k; intro K1 hK1
  apply wp_region_lit
  refine sa _ rfl hk rfl rfl rfl fun a hk => ?_
  show wpList _ _ _ [] _ _
  refine wpList_nil ?_
  refine hK1 _ _ ?_
  apply wp_seq_k; intro K2 hK2
  apply wp_seq_k; intro K3 hK3
  apply wp_region_lit
  refine sm _ rfl hk rfl rfl rfl fun a hk => ?_
  refine sles rfl hk rfl rfl rfl un9 fun a hk => ?_
  refine sv (.bool (decide ((x0.size : Int) > 1048576))) hk rfl rfl rfl fun a hk => ?_
  show wpList _ _ _ [] _ _
  refine wpList_nil ?_
  refine hK3 _ _ ?_
  rcases cond_some H with ⟨c4, H⟩ | ⟨c4, H⟩
  · have hk := hk.lit 16 c4 rfl
    refine cnd_true hk rfl rfl ?_
    apply wp_seq_k; intro K5 hK5
    apply wp_region_lit
    refine sa _ rfl hk rfl rfl rfl fun a hk => ?_
    show wpList _ _ _ [] _ _
    refine wpList_nil ?_
    refine hK5 _ _ ?_
    refine wp_ret ?_
    obtain rfl := Option.some.inj H
    exact fin hk _ [(.bool true)] rfl ⟨rfl, trivial⟩ ⟨rfl, (hs.pick [] rfl).dnil⟩
  · have hk := hk.lit 16 c4 rfl
    refine cnd_false hk rfl rfl ?_
    refine wp_skip ?_
    refine hK2 _ _ ?_
    apply wp_seq_k; intro K6 hK6
    apply wp_region_lit
    refine sm _ rfl hk rfl rfl rfl fun a hk => ?_
    obtain ⟨y7, h8, H⟩ := bind_some H
    refine sc rfl en37 hk rfl rfl rfl (spec_ReadEntry_t _ x0 _ h8) ?_
    rintro _ w ⟨A9, p10, k11, A13, p14, k15, rfl, o12, o16, hG⟩ a hk
    have hs := hs.call0k hG [1, 2] rfl
    refine sm _ rfl hk rfl rfl rfl fun a hk => ?_
    refine sv (.slice A9 y7.1.length p10) hk rfl rfl rfl fun a hk => ?_
    refine sv (.slice A13 y7.2.1.length p14) hk rfl rfl rfl fun a hk => ?_
    refine sv (.int .i64 y7.2.2) hk rfl rfl rfl fun a hk => ?_
    refine sa _ rfl hk rfl rfl rfl fun a hk => ?_
    refine sa _ rfl hk rfl rfl rfl fun a hk => ?_
    refine sa _ rfl hk rfl rfl rfl fun a hk => ?_
    show wpList _ _ _ [] _ _
    refine wpList_nil ?_
    refine hK6 _ _ ?_
    apply wp_seq_k; intro K17 hK17
    apply wp_region_lit
    refine sm _ rfl hk rfl rfl rfl fun a hk => ?_
    obtain ⟨y18, h19, H⟩ := bind_some H
    refine sc rfl en38 hk rfl rfl rfl (impl_ReadEntry_t _ x0 _ h19) ?_
    rintro _ w ⟨A20, p21, k22, A24, p25, k26, rfl, o23, o27, hG⟩ a hk
    have hs := hs.call0k hG [3, 4] rfl
    refine sm _ rfl hk rfl rfl rfl fun a hk => ?_
    refine sv (.slice A20 y18.1.length p21) hk rfl rfl rfl fun a hk => ?_
    refine sv (.slice A24 y18.2.1.length p25) hk rfl rfl rfl fun a hk => ?_
    refine sv (.int .i64 y18.2.2) hk rfl rfl rfl fun a hk => ?_
    refine sa _ rfl hk rfl rfl rfl fun a hk => ?_
    refine sa _ rfl hk rfl rfl rfl fun a hk => ?_
    refine sa _ rfl hk rfl rfl rfl fun a hk => ?_
    show wpList _ _ _ [] _ _
    refine wpList_nil ?_
    refine hK17 _ _ ?_
    apply wp_seq_k; intro K28 hK28
    apply wp_seq_k; intro K29 hK29
    obtain ⟨o32, h33, HL34⟩ := bind_some H
    clear H
    obtain ⟨R35, hR35⟩ : ∃ R : Act → World → Prop, R = fun a w => ∃ (u31 : Bool), u31 = o32 ∧ Kn [(0, (.string x0)), (3, (.slice A9 y7.1.length p10)), (4, (.slice A13 y7.2.1.length p14)), (5, (.int .i64 y7.2.2)), (6, (.slice A20 y18.1.length p21)), (7, (.slice A24 y18.2.1.length p25)), (43, (.bool u31))] 97 a ∧ Sat [] w0 w [] [(1, k11), (2, k15), (3, k22), (4, k26)] := ⟨_, rfl⟩
    refine wp_cutq R35 ?_ ?_
    · have H := h33
      apply wp_region_lit
      refine sm _ rfl hk rfl rfl rfl fun a hk => ?_
      refine sm _ rfl hk rfl rfl rfl fun a hk => ?_
      obtain ⟨y36, h37, H⟩ := bind_some H
      refine sc rfl en21 hk rfl rfl rfl (laws_eqTxnS_t _ A20 p21 y18.1 _ o23.view (hs.hasG (k := 3) rfl) A9 p10 y7.1 _ o12.view (hs.hasG (k := 1) rfl) _ h37) ?_
      rintro _ w ⟨rfl, hG⟩ a hk
      have hs := hs.call0 hG
      refine sv (.bool (!y36)) hk rfl rfl rfl fun a hk => ?_
      refine sm _ rfl hk rfl rfl rfl fun a hk => ?_
      rcases cond_some H with ⟨c38, H⟩ | ⟨c38, H⟩
      · have hk := hk.lit 33 c38 rfl
        refine sk hk rfl rfl rfl fun a hk => ?_
        refine sk hk rfl rfl rfl fun a hk => ?_
        refine sk hk rfl rfl rfl fun a hk => ?_
        refine sk hk rfl rfl rfl fun a hk => ?_
        refine sv (.bool true) hk rfl rfl rfl fun a hk => ?_
        refine sm _ rfl hk rfl rfl rfl fun a hk => ?_
        refine sk hk rfl rfl rfl fun a hk => ?_
        refine sk hk rfl rfl rfl fun a hk => ?_
        refine sk hk rfl rfl rfl fun a hk => ?_
        refine sv (.bool true) hk rfl rfl rfl fun a hk => ?_
        show wpList _ _ _ [] _ _
        refine wpList_nil ?_
        obtain rfl := Option.some.inj H
        show R35 _ _
        rw [hR35]
        exact ⟨true, rfl, (hk.c 0 rfl (hk.c 3 rfl (hk.c 4 rfl (hk.c 5 rfl (hk.c 6 rfl (hk.c 7 rfl (hk.c 43 rfl hk.k))))))), (hs.pick [(1, 1), (2, 2), (3, 3), (4, 4)] rfl)⟩
      · have hk := hk.lit 33 c38 rfl
        refine sm _ rfl hk rfl rfl rfl fun a hk => ?_
        refine sm _ rfl hk rfl rfl rfl fun a hk => ?_
        obtain ⟨y39, h40, H⟩ := bind_some H
        refine sc rfl en22 hk rfl rfl rfl (laws_eqIntS_t _ A24 p25 y18.2.1 _ o27.view (hs.hasG (k := 4) rfl) A13 p14 y7.2.1 _ o16.view (hs.hasG (k := 2) rfl) _ h40) ?_
        rintro _ w ⟨rfl, hG⟩ a hk
        have hs := hs.call0 hG
        refine sv (.bool (!y39)) hk rfl rfl rfl fun a hk => ?_
        refine sv (.bool (!y39)) hk rfl rfl rfl fun a hk => ?_
        refine sm _ rfl hk rfl rfl rfl fun a hk => ?_
        rcases cond_some H with ⟨c41, H⟩ | ⟨c41, H⟩
        · have hk := hk.lit 39 c41 rfl
          refine sk hk rfl rfl rfl fun a hk => ?_
          refine sk hk rfl rfl rfl fun a hk => ?_
          refine sk hk rfl rfl rfl fun a hk => ?_
          refine sv (.bool true) hk rfl rfl rfl fun a hk => ?_
          show wpList _ _ _ [] _ _
          refine wpList_nil ?_
          obtain rfl := Option.some.inj H
          show R35 _ _
          rw [hR35]
          exact ⟨true, rfl, (hk.c 0 rfl (hk.c 3 rfl (hk.c 4 rfl (hk.c 5 rfl (hk.c 6 rfl (hk.c 7 rfl (hk.c 43 rfl hk.k))))))), (hs.pick [(1, 1), (2, 2), (3, 3), (4, 4)] rfl)⟩
        · have hk := hk.lit 39 c41 rfl
          refine sm _ rfl hk rfl rfl rfl fun a hk => ?_
          refine sm _ rfl hk rfl rfl rfl fun a hk => ?_
          refine sv (.bool (y18.2.2 != y7.2.2)) hk rfl rfl rfl fun a hk => ?_
          refine sv (.bool (y18.2.2 != y7.2.2)) hk rfl rfl rfl fun a hk => ?_
          show wpList _ _ _ [] _ _
          refine wpList_nil ?_
          obtain rfl := Option.some.inj H
          show R35 _ _
          rw [hR35]
          exact ⟨(y18.2.2 != y7.2.2), rfl, (hk.c 0 rfl (hk.c 3 rfl (hk.c 4 rfl (hk.c 5 rfl (hk.c 6 rfl (hk.c 7 rfl (hk.c 43 rfl hk.k))))))), (hs.pick [(1, 1), (2, 2), (3, 3), (4, 4)] rfl)⟩
    · intro a w hR0
      rw [hR35] at hR0
      obtain ⟨u31, rfl, hk, hs⟩ := hR0
      have H := HL34
      try dsimp only at H
      refine hK29 _ _ ?_
      rcases cond_some H with ⟨c42, H⟩ | ⟨c42, H⟩
      · have hk := hk.lit 43 c42 rfl
        refine cnd_true hk rfl rfl ?_
        apply wp_seq_k; intro K43 hK43
        apply wp_region_lit
        refine sa _ rfl hk rfl rfl rfl fun a hk => ?_
        show wpList _ _ _ [] _ _
        refine wpList_nil ?_
        refine hK43 _ _ ?_
        refine wp_ret ?_
        obtain rfl := Option.some.inj H
        exact fin hk _ [(.bool false)] rfl ⟨rfl, trivial⟩ ⟨rfl, (hs.pick [] rfl).dnil⟩
      · have hk := hk.lit 43 c42 rfl
        refine cnd_false hk rfl rfl ?_
        refine wp_skip ?_
        refine hK28 _ _ ?_
        apply wp_seq_k; intro K44 hK44
        apply wp_region_lit
        refine sa _ rfl hk rfl rfl rfl fun a hk => ?_
        show wpList _ _ _ [] _ _
        refine wpList_nil ?_
        refine hK44 _ _ ?_
        apply wp_seq_k; intro K45 hK45
        apply wp_region_lit
        refine sm _ rfl hk rfl rfl rfl fun a hk => ?_
        refine sm _ rfl hk rfl rfl rfl fun a hk => ?_
        obtain ⟨y46, h47, H⟩ := bind_some H
        refine sc rfl en39 hk rfl rfl rfl (laws_markTxnS_t _ A20 p21 y18.1 _ o23 1 ((hs.hand [(1, 3)] rfl).dpick [] rfl) _ h47) ?_
        rintro _ w ⟨k48, rfl, ⟨o49, lh50⟩, hG⟩ a hk
        have hs := hs.back [(1, 3)] rfl hG [3] rfl
        have lh51 : y46.2.length = y18.1.length := lh50
        refine sa _ rfl hk rfl rfl rfl fun a hk => ?_
        show wpList _ _ _ [] _ _
        refine wpList_nil ?_
        refine hK45 _ _ ?_
        apply wp_seq_k; intro K52 hK52
        apply wp_region_lit
        refine sm _ rfl hk rfl rfl rfl fun a hk => ?_
        refine sm _ rfl hk rfl rfl rfl fun a hk => ?_
        obtain ⟨y53, h54, H⟩ := bind_some H
        refine sc rfl en40 hk rfl rfl rfl (laws_markIntS_t _ A24 p25 y18.2.1 _ o27 y46.1 ((hs.hand [(1, 4)] rfl).dpick [] rfl) _ h54) ?_
        rintro _ w ⟨k55, rfl, ⟨o56, lh57⟩, hG⟩ a hk
        have hs := hs.back [(1, 4)] rfl hG [4] rfl
        have lh58 : y53.2.length = y18.2.1.length := lh57
        refine sa _ rfl hk rfl rfl rfl fun a hk => ?_
        show wpList _ _ _ [] _ _
        refine wpList_nil ?_
        refine hK52 _ _ ?_
        apply wp_seq_k; intro K59 hK59
        apply wp_region_lit
        refine sa _ rfl hk rfl rfl rfl fun a hk => ?_
        show wpList _ _ _ [] _ _
        refine wpList_nil ?_
        refine hK59 _ _ ?_
        apply wp_seq_k; intro K60 hK60
        apply wp_region_lit
        refine sm _ rfl hk rfl rfl rfl fun a hk => ?_
        refine sm _ rfl hk rfl rfl rfl fun a hk => ?_
        have hk := hk.re 50 (v' := (.slice A20 y46.2.length p21)) rfl (by rw [lh51])
        obtain ⟨y61, h62, H⟩ := bind_some H
        refine sc rfl en41 hk rfl rfl rfl (laws_heldTxnS_t _ A20 p21 y46.2 _ o49.view (hs.hasG (k := 3) rfl) 1 _ h62) ?_
        rintro _ w ⟨rfl, hG⟩ a hk
        have hs := hs.call0 hG
        refine sa _ rfl hk rfl rfl rfl fun a hk => ?_
        show wpList _ _ _ [] _ _
        refine wpList_nil ?_
        refine hK60 _ _ ?_
        apply wp_seq_k; intro K63 hK63
        apply wp_seq_k; intro K64 hK64
        apply wp_region_lit
        refine sm _ rfl hk rfl rfl rfl fun a hk => ?_
        refine sv (.bool (decide (y61 < 0))) hk rfl rfl rfl fun a hk => ?_
        show wpList _ _ _ [] _ _
        refine wpList_nil ?_
        refine hK64 _ _ ?_
        rcases cond_some H with ⟨c65, H⟩ | ⟨c65, H⟩
        · have hk := hk.lit 54 c65 rfl
          refine cnd_true hk rfl rfl ?_
          apply wp_seq_k; intro K66 hK66
          apply wp_region_lit
          refine sa _ rfl hk rfl rfl rfl fun a hk => ?_
          show wpList _ _ _ [] _ _
          refine wpList_nil ?_
          refine hK66 _ _ ?_
          refine wp_ret ?_
          obtain rfl := Option.some.inj H
          exact fin hk _ [(.bool false)] rfl ⟨rfl, trivial⟩ ⟨rfl, (hs.pick [] rfl).dnil⟩
        · have hk := hk.lit 54 c65 rfl
          refine cnd_false hk rfl rfl ?_
          refine wp_skip ?_
          refine hK63 _ _ ?_
          apply wp_seq_k; intro K67 hK67
          apply wp_region_lit
          refine sm _ rfl hk rfl rfl rfl fun a hk => ?_
          refine sm _ rfl hk rfl rfl rfl fun a hk => ?_
          have hk := hk.re 55 (v' := (.slice A24 y53.2.length p25)) rfl (by rw [lh58])
          obtain ⟨y68, h69, H⟩ := bind_some H
          refine sc rfl en42 hk rfl rfl rfl (laws_heldIntS_t _ A24 p25 y53.2 _ o56.view (hs.hasG (k := 4) rfl) y61 _ h69) ?_
          rintro _ w ⟨rfl, hG⟩ a hk
          have hs := hs.call0 hG
          refine sa _ rfl hk rfl rfl rfl fun a hk => ?_
          show wpList _ _ _ [] _ _
          refine wpList_nil ?_
          refine hK67 _ _ ?_
          apply wp_seq_k; intro K70 hK70
          apply wp_seq_k; intro K71 hK71
          apply wp_region_lit
          refine sm _ rfl hk rfl rfl rfl fun a hk => ?_
          refine sv (.bool (decide (y68 < 0))) hk rfl rfl rfl fun a hk => ?_
          show wpList _ _ _ [] _ _
          refine wpList_nil ?_
          refine hK71 _ _ ?_
          rcases cond_some H with ⟨c72, H⟩ | ⟨c72, H⟩
          · have hk := hk.lit 59 c72 rfl
            refine cnd_true hk rfl rfl ?_
            apply wp_seq_k; intro K73 hK73
            apply wp_region_lit
            refine sa _ rfl hk rfl rfl rfl fun a hk => ?_
            show wpList _ _ _ [] _ _
            refine wpList_nil ?_
            refine hK73 _ _ ?_
            refine wp_ret ?_
            obtain rfl := Option.some.inj H
            exact fin hk _ [(.bool false)] rfl ⟨rfl, trivial⟩ ⟨rfl, (hs.pick [] rfl).dnil⟩
          · have hk := hk.lit 59 c72 rfl
            refine cnd_false hk rfl rfl ?_
            refine wp_skip ?_
            refine hK70 _ _ ?_
            apply wp_seq_k; intro K74 hK74
            apply wp_seq_k; intro K75 hK75
            apply wp_region_lit
            refine sm _ rfl hk rfl rfl rfl fun a hk => ?_
            refine sm _ rfl hk rfl rfl rfl fun a hk => ?_
            refine sv (.bool (y68 != y53.1)) hk rfl rfl rfl fun a hk => ?_
            show wpList _ _ _ [] _ _
            refine wpList_nil ?_
            refine hK75 _ _ ?_
            rcases cond_some H with ⟨c76, H⟩ | ⟨c76, H⟩
            · have hk := hk.lit 62 c76 rfl
              refine cnd_true hk rfl rfl ?_
              apply wp_seq_k; intro K77 hK77
              apply wp_region_lit
              refine sa _ rfl hk rfl rfl rfl fun a hk => ?_
              show wpList _ _ _ [] _ _
              refine wpList_nil ?_
              refine hK77 _ _ ?_
              refine wp_ret ?_
              obtain rfl := Option.some.inj H
              exact fin hk _ [(.bool false)] rfl ⟨rfl, trivial⟩ ⟨rfl, (hs.pick [] rfl).dnil⟩
            · have hk := hk.lit 62 c76 rfl
              refine cnd_false hk rfl rfl ?_
              refine wp_skip ?_
              refine hK74 _ _ ?_
              apply wp_seq_k; intro K78 hK78
              apply wp_region_lit
              refine sm _ rfl hk rfl rfl rfl fun a hk => ?_
              obtain ⟨y79, h80, H⟩ := bind_some H
              refine sc rfl en38 hk rfl rfl rfl (impl_ReadEntry_t _ x0 _ h80) ?_
              rintro _ w ⟨A81, p82, k83, A85, p86, k87, rfl, o84, o88, hG⟩ a hk
              have hs := hs.call0k hG [6, 7] rfl
              refine sm _ rfl hk rfl rfl rfl fun a hk => ?_
              refine sv (.slice A81 y79.1.length p82) hk rfl rfl rfl fun a hk => ?_
              refine sv (.slice A85 y79.2.1.length p86) hk rfl rfl rfl fun a hk => ?_
              refine sv (.int .i64 y79.2.2) hk rfl rfl rfl fun a hk => ?_
              refine sa _ rfl hk rfl rfl rfl fun a hk => ?_
              refine sa _ rfl hk rfl rfl rfl fun a hk => ?_
              refine sa _ rfl hk rfl rfl rfl fun a hk => ?_
              show wpList _ _ _ [] _ _
              refine wpList_nil ?_
              refine hK78 _ _ ?_
              apply wp_seq_k; intro K89 hK89
              apply wp_seq_k; intro K90 hK90
              obtain ⟨o93, h94, HL95⟩ := bind_some H
              clear H
              obtain ⟨R96, hR96⟩ : ∃ R : Act → World → Prop, R = fun a w => ∃ (u92 : Bool), u92 = o93 ∧ Kn [(6, (.slice A20 y18.1.length p21)), (7, (.slice A24 y18.2.1.length p25)), (9, (.int .i64 y53.1)), (83, (.bool u92))] 97 a ∧ Sat [] w0 w [] [(3, k48), (4, k55)] := ⟨_, rfl⟩
              refine wp_cutq R96 ?_ ?_
              · have H := h94
                apply wp_region_lit
                refine sm _ rfl hk rfl rfl rfl fun a hk => ?_
                refine sm _ rfl hk rfl rfl rfl fun a hk => ?_
                obtain ⟨y97, h98, H⟩ := bind_some H
                refine sc rfl en21 hk rfl rfl rfl (laws_eqTxnS_t _ A81 p82 y79.1 _ o84.view (hs.hasG (k := 6) rfl) A9 p10 y7.1 _ o12.view (hs.hasG (k := 1) rfl) _ h98) ?_
                rintro _ w ⟨rfl, hG⟩ a hk
                have hs := hs.call0 hG
                refine sv (.bool (!y97)) hk rfl rfl rfl fun a hk => ?_
                refine sm _ rfl hk rfl rfl rfl fun a hk => ?_
                rcases cond_some H with ⟨c99, H⟩ | ⟨c99, H⟩
                · have hk := hk.lit 73 c99 rfl
                  refine sk hk rfl rfl rfl fun a hk => ?_
                  refine sk hk rfl rfl rfl fun a hk => ?_
                  refine sk hk rfl rfl rfl fun a hk => ?_
                  refine sk hk rfl rfl rfl fun a hk => ?_
                  refine sv (.bool true) hk rfl rfl rfl fun a hk => ?_
                  refine sm _ rfl hk rfl rfl rfl fun a hk => ?_
                  refine sk hk rfl rfl rfl fun a hk => ?_
                  refine sk hk rfl rfl rfl fun a hk => ?_
                  refine sk hk rfl rfl rfl fun a hk => ?_
                  refine sv (.bool true) hk rfl rfl rfl fun a hk => ?_
                  show wpList _ _ _ [] _ _
                  refine wpList_nil ?_
                  obtain rfl := Option.some.inj H
                  show R96 _ _
                  rw [hR96]
                  exact ⟨true, rfl, (hk.c 6 rfl (hk.c 7 rfl (hk.c 9 rfl (hk.c 83 rfl hk.k)))), (hs.pick [(3, 3), (4, 4)] rfl)⟩
                · have hk := hk.lit 73 c99 rfl
                  refine sm _ rfl hk rfl rfl rfl fun a hk => ?_
                  refine sm _ rfl hk rfl rfl rfl fun a hk => ?_
                  obtain ⟨y100, h101, H⟩ := bind_some H
                  refine sc rfl en22 hk rfl rfl rfl (laws_eqIntS_t _ A85 p86 y79.2.1 _ o88.view (hs.hasG (k := 7) rfl) A13 p14 y7.2.1 _ o16.view (hs.hasG (k := 2) rfl) _ h101) ?_
                  rintro _ w ⟨rfl, hG⟩ a hk
                  have hs := hs.call0 hG
                  refine sv (.bool (!y100)) hk rfl rfl rfl fun a hk => ?_
                  refine sv (.bool (!y100)) hk rfl rfl rfl fun a hk => ?_
                  refine sm _ rfl hk rfl rfl rfl fun a hk => ?_
                  rcases cond_some H with ⟨c102, H⟩ | ⟨c102, H⟩
                  · have hk := hk.lit 79 c102 rfl
                    refine sk hk rfl rfl rfl fun a hk => ?_
                    refine sk hk rfl rfl rfl fun a hk => ?_
                    refine sk hk rfl rfl rfl fun a hk => ?_
                    refine sv (.bool true) hk rfl rfl rfl fun a hk => ?_
                    show wpList _ _ _ [] _ _
                    refine wpList_nil ?_
                    obtain rfl := Option.some.inj H
                    show R96 _ _
                    rw [hR96]
                    exact ⟨true, rfl, (hk.c 6 rfl (hk.c 7 rfl (hk.c 9 rfl (hk.c 83 rfl hk.k)))), (hs.pick [(3, 3), (4, 4)] rfl)⟩
                  · have hk := hk.lit 79 c102 rfl
                    refine sm _ rfl hk rfl rfl rfl fun a hk => ?_
                    refine sm _ rfl hk rfl rfl rfl fun a hk => ?_
                    refine sv (.bool (y79.2.2 != y7.2.2)) hk rfl rfl rfl fun a hk => ?_
                    refine sv (.bool (y79.2.2 != y7.2.2)) hk rfl rfl rfl fun a hk => ?_
                    show wpList _ _ _ [] _ _
                    refine wpList_nil ?_
                    obtain rfl := Option.some.inj H
                    show R96 _ _
                    rw [hR96]
                    exact ⟨(y79.2.2 != y7.2.2), rfl, (hk.c 6 rfl (hk.c 7 rfl (hk.c 9 rfl (hk.c 83 rfl hk.k)))), (hs.pick [(3, 3), (4, 4)] rfl)⟩
              · intro a w hR0
                rw [hR96] at hR0
                obtain ⟨u92, rfl, hk, hs⟩ := hR0
                have H := HL95
                try dsimp only at H
                refine hK90 _ _ ?_
                rcases cond_some H with ⟨c103, H⟩ | ⟨c103, H⟩
                · have hk := hk.lit 83 c103 rfl
                  refine cnd_true hk rfl rfl ?_
                  apply wp_seq_k; intro K104 hK104
                  apply wp_region_lit
                  refine sa _ rfl hk rfl rfl rfl fun a hk => ?_
                  show wpList _ _ _ [] _ _
                  refine wpList_nil ?_
                  refine hK104 _ _ ?_
                  refine wp_ret ?_
                  obtain rfl := Option.some.inj H
                  exact fin hk _ [(.bool false)] rfl ⟨rfl, trivial⟩ ⟨rfl, (hs.pick [] rfl).dnil⟩
                · have hk := hk.lit 83 c103 rfl
                  refine cnd_false hk rfl rfl ?_
                  refine wp_skip ?_
                  refine hK89 _ _ ?_
                  apply wp_seq_k; intro K105 hK105
                  apply wp_region_lit
                  refine sa _ rfl hk rfl rfl rfl fun a hk => ?_
                  show wpList _ _ _ [] _ _
                  refine wpList_nil ?_
                  refine hK105 _ _ ?_
                  apply wp_seq_k; intro K106 hK106
                  apply wp_region_lit
                  refine sm _ rfl hk rfl rfl rfl fun a hk => ?_
                  refine sm _ rfl hk rfl rfl rfl fun a hk => ?_
                  have hk := hk.re 84 (v' := (.slice A20 y46.2.length p21)) rfl (by rw [lh51])
                  obtain ⟨y107, h108, H⟩ := bind_some H
                  refine sc rfl en41 hk rfl rfl rfl (laws_heldTxnS_t _ A20 p21 y46.2 _ o49.view (hs.hasG (k := 3) rfl) 1 _ h108) ?_
                  rintro _ w ⟨rfl, hG⟩ a hk
                  have hs := hs.call0 hG
                  refine sa _ rfl hk rfl rfl rfl fun a hk => ?_
                  show wpList _ _ _ [] _ _
                  refine wpList_nil ?_
                  refine hK106 _ _ ?_
                  apply wp_seq_k; intro K109 hK109
                  apply wp_seq_k; intro K110 hK110
                  apply wp_region_lit
                  refine sm _ rfl hk rfl rfl rfl fun a hk => ?_
                  refine sv (.bool (decide (y107 < 0))) hk rfl rfl rfl fun a hk => ?_
                  show wpList _ _ _ [] _ _
                  refine wpList_nil ?_
                  refine hK110 _ _ ?_
                  rcases cond_some H with ⟨c111, H⟩ | ⟨c111, H⟩
                  · have hk := hk.lit 88 c111 rfl
                    refine cnd_true hk rfl rfl ?_
                    apply wp_seq_k; intro K112 hK112
                    apply wp_region_lit
                    refine sa _ rfl hk rfl rfl rfl fun a hk => ?_
                    show wpList _ _ _ [] _ _
                    refine wpList_nil ?_
                    refine hK112 _ _ ?_
                    refine wp_ret ?_
                    obtain rfl := Option.some.inj H
                    exact fin hk _ [(.bool false)] rfl ⟨rfl, trivial⟩ ⟨rfl, (hs.pick [] rfl).dnil⟩
                  · have hk := hk.lit 88 c111 rfl
                    refine cnd_false hk rfl rfl ?_
                    refine wp_skip ?_
                    refine hK109 _ _ ?_
                    apply wp_seq_k; intro K113 hK113
                    apply wp_region_lit
                    refine sm _ rfl hk rfl rfl rfl fun a hk => ?_
                    refine sm _ rfl hk rfl rfl rfl fun a hk => ?_
                    have hk := hk.re 89 (v' := (.slice A24 y53.2.length p25)) rfl (by rw [lh58])
                    obtain ⟨y114, h115, H⟩ := bind_some H
                    refine sc rfl en42 hk rfl rfl rfl (laws_heldIntS_t _ A24 p25 y53.2 _ o56.view (hs.hasG (k := 4) rfl) y107 _ h115) ?_
                    rintro _ w ⟨rfl, hG⟩ a hk
                    have hs := hs.call0 hG
                    refine sa _ rfl hk rfl rfl rfl fun a hk => ?_
                    show wpList _ _ _ [] _ _
                    refine wpList_nil ?_
                    refine hK113 _ _ ?_
                    apply wp_seq_k; intro K116 hK116
                    apply wp_seq_k; intro K117 hK117
                    apply wp_region_lit
                    refine sm _ rfl hk rfl rfl rfl fun a hk => ?_
                    refine sv (.bool (decide (y114 < 0))) hk rfl rfl rfl fun a hk => ?_
                    show wpList _ _ _ [] _ _
                    refine wpList_nil ?_
                    refine hK117 _ _ ?_
                    rcases cond_some H with ⟨c118, H⟩ | ⟨c118, H⟩
                    · have hk := hk.lit 93 c118 rfl
                      refine cnd_true hk rfl rfl ?_
                      apply wp_seq_k; intro K119 hK119
                      apply wp_region_lit
                      refine sa _ rfl hk rfl rfl rfl fun a hk => ?_
                      show wpList _ _ _ [] _ _
                      refine wpList_nil ?_
                      refine hK119 _ _ ?_
                      refine wp_ret ?_
                      obtain rfl := Option.some.inj H
                      exact fin hk _ [(.bool false)] rfl ⟨rfl, trivial⟩ ⟨rfl, (hs.pick [] rfl).dnil⟩
                    · have hk := hk.lit 93 c118 rfl
                      refine cnd_false hk rfl rfl ?_
                      refine wp_skip ?_
                      refine hK116 _ _ ?_
                      apply wp_seq_k; intro K120 hK120
                      apply wp_seq_k; intro K121 hK121
                      apply wp_region_lit
                      refine sm _ rfl hk rfl rfl rfl fun a hk => ?_
                      refine sm _ rfl hk rfl rfl rfl fun a hk => ?_
                      refine sv (.bool (y114 != y53.1)) hk rfl rfl rfl fun a hk => ?_
                      show wpList _ _ _ [] _ _
                      refine wpList_nil ?_
                      refine hK121 _ _ ?_
                      rcases cond_some H with ⟨c122, H⟩ | ⟨c122, H⟩
                      · have hk := hk.lit 96 c122 rfl
                        refine cnd_true hk rfl rfl ?_
                        apply wp_seq_k; intro K123 hK123
                        apply wp_region_lit
                        refine sa _ rfl hk rfl rfl rfl fun a hk => ?_
                        show wpList _ _ _ [] _ _
                        refine wpList_nil ?_
                        refine hK123 _ _ ?_
                        refine wp_ret ?_
                        obtain rfl := Option.some.inj H
                        exact fin hk _ [(.bool false)] rfl ⟨rfl, trivial⟩ ⟨rfl, (hs.pick [] rfl).dnil⟩
                      · have hk := hk.lit 96 c122 rfl
                        refine cnd_false hk rfl rfl ?_
                        refine wp_skip ?_
                        refine hK120 _ _ ?_
                        apply wp_seq_k; intro K124 hK124
                        apply wp_region_lit
                        refine sa _ rfl hk rfl rfl rfl fun a hk => ?_
                        show wpList _ _ _ [] _ _
                        refine wpList_nil ?_
                        refine hK124 _ _ ?_
                        refine wp_ret ?_
                        obtain rfl := Option.some.inj H
                        exact fin hk _ [(.bool true)] rfl ⟨rfl, trivial⟩ ⟨rfl, (hs.pick [] rfl).dnil⟩

end Go.Proofs.Ytmgfkpfacdlfbaa
