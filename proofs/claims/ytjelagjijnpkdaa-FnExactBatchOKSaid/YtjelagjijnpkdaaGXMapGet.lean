/- The functions that FnExactMapGet reaches: for each a model and the walk that shows that the Go code comes to it. -/
import Derived.Test.YtjelagjijnpkdaaGXMapOK
namespace Go.Proofs.Ytjelagjijnpkdaa
open Go Go.Z Go.Proofs Go.MuLone Go.ChangeShapes Go.WideShapes Go.ChangeAt Go.RowKit
set_option linter.unusedVariables false
set_option linter.unusedSimpArgs false
noncomputable def spec_l10Find.s0 (l0 : List S_Entry) (x1 : Int) (u4 : Int) : Option ((Int) ⊕ Ex (Unit) (Int)) :=
  (bif (decide (u4 < (l0.length : Int))) then (if 0 ≤ u4 ∧ u4 < (l0.length : Int) then (bif (((l0.getD u4.toNat z_Entry).Key) == x1) then (some (.inr (.ret u4))) else (some (.inl (w64 (u4 + 1))))) else none) else (some (.inr (.out ()))))
noncomputable def spec_l10Find.f (l0 : List S_Entry) (x1 : Int) : Option (Int) :=
  ((loopO (fun s => spec_l10Find.s0 l0 x1 s) 0).bind fun o => match o with | .out _ => (some (-1)) | .ret r => (some r))
theorem spec_l10Find_t (w0 : World) (A0_ : Option Addr) (p0_ : Nat) (l0 : List S_Entry) (k0_ : Chunk) (v0_ : View L_Entry A0_ p0_ l0 k0_) (w0_ : Has w0 k0_) (x1 : Int) (r : Int) (H : spec_l10Find.f l0 x1 = some r) :
    Calls Try.prog 47 #[.slice A0_ l0.length p0_, .int .i64 x1] w0 (Ret (fun v w => v = .int .i64 r ∧ Sat [] w0 w [] [])) := by
  have hs : Sat [] w0 w0 [(1, k0_)] [] := Sat.init w0 [(1, k0_)] [] (by simp only [List.mem_cons, List.not_mem_nil, or_false]; rintro x (rfl) <;> assumption) (by simp) List.nodup_nil (by simp [blks])
  unfold spec_l10Find.f at H
  refine enter Try.func47 rfl Try.ntmps47 rfl fun a hk => ?_
  apply wp_seq_k; intro K1 hK1
  apply wp_region_lit
  refine sa _ rfl hk rfl rfl rfl fun a hk => ?_
  show wpList _ _ _ [] _ _
  refine wpList_nil ?_
  refine hK1 _ _ ?_
  apply wp_seq_k; intro K2 hK2
  apply wp_seq_k; intro K3 hK3
  apply wp_region_lit
  refine sa _ rfl hk rfl rfl rfl fun a hk => ?_
  show wpList _ _ _ [] _ _
  refine wpList_nil ?_
  refine hK3 _ _ ?_
  obtain ⟨o5, h6, HL7⟩ := bind_some H
  clear H
  obtain ⟨R8, hR8⟩ : ∃ R : Act → World → Prop, R = fun a w => o5 = .out () ∧ Kn [] 20 a ∧ Sat [] w0 w [(1, k0_)] [] := ⟨_, rfl⟩
  refine wp_cutq R8 ?_ ?_
  · refine wp_block ?_
    obtain ⟨fu10, h6⟩ := loopO_some h6
    obtain ⟨I9, hI9⟩ : ∃ I : Nat → Act → World → Prop, I = fun fu a w => ∃ (u4 : Int) , loopN (fun s => spec_l10Find.s0 l0 x1 s) fu u4 = some o5 ∧ Kn [(0, (.slice A0_ l0.length p0_)), (1, (.int .i64 x1)), (5, (.int .i64 u4))] 20 a ∧ Sat [] w0 w [(1, k0_)] [] := ⟨_, rfl⟩
    refine wp_loop_ghost I9 fu10 ?_ ?_
    · rw [hI9]
      exact ⟨0, h6, (hk.c 0 rfl (hk.c 1 rfl (hk.c 5 rfl hk.k))), (hs.pick [] rfl)⟩
    · clear h6 hk hs
      intro fu10 a w hI0
      rw [hI9] at hI0
      obtain ⟨u4, hi, hk, hs⟩ := hI0
      obtain ⟨x11, H, h12⟩ := loop_round hi
      try dsimp only at H
      unfold spec_l10Find.s0 at H
      apply wp_seq_k; intro K13 hK13
      apply wp_seq_k; intro K14 hK14
      apply wp_region_lit
      refine sm _ rfl hk rfl rfl rfl fun a hk => ?_
      refine sm _ rfl hk rfl rfl rfl fun a hk => ?_
      refine sle rfl hk rfl rfl rfl un38 fun a hk => ?_
      refine sv (.bool (decide (u4 < (l0.length : Int)))) hk rfl rfl rfl fun a hk => ?_
      show wpList _ _ _ [] _ _
      refine wpList_nil ?_
      refine hK14 _ _ ?_
      rcases cond_some H with ⟨c15, H⟩ | ⟨c15, H⟩
      · have hk := hk.lit 9 c15 rfl
        refine cnd_true hk rfl rfl ?_
        refine wp_skip ?_
        refine hK13 _ _ ?_
        apply wp_seq_k; intro K16 hK16
        refine wp_block ?_
        apply wp_seq_k; intro K17 hK17
        apply wp_region_lit
        refine sm _ rfl hk rfl rfl rfl fun a hk => ?_
        refine sm _ rfl hk rfl rfl rfl fun a hk => ?_
        rcases ite_some H with ⟨c18, H⟩ | ⟨_, H⟩
        rotate_left
        · cases H
        obtain ⟨b19, q20, hAc18⟩ := (v0_).some_ u4 c18.1 c18.2
        refine si rfl hk rfl rfl rfl rfl un38 sz62 c18.1 c18.2 hAc18 fun a hk => ?_
        refine sf (padd A0_ (u4.toNat * 2 + 0)) rfl hk rfl rfl rfl fd62_0 (padd_add _ _ _) fun a hk => ?_
        obtain ⟨_, rfl, e21⟩ := (v0_).at_ z_Entry u4 c18.1 c18.2
        refine sl (v := (.int .i64 ((l0.getD u4.toNat z_Entry).Key))) rfl hk rfl rfl rfl ag3 ((e21 0 _ rfl).cell (hs.hasD (k := 1) rfl)) fun a hk => ?_
        refine sm _ rfl hk rfl rfl rfl fun a hk => ?_
        refine sv (.bool (((l0.getD u4.toNat z_Entry).Key) == x1)) hk rfl rfl rfl fun a hk => ?_
        show wpList _ _ _ [] _ _
        refine wpList_nil ?_
        refine hK17 _ _ ?_
        rcases cond_some H with ⟨c22, H⟩ | ⟨c22, H⟩
        · have hk := hk.lit 18 c22 rfl
          refine cnd_true hk rfl rfl ?_
          apply wp_seq_k; intro K23 hK23
          apply wp_region_lit
          refine sm _ rfl hk rfl rfl rfl fun a hk => ?_
          refine sa _ rfl hk rfl rfl rfl fun a hk => ?_
          show wpList _ _ _ [] _ _
          refine wpList_nil ?_
          refine hK23 _ _ ?_
          refine wp_ret ?_
          obtain rfl := Option.some.inj H
          have ho5 := h12
          try dsimp only at ho5
          subst ho5
          have H := HL7
          try dsimp only at H
          obtain rfl := Option.some.inj H
          exact fin hk _ [(.int .i64 u4)] rfl ⟨rfl, trivial⟩ ⟨rfl, (hs.pick [] rfl).dnil⟩
        · have hk := hk.lit 18 c22 rfl
          refine cnd_false hk rfl rfl ?_
          refine wp_skip ?_
          refine hK16 _ _ ?_
          apply wp_region_lit
          refine sm _ rfl hk rfl rfl rfl fun a hk => ?_
          refine sv (.int .i64 (w64 (u4 + 1))) hk rfl rfl rfl fun a hk => ?_
          refine sa _ rfl hk rfl rfl rfl fun a hk => ?_
          show wpList _ _ _ [] _ _
          refine wpList_nil ?_
          obtain rfl := Option.some.inj H
          obtain ⟨m24, hmm24, h12⟩ := h12
          show ∃ n', n' < _ ∧ I9 n' _ _
          refine ⟨m24, hmm24, ?_⟩
          rw [hI9]
          exact ⟨(w64 (u4 + 1)), h12, (hk.c 0 rfl (hk.c 1 rfl (hk.c 5 rfl hk.k))), (hs.pick [] rfl)⟩
      · have hk := hk.lit 9 c15 rfl
        refine cnd_false hk rfl rfl ?_
        refine wp_exit ?_
        obtain rfl := Option.some.inj H
        show R8 _ _
        rw [hR8]
        exact ⟨h12.symm, hk.k, (hs.pick [] rfl)⟩
  · intro a w hR0
    rw [hR8] at hR0
    obtain ⟨rfl, hk, hs⟩ := hR0
    have H := HL7
    try dsimp only at H
    refine hK2 _ _ ?_
    apply wp_seq_k; intro K25 hK25
    apply wp_region_lit
    refine sa _ rfl hk rfl rfl rfl fun a hk => ?_
    show wpList _ _ _ [] _ _
    refine wpList_nil ?_
    refine hK25 _ _ ?_
    refine wp_ret ?_
    obtain rfl := Option.some.inj H
    exact fin hk _ [(.int .i64 (-1))] rfl ⟨rfl, trivial⟩ ⟨rfl, (hs.pick [] rfl).dnil⟩

noncomputable def spec_MapGet.f (l0 : List S_Entry) (x1 : Int) : Option (Int × Int) :=
  (bif (decide ((l0.length : Int) > 4096)) then (some (0, 2)) else ((spec_MapOK.f l0).bind fun y8 => (bif (!y8) then (some (0, 1)) else ((spec_l10Find.f l0 x1).bind fun y13 => (bif (decide (y13 < 0)) then (some (0, 5)) else (if 0 ≤ y13 ∧ y13 < (l0.length : Int) then (some ((l0.getD y13.toNat z_Entry).Value, 0)) else none))))))
theorem spec_MapGet_t (w0 : World) (A0_ : Option Addr) (p0_ : Nat) (l0 : List S_Entry) (k0_ : Chunk) (v0_ : View L_Entry A0_ p0_ l0 k0_) (w0_ : Has w0 k0_) (x1 : Int) (r : Int × Int) (H : spec_MapGet.f l0 x1 = some r) :
    Calls Try.prog 25 #[.slice A0_ l0.length p0_, .int .i64 x1] w0 (Ret (fun v w => v = .tuple #[.int .i64 r.1, .int .i64 r.2] ∧ Sat [] w0 w [] [])) := by
  have hs : Sat [] w0 w0 [(1, k0_)] [] := Sat.init w0 [(1, k0_)] [] (by simp only [List.mem_cons, List.not_mem_nil, or_false]; rintro x (rfl) <;> assumption) (by simp) List.nodup_nil (by simp [blks])
  unfold spec_MapGet.f at H
  refine enter Try.func25 rfl Try.ntmps25 rfl fun a hk => ?_
  apply wp_seq_k; intro K1 hK1
  apply wp_region_lit
  refine sa _ rfl hk rfl rfl rfl fun a hk => ?_
  refine sa _ rfl hk rfl rfl rfl fun a hk => ?_
  show wpList _ _ _ [] _ _
  refine wpList_nil ?_
  refine hK1 _ _ ?_
  apply wp_seq_k; intro K2 hK2
  apply wp_seq_k; intro K3 hK3
  apply wp_region_lit
  refine sm _ rfl hk rfl rfl rfl fun a hk => ?_
  refine sle rfl hk rfl rfl rfl un38 fun a hk => ?_
  refine sv (.bool (decide ((l0.length : Int) > 4096))) hk rfl rfl rfl fun a hk => ?_
  show wpList _ _ _ [] _ _
  refine wpList_nil ?_
  refine hK3 _ _ ?_
  rcases cond_some H with ⟨c4, H⟩ | ⟨c4, H⟩
  · have hk := hk.lit 9 c4 rfl
    refine cnd_true hk rfl rfl ?_
    apply wp_seq_k; intro K5 hK5
    apply wp_region_lit
    refine sa _ rfl hk rfl rfl rfl fun a hk => ?_
    refine sa _ rfl hk rfl rfl rfl fun a hk => ?_
    show wpList _ _ _ [] _ _
    refine wpList_nil ?_
    refine hK5 _ _ ?_
    refine wp_ret ?_
    obtain rfl := Option.some.inj H
    exact fin hk _ [(.int .i64 0), (.int .i64 2)] rfl ⟨rfl, ⟨rfl, trivial⟩⟩ ⟨rfl, (hs.pick [] rfl).dnil⟩
  · have hk := hk.lit 9 c4 rfl
    refine cnd_false hk rfl rfl ?_
    refine wp_skip ?_
    refine hK2 _ _ ?_
    apply wp_seq_k; intro K6 hK6
    apply wp_seq_k; intro K7 hK7
    apply wp_region_lit
    refine sm _ rfl hk rfl rfl rfl fun a hk => ?_
    obtain ⟨y8, h9, H⟩ := bind_some H
    refine sc rfl en17 hk rfl rfl rfl (spec_MapOK_t _ A0_ p0_ l0 _ v0_ (hs.hasD (k := 1) rfl) _ h9) ?_
    rintro _ w ⟨rfl, hG⟩ a hk
    have hs := hs.call0 hG
    refine sv (.bool (!y8)) hk rfl rfl rfl fun a hk => ?_
    show wpList _ _ _ [] _ _
    refine wpList_nil ?_
    refine hK7 _ _ ?_
    rcases cond_some H with ⟨c10, H⟩ | ⟨c10, H⟩
    · have hk := hk.lit 12 c10 rfl
      refine cnd_true hk rfl rfl ?_
      apply wp_seq_k; intro K11 hK11
      apply wp_region_lit
      refine sa _ rfl hk rfl rfl rfl fun a hk => ?_
      refine sa _ rfl hk rfl rfl rfl fun a hk => ?_
      show wpList _ _ _ [] _ _
      refine wpList_nil ?_
      refine hK11 _ _ ?_
      refine wp_ret ?_
      obtain rfl := Option.some.inj H
      exact fin hk _ [(.int .i64 0), (.int .i64 1)] rfl ⟨rfl, ⟨rfl, trivial⟩⟩ ⟨rfl, (hs.pick [] rfl).dnil⟩
    · have hk := hk.lit 12 c10 rfl
      refine cnd_false hk rfl rfl ?_
      refine wp_skip ?_
      refine hK6 _ _ ?_
      apply wp_seq_k; intro K12 hK12
      apply wp_region_lit
      refine sm _ rfl hk rfl rfl rfl fun a hk => ?_
      refine sm _ rfl hk rfl rfl rfl fun a hk => ?_
      obtain ⟨y13, h14, H⟩ := bind_some H
      refine sc rfl en47 hk rfl rfl rfl (spec_l10Find_t _ A0_ p0_ l0 _ v0_ (hs.hasD (k := 1) rfl) x1 _ h14) ?_
      rintro _ w ⟨rfl, hG⟩ a hk
      have hs := hs.call0 hG
      refine sa _ rfl hk rfl rfl rfl fun a hk => ?_
      show wpList _ _ _ [] _ _
      refine wpList_nil ?_
      refine hK12 _ _ ?_
      apply wp_seq_k; intro K15 hK15
      apply wp_seq_k; intro K16 hK16
      apply wp_region_lit
      refine sm _ rfl hk rfl rfl rfl fun a hk => ?_
      refine sv (.bool (decide (y13 < 0))) hk rfl rfl rfl fun a hk => ?_
      show wpList _ _ _ [] _ _
      refine wpList_nil ?_
      refine hK16 _ _ ?_
      rcases cond_some H with ⟨c17, H⟩ | ⟨c17, H⟩
      · have hk := hk.lit 17 c17 rfl
        refine cnd_true hk rfl rfl ?_
        apply wp_seq_k; intro K18 hK18
        apply wp_region_lit
        refine sa _ rfl hk rfl rfl rfl fun a hk => ?_
        refine sa _ rfl hk rfl rfl rfl fun a hk => ?_
        show wpList _ _ _ [] _ _
        refine wpList_nil ?_
        refine hK18 _ _ ?_
        refine wp_ret ?_
        obtain rfl := Option.some.inj H
        exact fin hk _ [(.int .i64 0), (.int .i64 5)] rfl ⟨rfl, ⟨rfl, trivial⟩⟩ ⟨rfl, (hs.pick [] rfl).dnil⟩
      · have hk := hk.lit 17 c17 rfl
        refine cnd_false hk rfl rfl ?_
        refine wp_skip ?_
        refine hK15 _ _ ?_
        apply wp_seq_k; intro K19 hK19
        apply wp_region_lit
        refine sm _ rfl hk rfl rfl rfl fun a hk => ?_
        refine sm _ rfl hk rfl rfl rfl fun a hk => ?_
        rcases ite_some H with ⟨c20, H⟩ | ⟨_, H⟩
        rotate_left
        · cases H
        obtain ⟨b21, q22, hAc20⟩ := (v0_).some_ y13 c20.1 c20.2
        refine si rfl hk rfl rfl rfl rfl un38 sz62 c20.1 c20.2 hAc20 fun a hk => ?_
        refine sf (padd A0_ (y13.toNat * 2 + 1)) rfl hk rfl rfl rfl fd62_1 (padd_add _ _ _) fun a hk => ?_
        obtain ⟨_, rfl, e23⟩ := (v0_).at_ z_Entry y13 c20.1 c20.2
        refine sl (v := (.int .i64 ((l0.getD y13.toNat z_Entry).Value))) rfl hk rfl rfl rfl ag3 ((e23 1 _ rfl).cell (hs.hasD (k := 1) rfl)) fun a hk => ?_
        refine sa _ rfl hk rfl rfl rfl fun a hk => ?_
        refine sa _ rfl hk rfl rfl rfl fun a hk => ?_
        show wpList _ _ _ [] _ _
        refine wpList_nil ?_
        refine hK19 _ _ ?_
        refine wp_ret ?_
        obtain rfl := Option.some.inj H
        exact fin hk _ [(.int .i64 ((l0.getD y13.toNat z_Entry).Value)), (.int .i64 0)] rfl ⟨rfl, ⟨rfl, trivial⟩⟩ ⟨rfl, (hs.pick [] rfl).dnil⟩

noncomputable def slices_BinarySearchFunc_impl_Entry_impl_Entry_int.s0 (l0 : List S_Entry) (x1 : Int) (q2 : S_Entry → Int → Option (Int)) (u5 : Int) (u6 : Int) : Option ((Int × Int) ⊕ Ex (Int) (Int × Bool)) :=
  (bif (decide (u5 < u6)) then (if 0 ≤ (IntKind.wrap .i64 (Int.fdiv (IntKind.wrap .u64 (w64 (u5 + u6))) (2 ^ 1))) ∧ (IntKind.wrap .i64 (Int.fdiv (IntKind.wrap .u64 (w64 (u5 + u6))) (2 ^ 1))) < (l0.length : Int) then ((q2 (l0.getD ((IntKind.wrap .i64 (Int.fdiv (IntKind.wrap .u64 (w64 (u5 + u6))) (2 ^ 1)))).toNat z_Entry) x1).bind fun y25 => (bif (decide (y25 < 0)) then (some (.inl ((w64 ((IntKind.wrap .i64 (Int.fdiv (IntKind.wrap .u64 (w64 (u5 + u6))) (2 ^ 1))) + 1)), u6))) else (some (.inl (u5, (IntKind.wrap .i64 (Int.fdiv (IntKind.wrap .u64 (w64 (u5 + u6))) (2 ^ 1)))))))) else none) else (some (.inr (.out u5))))
noncomputable def slices_BinarySearchFunc_impl_Entry_impl_Entry_int.f (l0 : List S_Entry) (x1 : Int) (q2 : S_Entry → Int → Option (Int)) : Option (Int × Bool) :=
  ((loopO (fun s => slices_BinarySearchFunc_impl_Entry_impl_Entry_int.s0 l0 x1 q2 s.1 s.2) (0, (l0.length : Int))).bind fun o => match o with | .out u7 => (bif (decide (u7 < (l0.length : Int))) then (if 0 ≤ u7 ∧ u7 < (l0.length : Int) then ((q2 (l0.getD u7.toNat z_Entry) x1).bind fun y36 => (some (u7, (y36 == 0)))) else none) else (some (u7, false))) | .ret r => (some r))
theorem slices_BinarySearchFunc_impl_Entry_impl_Entry_int_t (w0 : World) (A0_ : Option Addr) (p0_ : Nat) (l0 : List S_Entry) (k0_ : Chunk) (v0_ : View L_Entry A0_ p0_ l0 k0_) (w0_ : Has w0 k0_) (x1 : Int) (f2_ : FuncId) (c2_ : List Value) (e2_ : Enters Try.prog f2_) (q2 : S_Entry → Int → Option (Int)) (k2_ : Chunk) (t2_ : ∀ w, Has w k2_ → ∀ (z0 : S_Entry) (z1 : Int) (r : Int), q2 z0 z1 = some r → Calls Try.prog f2_ (([.agg #[.int .i64 z0.Key, .int .i64 z0.Value], .int .i64 z1] : List Value) ++ c2_).toArray w (Ret (fun v w2 => v = .int .i64 r ∧ Sat [] w w2 [] []))) (w2_ : Has w0 k2_) (r : Int × Bool) (H : slices_BinarySearchFunc_impl_Entry_impl_Entry_int.f l0 x1 q2 = some r) :
    Calls Try.prog 60 #[.slice A0_ l0.length p0_, .int .i64 x1, .func (.func f2_) #[] c2_.toArray] w0 (Ret (fun v w => v = .tuple #[.int .i64 r.1, .bool r.2] ∧ Sat [] w0 w [] [])) := by
  have hs : Sat [] w0 w0 [(1, k0_), (2, k2_)] [] := Sat.init w0 [(1, k0_), (2, k2_)] [] (by simp only [List.mem_cons, List.not_mem_nil, or_false]; rintro x (rfl | rfl) <;> assumption) (by simp) List.nodup_nil (by simp [blks])
  unfold slices_BinarySearchFunc_impl_Entry_impl_Entry_int.f at H
  refine enter Try.func60 rfl Try.ntmps60 rfl fun a hk => ?_
  apply wp_seq_k; intro K1 hK1
  apply wp_region_lit
  refine sa _ rfl hk rfl rfl rfl fun a hk => ?_
  refine sa _ rfl hk rfl rfl rfl fun a hk => ?_
  show wpList _ _ _ [] _ _
  refine wpList_nil ?_
  refine hK1 _ _ ?_
  apply wp_seq_k; intro K2 hK2
  apply wp_region_lit
  refine sm _ rfl hk rfl rfl rfl fun a hk => ?_
  refine sle rfl hk rfl rfl rfl un38 fun a hk => ?_
  refine sa _ rfl hk rfl rfl rfl fun a hk => ?_
  show wpList _ _ _ [] _ _
  refine wpList_nil ?_
  refine hK2 _ _ ?_
  apply wp_seq_k; intro K3 hK3
  apply wp_region_lit
  refine sm _ rfl hk rfl rfl rfl fun a hk => ?_
  refine sa _ rfl hk rfl rfl rfl fun a hk => ?_
  refine sa _ rfl hk rfl rfl rfl fun a hk => ?_
  show wpList _ _ _ [] _ _
  refine wpList_nil ?_
  refine hK3 _ _ ?_
  apply wp_seq_k; intro K4 hK4
  obtain ⟨o8, h9, HL10⟩ := bind_some H
  clear H
  obtain ⟨R11, hR11⟩ : ∃ R : Act → World → Prop, R = fun a w => ∃ (u7 : Int) , o8 = .out u7 ∧ Kn [(0, (.slice A0_ l0.length p0_)), (1, (.int .i64 x1)), (2, (.func (.func f2_) #[] c2_.toArray)), (8, (.int .i64 (l0.length : Int))), (9, (.int .i64 u7))] 49 a ∧ Sat [] w0 w [(1, k0_), (2, k2_)] [] := ⟨_, rfl⟩
  refine wp_cutq R11 ?_ ?_
  · refine wp_block ?_
    obtain ⟨fu13, h9⟩ := loopO_some h9
    obtain ⟨I12, hI12⟩ : ∃ I : Nat → Act → World → Prop, I = fun fu a w => ∃ (u5 : Int) (u6 : Int) , loopN (fun s => slices_BinarySearchFunc_impl_Entry_impl_Entry_int.s0 l0 x1 q2 s.1 s.2) fu (u5, u6) = some o8 ∧ Kn [(0, (.slice A0_ l0.length p0_)), (1, (.int .i64 x1)), (2, (.func (.func f2_) #[] c2_.toArray)), (8, (.int .i64 (l0.length : Int))), (9, (.int .i64 u5)), (10, (.int .i64 u6))] 49 a ∧ Sat [] w0 w [(1, k0_), (2, k2_)] [] := ⟨_, rfl⟩
    refine wp_loop_ghost I12 fu13 ?_ ?_
    · rw [hI12]
      exact ⟨0, (l0.length : Int), h9, (hk.c 0 rfl (hk.c 1 rfl (hk.c 2 rfl (hk.c 8 rfl (hk.c 9 rfl (hk.c 10 rfl hk.k)))))), (hs.pick [] rfl)⟩
    · clear h9 hk hs
      intro fu13 a w hI0
      rw [hI12] at hI0
      obtain ⟨u5, u6, hi, hk, hs⟩ := hI0
      obtain ⟨x14, H, h15⟩ := loop_round hi
      try dsimp only at H
      unfold slices_BinarySearchFunc_impl_Entry_impl_Entry_int.s0 at H
      apply wp_seq_k; intro K16 hK16
      apply wp_seq_k; intro K17 hK17
      apply wp_region_lit
      refine sm _ rfl hk rfl rfl rfl fun a hk => ?_
      refine sm _ rfl hk rfl rfl rfl fun a hk => ?_
      refine sv (.bool (decide (u5 < u6))) hk rfl rfl rfl fun a hk => ?_
      show wpList _ _ _ [] _ _
      refine wpList_nil ?_
      refine hK17 _ _ ?_
      rcases cond_some H with ⟨c18, H⟩ | ⟨c18, H⟩
      · have hk := hk.lit 17 c18 rfl
        refine cnd_true hk rfl rfl ?_
        refine wp_skip ?_
        refine hK16 _ _ ?_
        refine wp_block ?_
        apply wp_seq_k; intro K19 hK19
        apply wp_region_lit
        refine sm _ rfl hk rfl rfl rfl fun a hk => ?_
        refine sm _ rfl hk rfl rfl rfl fun a hk => ?_
        refine sv (.int .i64 (w64 (u5 + u6))) hk rfl rfl rfl fun a hk => ?_
        refine scn rfl hk rfl rfl rfl un93 un3 fun a hk => ?_
        refine sv (.int .u64 (Int.fdiv (IntKind.wrap .u64 (w64 (u5 + u6))) (2 ^ 1))) hk rfl rfl rfl fun a hk => ?_
        refine scn rfl hk rfl rfl rfl un3 un93 fun a hk => ?_
        refine sa _ rfl hk rfl rfl rfl fun a hk => ?_
        show wpList _ _ _ [] _ _
        refine wpList_nil ?_
        refine hK19 _ _ ?_
        apply wp_seq_k; intro K20 hK20
        apply wp_region_lit
        refine sm _ rfl hk rfl rfl rfl fun a hk => ?_
        refine sm _ rfl hk rfl rfl rfl fun a hk => ?_
        refine sm _ rfl hk rfl rfl rfl fun a hk => ?_
        rcases ite_some H with ⟨c21, H⟩ | ⟨_, H⟩
        rotate_left
        · cases H
        obtain ⟨b22, q23, hAc21⟩ := (v0_).some_ (IntKind.wrap .i64 (Int.fdiv (IntKind.wrap .u64 (w64 (u5 + u6))) (2 ^ 1))) c21.1 c21.2
        refine si rfl hk rfl rfl rfl rfl un38 sz62 c21.1 c21.2 hAc21 fun a hk => ?_
        obtain ⟨_, rfl, e24⟩ := (v0_).at_ z_Entry (IntKind.wrap .i64 (Int.fdiv (IntKind.wrap .u64 (w64 (u5 + u6))) (2 ^ 1))) c21.1 c21.2
        refine sln [.int .i64 ((l0.getD ((IntKind.wrap .i64 (Int.fdiv (IntKind.wrap .u64 (w64 (u5 + u6))) (2 ^ 1)))).toNat z_Entry).Key), .int .i64 ((l0.getD ((IntKind.wrap .i64 (Int.fdiv (IntKind.wrap .u64 (w64 (u5 + u6))) (2 ^ 1)))).toNat z_Entry).Value)] rfl hk rfl rfl rfl ag62 sz62 (cells_at e24 (hs.hasD (k := 1) rfl)) fun a hk => ?_
        refine sm _ rfl hk rfl rfl rfl fun a hk => ?_
        obtain ⟨y25, h26, H⟩ := bind_some H
        refine scv (vs := ([(.agg #[.int .i64 ((l0.getD ((IntKind.wrap .i64 (Int.fdiv (IntKind.wrap .u64 (w64 (u5 + u6))) (2 ^ 1)))).toNat z_Entry).Key), .int .i64 ((l0.getD ((IntKind.wrap .i64 (Int.fdiv (IntKind.wrap .u64 (w64 (u5 + u6))) (2 ^ 1)))).toNat z_Entry).Value)]), (.int .i64 x1)] : List Value) ++ c2_) rfl rfl e2_ hk rfl rfl rfl (t2_ _ (hs.hasD (k := 2) rfl) (l0.getD ((IntKind.wrap .i64 (Int.fdiv (IntKind.wrap .u64 (w64 (u5 + u6))) (2 ^ 1)))).toNat z_Entry) x1 _ h26) ?_
        rintro _ w ⟨rfl, hG⟩ a hk
        have hs := hs.call0 hG
        refine sv (.bool (decide (y25 < 0))) hk rfl rfl rfl fun a hk => ?_
        show wpList _ _ _ [] _ _
        refine wpList_nil ?_
        refine hK20 _ _ ?_
        rcases cond_some H with ⟨c27, H⟩ | ⟨c27, H⟩
        · have hk := hk.lit 31 c27 rfl
          refine cnd_true hk rfl rfl ?_
          apply wp_region_lit
          refine sm _ rfl hk rfl rfl rfl fun a hk => ?_
          refine sv (.int .i64 (w64 ((IntKind.wrap .i64 (Int.fdiv (IntKind.wrap .u64 (w64 (u5 + u6))) (2 ^ 1))) + 1))) hk rfl rfl rfl fun a hk => ?_
          refine sa _ rfl hk rfl rfl rfl fun a hk => ?_
          show wpList _ _ _ [] _ _
          refine wpList_nil ?_
          obtain rfl := Option.some.inj H
          obtain ⟨m28, hmm28, h15⟩ := h15
          show ∃ n', n' < _ ∧ I12 n' _ _
          refine ⟨m28, hmm28, ?_⟩
          rw [hI12]
          exact ⟨(w64 ((IntKind.wrap .i64 (Int.fdiv (IntKind.wrap .u64 (w64 (u5 + u6))) (2 ^ 1))) + 1)), u6, h15, (hk.c 0 rfl (hk.c 1 rfl (hk.c 2 rfl (hk.c 8 rfl (hk.c 9 rfl (hk.c 10 rfl hk.k)))))), (hs.pick [] rfl)⟩
        · have hk := hk.lit 31 c27 rfl
          refine cnd_false hk rfl rfl ?_
          apply wp_region_lit
          refine sm _ rfl hk rfl rfl rfl fun a hk => ?_
          refine sa _ rfl hk rfl rfl rfl fun a hk => ?_
          show wpList _ _ _ [] _ _
          refine wpList_nil ?_
          obtain rfl := Option.some.inj H
          obtain ⟨m29, hmm29, h15⟩ := h15
          show ∃ n', n' < _ ∧ I12 n' _ _
          refine ⟨m29, hmm29, ?_⟩
          rw [hI12]
          exact ⟨u5, (IntKind.wrap .i64 (Int.fdiv (IntKind.wrap .u64 (w64 (u5 + u6))) (2 ^ 1))), h15, (hk.c 0 rfl (hk.c 1 rfl (hk.c 2 rfl (hk.c 8 rfl (hk.c 9 rfl (hk.c 10 rfl hk.k)))))), (hs.pick [] rfl)⟩
      · have hk := hk.lit 17 c18 rfl
        refine cnd_false hk rfl rfl ?_
        refine wp_exit ?_
        obtain rfl := Option.some.inj H
        show R11 _ _
        rw [hR11]
        exact ⟨u5, h15.symm, (hk.c 0 rfl (hk.c 1 rfl (hk.c 2 rfl (hk.c 8 rfl (hk.c 9 rfl hk.k))))), (hs.pick [] rfl)⟩
  · intro a w hR0
    rw [hR11] at hR0
    obtain ⟨u7, rfl, hk, hs⟩ := hR0
    have H := HL10
    try dsimp only at H
    refine hK4 _ _ ?_
    apply wp_seq_k; intro K30 hK30
    apply wp_region_lit
    refine sm _ rfl hk rfl rfl rfl fun a hk => ?_
    refine sm _ rfl hk rfl rfl rfl fun a hk => ?_
    refine sm _ rfl hk rfl rfl rfl fun a hk => ?_
    refine sv (.bool (decide (u7 < (l0.length : Int)))) hk rfl rfl rfl fun a hk => ?_
    refine sm _ rfl hk rfl rfl rfl fun a hk => ?_
    rcases cond_some H with ⟨c31, H⟩ | ⟨c31, H⟩
    · have hk := hk.lit 39 c31 rfl
      refine sm _ rfl hk rfl rfl rfl fun a hk => ?_
      refine sm _ rfl hk rfl rfl rfl fun a hk => ?_
      refine sm _ rfl hk rfl rfl rfl fun a hk => ?_
      rcases ite_some H with ⟨c32, H⟩ | ⟨_, H⟩
      rotate_left
      · cases H
      obtain ⟨b33, q34, hAc32⟩ := (v0_).some_ u7 c32.1 c32.2
      refine si rfl hk rfl rfl rfl rfl un38 sz62 c32.1 c32.2 hAc32 fun a hk => ?_
      obtain ⟨_, rfl, e35⟩ := (v0_).at_ z_Entry u7 c32.1 c32.2
      refine sln [.int .i64 ((l0.getD u7.toNat z_Entry).Key), .int .i64 ((l0.getD u7.toNat z_Entry).Value)] rfl hk rfl rfl rfl ag62 sz62 (cells_at e35 (hs.hasD (k := 1) rfl)) fun a hk => ?_
      refine sm _ rfl hk rfl rfl rfl fun a hk => ?_
      obtain ⟨y36, h37, H⟩ := bind_some H
      refine scv (vs := ([(.agg #[.int .i64 ((l0.getD u7.toNat z_Entry).Key), .int .i64 ((l0.getD u7.toNat z_Entry).Value)]), (.int .i64 x1)] : List Value) ++ c2_) rfl rfl e2_ hk rfl rfl rfl (t2_ _ (hs.hasD (k := 2) rfl) (l0.getD u7.toNat z_Entry) x1 _ h37) ?_
      rintro _ w ⟨rfl, hG⟩ a hk
      have hs := hs.call0 hG
      refine sv (.bool (y36 == 0)) hk rfl rfl rfl fun a hk => ?_
      refine sv (.bool (y36 == 0)) hk rfl rfl rfl fun a hk => ?_
      refine sa _ rfl hk rfl rfl rfl fun a hk => ?_
      refine sa _ rfl hk rfl rfl rfl fun a hk => ?_
      show wpList _ _ _ [] _ _
      refine wpList_nil ?_
      refine hK30 _ _ ?_
      refine wp_ret ?_
      obtain rfl := Option.some.inj H
      exact fin hk _ [(.int .i64 u7), (.bool (y36 == 0))] rfl ⟨rfl, ⟨rfl, trivial⟩⟩ ⟨rfl, (hs.pick [] rfl).dnil⟩
    · have hk := hk.lit 39 c31 rfl
      refine sk hk rfl rfl rfl fun a hk => ?_
      refine sk hk rfl rfl rfl fun a hk => ?_
      refine sk hk rfl rfl rfl fun a hk => ?_
      refine sk hk rfl rfl rfl fun a hk => ?_
      refine sk hk rfl rfl rfl fun a hk => ?_
      refine sk hk rfl rfl rfl fun a hk => ?_
      refine sk hk rfl rfl rfl fun a hk => ?_
      refine sk hk rfl rfl rfl fun a hk => ?_
      refine sv (.bool false) hk rfl rfl rfl fun a hk => ?_
      refine sa _ rfl hk rfl rfl rfl fun a hk => ?_
      refine sa _ rfl hk rfl rfl rfl fun a hk => ?_
      show wpList _ _ _ [] _ _
      refine wpList_nil ?_
      refine hK30 _ _ ?_
      refine wp_ret ?_
      obtain rfl := Option.some.inj H
      exact fin hk _ [(.int .i64 u7), (.bool false)] rfl ⟨rfl, ⟨rfl, trivial⟩⟩ ⟨rfl, (hs.pick [] rfl).dnil⟩

noncomputable def impl_find_c1.f (x0 : S_Entry) (x1 : Int) : Option (Int) :=
  (some (w64 (x0.Key - x1)))
theorem impl_find_c1_t (w0 : World) (x0 : S_Entry) (x1 : Int) (r : Int) (H : impl_find_c1.f x0 x1 = some r) :
    Calls Try.prog 61 #[.agg #[.int .i64 x0.Key, .int .i64 x0.Value], .int .i64 x1] w0 (Ret (fun v w => v = .int .i64 r ∧ Sat [] w0 w [] [])) := by
  have hs : Sat [] w0 w0 [] [] := Sat.init w0 [] [] (by simp) (by simp) List.nodup_nil (by simp [blks])
  unfold impl_find_c1.f at H
  refine enter Try.func61 rfl Try.ntmps61 rfl fun a hk => ?_
  apply wp_seq_k; intro K1 hK1
  apply wp_region_lit
  refine sbx 1 hs rfl hk rfl rfl rfl rfl fun b2 w a hk hs => ?_
  refine sa _ rfl hk rfl rfl rfl fun a hk => ?_
  show wpList _ _ _ [] _ _
  refine wpList_nil ?_
  refine hK1 _ _ ?_
  apply wp_seq_k; intro K3 hK3
  apply wp_region_lit
  refine sf ⟨b2, 0, none⟩ rfl hk rfl rfl rfl fd62_0 rfl fun a hk => ?_
  refine sl rfl hk rfl rfl rfl ag3 (box_cell hs (k := 1) rfl rfl) fun a hk => ?_
  refine sm _ rfl hk rfl rfl rfl fun a hk => ?_
  refine sv (.int .i64 (w64 (x0.Key - x1))) hk rfl rfl rfl fun a hk => ?_
  refine sa _ rfl hk rfl rfl rfl fun a hk => ?_
  show wpList _ _ _ [] _ _
  refine wpList_nil ?_
  refine hK3 _ _ ?_
  refine wp_ret ?_
  obtain rfl := Option.some.inj H
  exact fin hk _ [(.int .i64 (w64 (x0.Key - x1)))] rfl ⟨rfl, trivial⟩ ⟨rfl, (hs.pick [] rfl).dnil⟩

noncomputable def impl_find.f (l0 : List S_Entry) (x1 : Int) : Option (Int × Bool) :=
  ((slices_BinarySearchFunc_impl_Entry_impl_Entry_int.f l0 x1 impl_find_c1.f).bind fun y3 => (some (y3.1, y3.2)))
theorem impl_find_t (w0 : World) (A0_ : Option Addr) (p0_ : Nat) (l0 : List S_Entry) (k0_ : Chunk) (v0_ : View L_Entry A0_ p0_ l0 k0_) (w0_ : Has w0 k0_) (x1 : Int) (r : Int × Bool) (H : impl_find.f l0 x1 = some r) :
    Calls Try.prog 48 #[.slice A0_ l0.length p0_, .int .i64 x1] w0 (Ret (fun v w => v = .tuple #[.int .i64 r.1, .bool r.2] ∧ Sat [] w0 w [] [])) := by
  have hs : Sat [] w0 w0 [(1, k0_)] [] := Sat.init w0 [(1, k0_)] [] (by simp only [List.mem_cons, List.not_mem_nil, or_false]; rintro x (rfl) <;> assumption) (by simp) List.nodup_nil (by simp [blks])
  unfold impl_find.f at H
  refine enter Try.func48 rfl Try.ntmps48 rfl fun a hk => ?_
  apply wp_seq_k; intro K1 hK1
  apply wp_region_lit
  refine sa _ rfl hk rfl rfl rfl fun a hk => ?_
  refine sa _ rfl hk rfl rfl rfl fun a hk => ?_
  show wpList _ _ _ [] _ _
  refine wpList_nil ?_
  refine hK1 _ _ ?_
  apply wp_seq_k; intro K2 hK2
  apply wp_region_lit
  refine sm _ rfl hk rfl rfl rfl fun a hk => ?_
  refine sm _ rfl hk rfl rfl rfl fun a hk => ?_
  obtain ⟨y3, h4, H⟩ := bind_some H
  refine sc rfl en60 hk rfl rfl rfl (slices_BinarySearchFunc_impl_Entry_impl_Entry_int_t _ A0_ p0_ l0 _ v0_ (hs.hasD (k := 1) rfl) x1 61 [] en61 impl_find_c1.f [] (fun w _ z0 z1 r h => impl_find_c1_t w z0 z1 r h) (Has.nil _) _ h4) ?_
  rintro _ w ⟨rfl, hG⟩ a hk
  have hs := hs.call0 hG
  refine sv (.int .i64 y3.1) hk rfl rfl rfl fun a hk => ?_
  refine sv (.bool y3.2) hk rfl rfl rfl fun a hk => ?_
  refine sa _ rfl hk rfl rfl rfl fun a hk => ?_
  refine sa _ rfl hk rfl rfl rfl fun a hk => ?_
  show wpList _ _ _ [] _ _
  refine wpList_nil ?_
  refine hK2 _ _ ?_
  refine wp_ret ?_
  obtain rfl := Option.some.inj H
  exact fin hk _ [(.int .i64 y3.1), (.bool y3.2)] rfl ⟨rfl, ⟨rfl, trivial⟩⟩ ⟨rfl, (hs.pick [] rfl).dnil⟩

noncomputable def impl_MapGet.f (l0 : List S_Entry) (x1 : Int) : Option (Int × Int) :=
  (bif (decide ((l0.length : Int) > 4096)) then (some (0, 2)) else ((impl_MapOK.f l0).bind fun y7 => (bif (!y7) then (some (0, 1)) else ((impl_isKey.f x1).bind fun y12 => (bif (!y12) then (some (0, 5)) else ((impl_find.f l0 x1).bind fun y17 => (bif (!y17.2) then (some (0, 5)) else (if 0 ≤ y17.1 ∧ y17.1 < (l0.length : Int) then (some ((l0.getD (y17.1).toNat z_Entry).Value, 0)) else none))))))))
theorem impl_MapGet_t (w0 : World) (A0_ : Option Addr) (p0_ : Nat) (l0 : List S_Entry) (k0_ : Chunk) (v0_ : View L_Entry A0_ p0_ l0 k0_) (w0_ : Has w0 k0_) (x1 : Int) (r : Int × Int) (H : impl_MapGet.f l0 x1 = some r) :
    Calls Try.prog 26 #[.slice A0_ l0.length p0_, .int .i64 x1] w0 (Ret (fun v w => v = .tuple #[.int .i64 r.1, .int .i64 r.2] ∧ Sat [] w0 w [] [])) := by
  have hs : Sat [] w0 w0 [(1, k0_)] [] := Sat.init w0 [(1, k0_)] [] (by simp only [List.mem_cons, List.not_mem_nil, or_false]; rintro x (rfl) <;> assumption) (by simp) List.nodup_nil (by simp [blks])
  unfold impl_MapGet.f at H
  refine enter Try.func26 rfl Try.ntmps26 rfl fun a hk => ?_
  apply wp_seq_k; intro K1 hK1
  apply wp_region_lit
  refine sa _ rfl hk rfl rfl rfl fun a hk => ?_
  refine sa _ rfl hk rfl rfl rfl fun a hk => ?_
  show wpList _ _ _ [] _ _
  refine wpList_nil ?_
  refine hK1 _ _ ?_
  apply wp_seq_k; intro K2 hK2
  refine wp_block ?_
  apply wp_seq_k; intro K3 hK3
  apply wp_region_lit
  refine sm _ rfl hk rfl rfl rfl fun a hk => ?_
  refine sle rfl hk rfl rfl rfl un38 fun a hk => ?_
  refine sv (.bool (decide ((l0.length : Int) > 4096))) hk rfl rfl rfl fun a hk => ?_
  refine sa _ rfl hk rfl rfl rfl fun a hk => ?_
  show wpList _ _ _ [] _ _
  refine wpList_nil ?_
  refine hK3 _ _ ?_
  rcases cond_some H with ⟨c4, H⟩ | ⟨c4, H⟩
  · have hk := hk.lit 8 c4 rfl
    refine cnd_true hk rfl rfl ?_
    apply wp_seq_k; intro K5 hK5
    apply wp_region_lit
    refine sa _ rfl hk rfl rfl rfl fun a hk => ?_
    refine sa _ rfl hk rfl rfl rfl fun a hk => ?_
    show wpList _ _ _ [] _ _
    refine wpList_nil ?_
    refine hK5 _ _ ?_
    refine wp_ret ?_
    obtain rfl := Option.some.inj H
    exact fin hk _ [(.int .i64 0), (.int .i64 2)] rfl ⟨rfl, ⟨rfl, trivial⟩⟩ ⟨rfl, (hs.pick [] rfl).dnil⟩
  · have hk := hk.lit 8 c4 rfl
    refine cnd_false hk rfl rfl ?_
    apply wp_seq_k; intro K6 hK6
    apply wp_region_lit
    refine sm _ rfl hk rfl rfl rfl fun a hk => ?_
    obtain ⟨y7, h8, H⟩ := bind_some H
    refine sc rfl en19 hk rfl rfl rfl (impl_MapOK_t _ A0_ p0_ l0 _ v0_ (hs.hasD (k := 1) rfl) _ h8) ?_
    rintro _ w ⟨rfl, hG⟩ a hk
    have hs := hs.call0 hG
    refine sv (.bool (!y7)) hk rfl rfl rfl fun a hk => ?_
    refine sa _ rfl hk rfl rfl rfl fun a hk => ?_
    show wpList _ _ _ [] _ _
    refine wpList_nil ?_
    refine hK6 _ _ ?_
    rcases cond_some H with ⟨c9, H⟩ | ⟨c9, H⟩
    · have hk := hk.lit 12 c9 rfl
      refine cnd_true hk rfl rfl ?_
      apply wp_seq_k; intro K10 hK10
      apply wp_region_lit
      refine sa _ rfl hk rfl rfl rfl fun a hk => ?_
      refine sa _ rfl hk rfl rfl rfl fun a hk => ?_
      show wpList _ _ _ [] _ _
      refine wpList_nil ?_
      refine hK10 _ _ ?_
      refine wp_ret ?_
      obtain rfl := Option.some.inj H
      exact fin hk _ [(.int .i64 0), (.int .i64 1)] rfl ⟨rfl, ⟨rfl, trivial⟩⟩ ⟨rfl, (hs.pick [] rfl).dnil⟩
    · have hk := hk.lit 12 c9 rfl
      refine cnd_false hk rfl rfl ?_
      apply wp_seq_k; intro K11 hK11
      apply wp_region_lit
      refine sm _ rfl hk rfl rfl rfl fun a hk => ?_
      obtain ⟨y12, h13, H⟩ := bind_some H
      refine sc rfl en34 hk rfl rfl rfl (impl_isKey_t _ x1 _ h13) ?_
      rintro _ w ⟨rfl, hG⟩ a hk
      have hs := hs.call0 hG
      refine sv (.bool (!y12)) hk rfl rfl rfl fun a hk => ?_
      refine sa _ rfl hk rfl rfl rfl fun a hk => ?_
      show wpList _ _ _ [] _ _
      refine wpList_nil ?_
      refine hK11 _ _ ?_
      rcases cond_some H with ⟨c14, H⟩ | ⟨c14, H⟩
      · have hk := hk.lit 16 c14 rfl
        refine cnd_true hk rfl rfl ?_
        apply wp_seq_k; intro K15 hK15
        apply wp_region_lit
        refine sa _ rfl hk rfl rfl rfl fun a hk => ?_
        refine sa _ rfl hk rfl rfl rfl fun a hk => ?_
        show wpList _ _ _ [] _ _
        refine wpList_nil ?_
        refine hK15 _ _ ?_
        refine wp_ret ?_
        obtain rfl := Option.some.inj H
        exact fin hk _ [(.int .i64 0), (.int .i64 5)] rfl ⟨rfl, ⟨rfl, trivial⟩⟩ ⟨rfl, (hs.pick [] rfl).dnil⟩
      · have hk := hk.lit 16 c14 rfl
        refine cnd_false hk rfl rfl ?_
        refine wp_skip ?_
        refine hK2 _ _ ?_
        apply wp_seq_k; intro K16 hK16
        apply wp_region_lit
        refine sm _ rfl hk rfl rfl rfl fun a hk => ?_
        refine sm _ rfl hk rfl rfl rfl fun a hk => ?_
        obtain ⟨y17, h18, H⟩ := bind_some H
        refine sc rfl en48 hk rfl rfl rfl (impl_find_t _ A0_ p0_ l0 _ v0_ (hs.hasD (k := 1) rfl) x1 _ h18) ?_
        rintro _ w ⟨rfl, hG⟩ a hk
        have hs := hs.call0 hG
        refine sm _ rfl hk rfl rfl rfl fun a hk => ?_
        refine sv (.int .i64 y17.1) hk rfl rfl rfl fun a hk => ?_
        refine sv (.bool y17.2) hk rfl rfl rfl fun a hk => ?_
        refine sa _ rfl hk rfl rfl rfl fun a hk => ?_
        refine sa _ rfl hk rfl rfl rfl fun a hk => ?_
        show wpList _ _ _ [] _ _
        refine wpList_nil ?_
        refine hK16 _ _ ?_
        apply wp_seq_k; intro K19 hK19
        apply wp_seq_k; intro K20 hK20
        apply wp_region_lit
        refine sm _ rfl hk rfl rfl rfl fun a hk => ?_
        refine sv (.bool (!y17.2)) hk rfl rfl rfl fun a hk => ?_
        show wpList _ _ _ [] _ _
        refine wpList_nil ?_
        refine hK20 _ _ ?_
        rcases cond_some H with ⟨c21, H⟩ | ⟨c21, H⟩
        · have hk := hk.lit 27 c21 rfl
          refine cnd_true hk rfl rfl ?_
          apply wp_seq_k; intro K22 hK22
          apply wp_region_lit
          refine sa _ rfl hk rfl rfl rfl fun a hk => ?_
          refine sa _ rfl hk rfl rfl rfl fun a hk => ?_
          show wpList _ _ _ [] _ _
          refine wpList_nil ?_
          refine hK22 _ _ ?_
          refine wp_ret ?_
          obtain rfl := Option.some.inj H
          exact fin hk _ [(.int .i64 0), (.int .i64 5)] rfl ⟨rfl, ⟨rfl, trivial⟩⟩ ⟨rfl, (hs.pick [] rfl).dnil⟩
        · have hk := hk.lit 27 c21 rfl
          refine cnd_false hk rfl rfl ?_
          refine wp_skip ?_
          refine hK19 _ _ ?_
          apply wp_seq_k; intro K23 hK23
          apply wp_region_lit
          refine sm _ rfl hk rfl rfl rfl fun a hk => ?_
          refine sm _ rfl hk rfl rfl rfl fun a hk => ?_
          rcases ite_some H with ⟨c24, H⟩ | ⟨_, H⟩
          rotate_left
          · cases H
          obtain ⟨b25, q26, hAc24⟩ := (v0_).some_ y17.1 c24.1 c24.2
          refine si rfl hk rfl rfl rfl rfl un38 sz62 c24.1 c24.2 hAc24 fun a hk => ?_
          refine sf (padd A0_ ((y17.1).toNat * 2 + 1)) rfl hk rfl rfl rfl fd62_1 (padd_add _ _ _) fun a hk => ?_
          obtain ⟨_, rfl, e27⟩ := (v0_).at_ z_Entry y17.1 c24.1 c24.2
          refine sl (v := (.int .i64 ((l0.getD (y17.1).toNat z_Entry).Value))) rfl hk rfl rfl rfl ag3 ((e27 1 _ rfl).cell (hs.hasD (k := 1) rfl)) fun a hk => ?_
          refine sa _ rfl hk rfl rfl rfl fun a hk => ?_
          refine sa _ rfl hk rfl rfl rfl fun a hk => ?_
          show wpList _ _ _ [] _ _
          refine wpList_nil ?_
          refine hK23 _ _ ?_
          refine wp_ret ?_
          obtain rfl := Option.some.inj H
          exact fin hk _ [(.int .i64 ((l0.getD (y17.1).toNat z_Entry).Value)), (.int .i64 0)] rfl ⟨rfl, ⟨rfl, trivial⟩⟩ ⟨rfl, (hs.pick [] rfl).dnil⟩

noncomputable def laws_FnExactMapGet.f (l0 : List S_Entry) (x1 : Int) : Option (Bool) :=
  ((laws_szEntryS.f l0 1048576).bind fun y4 => (bif (decide (y4 < 0)) then (some true) else ((laws_toEntryS.f l0).bind fun y11 => ((spec_MapGet.f y11 x1).bind fun y17 => ((laws_toEntryS.f l0).bind fun y20 => ((impl_MapGet.f y20 x1).bind fun y27 => (bif (y27.1 != y17.1) then (some false) else (bif (y27.2 != y17.2) then (some false) else ((laws_toEntryS.f l0).bind fun y37 => ((laws_eqEntryS.f y20 y37).bind fun y43 => (bif (!y43) then (some false) else (some true))))))))))))
theorem laws_FnExactMapGet_t (w0 : World) (A0_ : Option Addr) (p0_ : Nat) (l0 : List S_Entry) (k0_ : Chunk) (v0_ : View L_Entry A0_ p0_ l0 k0_) (w0_ : Has w0 k0_) (x1 : Int) (r : Bool) (H : laws_FnExactMapGet.f l0 x1 = some r) :
    Calls Try.prog 7 #[.slice A0_ l0.length p0_, .int .i64 x1] w0 (Ret (fun v w => v = .bool r ∧ Sat [] w0 w [] [])) := by
  have hs : Sat [] w0 w0 [(1, k0_)] [] := Sat.init w0 [(1, k0_)] [] (by simp only [List.mem_cons, List.not_mem_nil, or_false]; rintro x (rfl) <;> assumption) (by simp) List.nodup_nil (by simp [blks])
  unfold laws_FnExactMapGet.f at H
  refine enter Try.func7 rfl Try.ntmps7 rfl fun a hk => ?_
  apply wp_seq_k; intro K1 hK1
  apply wp_region_lit
  refine sa _ rfl hk rfl rfl rfl fun a hk => ?_
  show wpList _ _ _ [] _ _
  refine wpList_nil ?_
  refine hK1 _ _ ?_
  apply wp_seq_k; intro K2 hK2
  apply wp_region_lit
  refine sa _ rfl hk rfl rfl rfl fun a hk => ?_
  show wpList _ _ _ [] _ _
  refine wpList_nil ?_
  refine hK2 _ _ ?_
  apply wp_seq_k; intro K3 hK3
  apply wp_region_lit
  refine sm _ rfl hk rfl rfl rfl fun a hk => ?_
  refine sm _ rfl hk rfl rfl rfl fun a hk => ?_
  obtain ⟨y4, h5, H⟩ := bind_some H
  refine sc rfl en16 hk rfl rfl rfl (laws_szEntryS_t _ A0_ p0_ l0 _ v0_ (hs.hasD (k := 1) rfl) 1048576 _ h5) ?_
  rintro _ w ⟨rfl, hG⟩ a hk
  have hs := hs.call0 hG
  refine sa _ rfl hk rfl rfl rfl fun a hk => ?_
  show wpList _ _ _ [] _ _
  refine wpList_nil ?_
  refine hK3 _ _ ?_
  apply wp_seq_k; intro K6 hK6
  apply wp_seq_k; intro K7 hK7
  apply wp_region_lit
  refine sm _ rfl hk rfl rfl rfl fun a hk => ?_
  refine sv (.bool (decide (y4 < 0))) hk rfl rfl rfl fun a hk => ?_
  show wpList _ _ _ [] _ _
  refine wpList_nil ?_
  refine hK7 _ _ ?_
  rcases cond_some H with ⟨c8, H⟩ | ⟨c8, H⟩
  · have hk := hk.lit 15 c8 rfl
    refine cnd_true hk rfl rfl ?_
    apply wp_seq_k; intro K9 hK9
    apply wp_region_lit
    refine sa _ rfl hk rfl rfl rfl fun a hk => ?_
    show wpList _ _ _ [] _ _
    refine wpList_nil ?_
    refine hK9 _ _ ?_
    refine wp_ret ?_
    obtain rfl := Option.some.inj H
    exact fin hk _ [(.bool true)] rfl ⟨rfl, trivial⟩ ⟨rfl, (hs.pick [] rfl).dnil⟩
  · have hk := hk.lit 15 c8 rfl
    refine cnd_false hk rfl rfl ?_
    refine wp_skip ?_
    refine hK6 _ _ ?_
    apply wp_seq_k; intro K10 hK10
    apply wp_region_lit
    refine sm _ rfl hk rfl rfl rfl fun a hk => ?_
    obtain ⟨y11, h12, H⟩ := bind_some H
    refine sc rfl en18 hk rfl rfl rfl (laws_toEntryS_t _ A0_ p0_ l0 _ v0_ (hs.hasD (k := 1) rfl) _ h12) ?_
    rintro _ w ⟨A13, p14, k15, rfl, o16, hG⟩ a hk
    have hs := hs.call0k hG [2] rfl
    refine sm _ rfl hk rfl rfl rfl fun a hk => ?_
    obtain ⟨y17, h18, H⟩ := bind_some H
    refine sc rfl en25 hk rfl rfl rfl (spec_MapGet_t _ A13 p14 y11 _ o16.view (hs.hasG (k := 2) rfl) x1 _ h18) ?_
    rintro _ w ⟨rfl, hG⟩ a hk
    have hs := hs.call0 hG
    refine sm _ rfl hk rfl rfl rfl fun a hk => ?_
    refine sv (.int .i64 y17.1) hk rfl rfl rfl fun a hk => ?_
    refine sv (.int .i64 y17.2) hk rfl rfl rfl fun a hk => ?_
    refine sa _ rfl hk rfl rfl rfl fun a hk => ?_
    refine sa _ rfl hk rfl rfl rfl fun a hk => ?_
    show wpList _ _ _ [] _ _
    refine wpList_nil ?_
    refine hK10 _ _ ?_
    apply wp_seq_k; intro K19 hK19
    apply wp_region_lit
    refine sm _ rfl hk rfl rfl rfl fun a hk => ?_
    obtain ⟨y20, h21, H⟩ := bind_some H
    refine sc rfl en18 hk rfl rfl rfl (laws_toEntryS_t _ A0_ p0_ l0 _ v0_ (hs.hasD (k := 1) rfl) _ h21) ?_
    rintro _ w ⟨A22, p23, k24, rfl, o25, hG⟩ a hk
    have hs := hs.call0k hG [3] rfl
    refine sa _ rfl hk rfl rfl rfl fun a hk => ?_
    show wpList _ _ _ [] _ _
    refine wpList_nil ?_
    refine hK19 _ _ ?_
    apply wp_seq_k; intro K26 hK26
    apply wp_region_lit
    refine sm _ rfl hk rfl rfl rfl fun a hk => ?_
    refine sm _ rfl hk rfl rfl rfl fun a hk => ?_
    obtain ⟨y27, h28, H⟩ := bind_some H
    refine sc rfl en26 hk rfl rfl rfl (impl_MapGet_t _ A22 p23 y20 _ o25.view (hs.hasG (k := 3) rfl) x1 _ h28) ?_
    rintro _ w ⟨rfl, hG⟩ a hk
    have hs := hs.call0 hG
    refine sm _ rfl hk rfl rfl rfl fun a hk => ?_
    refine sv (.int .i64 y27.1) hk rfl rfl rfl fun a hk => ?_
    refine sv (.int .i64 y27.2) hk rfl rfl rfl fun a hk => ?_
    refine sa _ rfl hk rfl rfl rfl fun a hk => ?_
    refine sa _ rfl hk rfl rfl rfl fun a hk => ?_
    show wpList _ _ _ [] _ _
    refine wpList_nil ?_
    refine hK26 _ _ ?_
    apply wp_seq_k; intro K29 hK29
    apply wp_seq_k; intro K30 hK30
    apply wp_region_lit
    refine sm _ rfl hk rfl rfl rfl fun a hk => ?_
    refine sm _ rfl hk rfl rfl rfl fun a hk => ?_
    refine sv (.bool (y27.1 != y17.1)) hk rfl rfl rfl fun a hk => ?_
    refine sm _ rfl hk rfl rfl rfl fun a hk => ?_
    rcases cond_some H with ⟨c31, H⟩ | ⟨c31, H⟩
    · have hk := hk.lit 34 c31 rfl
      refine sk hk rfl rfl rfl fun a hk => ?_
      refine sk hk rfl rfl rfl fun a hk => ?_
      refine sk hk rfl rfl rfl fun a hk => ?_
      refine sv (.bool true) hk rfl rfl rfl fun a hk => ?_
      show wpList _ _ _ [] _ _
      refine wpList_nil ?_
      refine hK30 _ _ ?_
      refine cnd_true hk rfl rfl ?_
      apply wp_seq_k; intro K32 hK32
      apply wp_region_lit
      refine sa _ rfl hk rfl rfl rfl fun a hk => ?_
      show wpList _ _ _ [] _ _
      refine wpList_nil ?_
      refine hK32 _ _ ?_
      refine wp_ret ?_
      obtain rfl := Option.some.inj H
      exact fin hk _ [(.bool false)] rfl ⟨rfl, trivial⟩ ⟨rfl, (hs.pick [] rfl).dnil⟩
    · have hk := hk.lit 34 c31 rfl
      refine sm _ rfl hk rfl rfl rfl fun a hk => ?_
      refine sm _ rfl hk rfl rfl rfl fun a hk => ?_
      refine sv (.bool (y27.2 != y17.2)) hk rfl rfl rfl fun a hk => ?_
      refine sv (.bool (y27.2 != y17.2)) hk rfl rfl rfl fun a hk => ?_
      show wpList _ _ _ [] _ _
      refine wpList_nil ?_
      refine hK30 _ _ ?_
      rcases cond_some H with ⟨c33, H⟩ | ⟨c33, H⟩
      · have hk := hk.lit 38 c33 rfl
        refine cnd_true hk rfl rfl ?_
        apply wp_seq_k; intro K34 hK34
        apply wp_region_lit
        refine sa _ rfl hk rfl rfl rfl fun a hk => ?_
        show wpList _ _ _ [] _ _
        refine wpList_nil ?_
        refine hK34 _ _ ?_
        refine wp_ret ?_
        obtain rfl := Option.some.inj H
        exact fin hk _ [(.bool false)] rfl ⟨rfl, trivial⟩ ⟨rfl, (hs.pick [] rfl).dnil⟩
      · have hk := hk.lit 38 c33 rfl
        refine cnd_false hk rfl rfl ?_
        refine wp_skip ?_
        refine hK29 _ _ ?_
        apply wp_seq_k; intro K35 hK35
        apply wp_seq_k; intro K36 hK36
        apply wp_region_lit
        refine sm _ rfl hk rfl rfl rfl fun a hk => ?_
        refine sm _ rfl hk rfl rfl rfl fun a hk => ?_
        obtain ⟨y37, h38, H⟩ := bind_some H
        refine sc rfl en18 hk rfl rfl rfl (laws_toEntryS_t _ A0_ p0_ l0 _ v0_ (hs.hasD (k := 1) rfl) _ h38) ?_
        rintro _ w ⟨A39, p40, k41, rfl, o42, hG⟩ a hk
        have hs := hs.call0k hG [4] rfl
        obtain ⟨y43, h44, H⟩ := bind_some H
        refine sc rfl en20 hk rfl rfl rfl (laws_eqEntryS_t _ A22 p23 y20 _ o25.view (hs.hasG (k := 3) rfl) A39 p40 y37 _ o42.view (hs.hasG (k := 4) rfl) _ h44) ?_
        rintro _ w ⟨rfl, hG⟩ a hk
        have hs := hs.call0 hG
        refine sv (.bool (!y43)) hk rfl rfl rfl fun a hk => ?_
        show wpList _ _ _ [] _ _
        refine wpList_nil ?_
        refine hK36 _ _ ?_
        rcases cond_some H with ⟨c45, H⟩ | ⟨c45, H⟩
        · have hk := hk.lit 43 c45 rfl
          refine cnd_true hk rfl rfl ?_
          apply wp_seq_k; intro K46 hK46
          apply wp_region_lit
          refine sa _ rfl hk rfl rfl rfl fun a hk => ?_
          show wpList _ _ _ [] _ _
          refine wpList_nil ?_
          refine hK46 _ _ ?_
          refine wp_ret ?_
          obtain rfl := Option.some.inj H
          exact fin hk _ [(.bool false)] rfl ⟨rfl, trivial⟩ ⟨rfl, (hs.pick [] rfl).dnil⟩
        · have hk := hk.lit 43 c45 rfl
          refine cnd_false hk rfl rfl ?_
          refine wp_skip ?_
          refine hK35 _ _ ?_
          apply wp_seq_k; intro K47 hK47
          apply wp_region_lit
          refine sa _ rfl hk rfl rfl rfl fun a hk => ?_
          show wpList _ _ _ [] _ _
          refine wpList_nil ?_
          refine hK47 _ _ ?_
          refine wp_ret ?_
          obtain rfl := Option.some.inj H
          exact fin hk _ [(.bool true)] rfl ⟨rfl, trivial⟩ ⟨rfl, (hs.pick [] rfl).dnil⟩

end Go.Proofs.Ytjelagjijnpkdaa
