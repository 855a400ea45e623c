/- The functions that FnExactEntryText reaches: for each a model and the walk that shows that the Go code comes to it. -/
import Derived.Test.YtmgfkpfacdlfbaaT
namespace Go.Proofs.Ytmgfkpfacdlfbaa
open Go Go.Z Go.Proofs Go.MuLone Go.ChangeShapes Go.WideShapes Go.ChangeAt Go.RowKit
set_option linter.unusedVariables false
set_option linter.unusedSimpArgs false
noncomputable def laws_szOpS.f (l0 : List S_Op) (x1 : Int) : Option (Int) :=
  (bif (decide ((w64 (x1 - (l0.length : Int))) < 0)) then (some (-1)) else (some (w64 (x1 - (l0.length : Int)))))
set_option maxRecDepth 100000 in
set_option maxHeartbeats 0 in
theorem laws_szOpS_t (w0 : World) (A0_ : Option Addr) (p0_ : Nat) (l0 : List S_Op) (k0_ : Chunk) (v0_ : View L_Op A0_ p0_ l0 k0_) (w0_ : Has w0 k0_) (x1 : Int) (r : Int) (H : laws_szOpS.f l0 x1 = some r) :
    Calls Try.prog 110 #[.slice A0_ l0.length p0_, .int .i64 x1] w0 (Ret (fun v w => v = .int .i64 r ∧ Sat [] w0 w [] [])) := by
  have hs : Sat [] w0 w0 [(1, k0_)] [] := Sat.init w0 [(1, k0_)] [] (by simp only [List.mem_cons, List.not_mem_nil, or_false]; rintro x (rfl) <;> assumption) (by simp) List.nodup_nil (by simp [blks])
  unfold laws_szOpS.f at H
  refine enter Try.func110 rfl Try.ntmps110 rfl fun a hk => ?_
  apply wp_seq_k; intro K1 hK1
  apply wp_region_lit
  refine sa _ rfl hk rfl rfl rfl fun a hk => ?_
  show wpList _ _ _ [] _ _
  refine wpList_nil ?_
  refine hK1 _ _ ?_
  apply wp_seq_k; intro K2 hK2
  apply wp_region_lit
  refine sm _ rfl hk rfl rfl rfl fun a hk => ?_
  refine sm _ rfl hk rfl rfl rfl fun a hk => ?_
  refine sle rfl hk rfl rfl rfl un88 fun a hk => ?_
  refine sv (.int .i64 (w64 (x1 - (l0.length : Int)))) hk rfl rfl rfl fun a hk => ?_
  refine sa _ rfl hk rfl rfl rfl fun a hk => ?_
  show wpList _ _ _ [] _ _
  refine wpList_nil ?_
  refine hK2 _ _ ?_
  apply wp_seq_k; intro K3 hK3
  apply wp_seq_k; intro K4 hK4
  apply wp_region_lit
  refine sm _ rfl hk rfl rfl rfl fun a hk => ?_
  refine sv (.bool (decide ((w64 (x1 - (l0.length : Int))) < 0))) hk rfl rfl rfl fun a hk => ?_
  show wpList _ _ _ [] _ _
  refine wpList_nil ?_
  refine hK4 _ _ ?_
  rcases cond_some H with ⟨c5, H⟩ | ⟨c5, H⟩
  · have hk := hk.lit 10 c5 rfl
    refine cnd_true hk rfl rfl ?_
    apply wp_seq_k; intro K6 hK6
    apply wp_region_lit
    refine sa _ rfl hk rfl rfl rfl fun a hk => ?_
    show wpList _ _ _ [] _ _
    refine wpList_nil ?_
    refine hK6 _ _ ?_
    refine wp_ret ?_
    obtain rfl := Option.some.inj H
    exact fin hk _ [(.int .i64 (-1))] rfl ⟨rfl, trivial⟩ ⟨rfl, (hs.pick [] rfl).dnil⟩
  · have hk := hk.lit 10 c5 rfl
    refine cnd_false hk rfl rfl ?_
    refine wp_skip ?_
    refine hK3 _ _ ?_
    apply wp_seq_k; intro K7 hK7
    apply wp_region_lit
    refine sm _ rfl hk rfl rfl rfl fun a hk => ?_
    refine sa _ rfl hk rfl rfl rfl fun a hk => ?_
    show wpList _ _ _ [] _ _
    refine wpList_nil ?_
    refine hK7 _ _ ?_
    refine wp_ret ?_
    obtain rfl := Option.some.inj H
    exact fin hk _ [(.int .i64 (w64 (x1 - (l0.length : Int))))] rfl ⟨rfl, trivial⟩ ⟨rfl, (hs.pick [] rfl).dnil⟩

noncomputable def laws_szTxn.f (x0 : S_Txn) (x1 : Int) : Option (Int) :=
  ((laws_szOpS.f x0.Ops x1).bind fun y4 => (bif (decide (y4 < 0)) then (some (-1)) else (some y4)))
set_option maxRecDepth 100000 in
set_option maxHeartbeats 0 in
theorem laws_szTxn_t (w0 : World) (x0 : S_Txn) (A0_0 : Option Addr) (p0_0 : Nat) (k0_0 : Chunk) (v0_0 : View L_Op A0_0 p0_0 x0.Ops k0_0) (w0_0 : Has w0 k0_0) (x1 : Int) (r : Int) (H : laws_szTxn.f x0 x1 = some r) :
    Calls Try.prog 60 #[.agg #[.slice A0_0 x0.Ops.length p0_0], .int .i64 x1] w0 (Ret (fun v w => v = .int .i64 r ∧ Sat [] w0 w [] [])) := by
  have hs : Sat [] w0 w0 [(1, k0_0)] [] := Sat.init w0 [(1, k0_0)] [] (by simp only [List.mem_cons, List.not_mem_nil, or_false]; rintro x (rfl) <;> assumption) (by simp) List.nodup_nil (by simp [blks])
  unfold laws_szTxn.f at H
  refine enter Try.func60 rfl Try.ntmps60 rfl fun a hk => ?_
  apply wp_seq_k; intro K1 hK1
  apply wp_region_lit
  refine sbx 2 hs rfl hk rfl rfl rfl rfl fun b2 w a hk hs => ?_
  refine sa _ rfl hk rfl rfl rfl fun a hk => ?_
  show wpList _ _ _ [] _ _
  refine wpList_nil ?_
  refine hK1 _ _ ?_
  apply wp_seq_k; intro K3 hK3
  apply wp_region_lit
  refine sf ⟨b2, 0, none⟩ rfl hk rfl rfl rfl fd90_0 rfl fun a hk => ?_
  refine sl rfl hk rfl rfl rfl ag88 (box_cell hs (k := 2) rfl rfl) fun a hk => ?_
  refine sm _ rfl hk rfl rfl rfl fun a hk => ?_
  obtain ⟨y4, h5, H⟩ := bind_some H
  refine sc rfl en110 hk rfl rfl rfl (laws_szOpS_t _ A0_0 p0_0 x0.Ops _ v0_0 (hs.hasD (k := 1) rfl) x1 _ h5) ?_
  rintro _ w ⟨rfl, hG⟩ a hk
  have hs := hs.call0 hG
  refine sa _ rfl hk rfl rfl rfl fun a hk => ?_
  show wpList _ _ _ [] _ _
  refine wpList_nil ?_
  refine hK3 _ _ ?_
  apply wp_seq_k; intro K6 hK6
  apply wp_seq_k; intro K7 hK7
  apply wp_region_lit
  refine sm _ rfl hk rfl rfl rfl fun a hk => ?_
  refine sv (.bool (decide (y4 < 0))) hk rfl rfl rfl fun a hk => ?_
  show wpList _ _ _ [] _ _
  refine wpList_nil ?_
  refine hK7 _ _ ?_
  rcases cond_some H with ⟨c8, H⟩ | ⟨c8, H⟩
  · have hk := hk.lit 10 c8 rfl
    refine cnd_true hk rfl rfl ?_
    apply wp_seq_k; intro K9 hK9
    apply wp_region_lit
    refine sa _ rfl hk rfl rfl rfl fun a hk => ?_
    show wpList _ _ _ [] _ _
    refine wpList_nil ?_
    refine hK9 _ _ ?_
    refine wp_ret ?_
    obtain rfl := Option.some.inj H
    exact fin hk _ [(.int .i64 (-1))] rfl ⟨rfl, trivial⟩ ⟨rfl, (hs.pick [] rfl).dnil⟩
  · have hk := hk.lit 10 c8 rfl
    refine cnd_false hk rfl rfl ?_
    refine wp_skip ?_
    refine hK6 _ _ ?_
    apply wp_seq_k; intro K10 hK10
    apply wp_region_lit
    refine sm _ rfl hk rfl rfl rfl fun a hk => ?_
    refine sa _ rfl hk rfl rfl rfl fun a hk => ?_
    show wpList _ _ _ [] _ _
    refine wpList_nil ?_
    refine hK10 _ _ ?_
    refine wp_ret ?_
    obtain rfl := Option.some.inj H
    exact fin hk _ [(.int .i64 y4)] rfl ⟨rfl, trivial⟩ ⟨rfl, (hs.pick [] rfl).dnil⟩

noncomputable def laws_szTxnS.s0 (l0 : List S_Txn) (u11 : Int) (u12 : Int) : Option ((Int × Int) ⊕ Ex (Int) (Int)) :=
  (bif (decide (u12 < (l0.length : Int))) then (if 0 ≤ u12 ∧ u12 < (l0.length : Int) then ((laws_szTxn.f (l0.getD u12.toNat z_Txn) u11).bind fun y34 => (bif (decide (y34 < 0)) then (some (.inr (.ret (-1)))) else (some (.inl (y34, (w64 (u12 + 1))))))) else none) else (some (.inr (.out u11))))
noncomputable def laws_szTxnS.f (l0 : List S_Txn) (x1 : Int) : Option (Int) :=
  (bif (decide ((w64 (x1 - (l0.length : Int))) < 0)) then (some (-1)) else ((loopO (fun s => laws_szTxnS.s0 l0 s.1 s.2) ((w64 (x1 - (l0.length : Int))), 0)).bind fun o => match o with | .out u13 => (some u13) | .ret r => (some r)))
set_option maxRecDepth 100000 in
set_option maxHeartbeats 0 in
theorem laws_szTxnS_t (w0 : World) (A0_ : Option Addr) (p0_ : Nat) (l0 : List S_Txn) (k0_ : Chunk) (v0_ : View L_laws_Txn A0_ p0_ l0 k0_) (w0_ : Has w0 k0_) (x1 : Int) (r : Int) (H : laws_szTxnS.f l0 x1 = some r) :
    Calls Try.prog 16 #[.slice A0_ l0.length p0_, .int .i64 x1] w0 (Ret (fun v w => v = .int .i64 r ∧ Sat [] w0 w [] [])) := by
  have hs : Sat [] w0 w0 [(1, k0_)] [] := Sat.init w0 [(1, k0_)] [] (by simp only [List.mem_cons, List.not_mem_nil, or_false]; rintro x (rfl) <;> assumption) (by simp) List.nodup_nil (by simp [blks])
  unfold laws_szTxnS.f at H
  refine enter Try.func16 rfl Try.ntmps16 rfl fun a hk => ?_
  apply wp_seq_k; intro K1 hK1
  apply wp_region_lit
  refine sa _ rfl hk rfl rfl rfl fun a hk => ?_
  show wpList _ _ _ [] _ _
  refine wpList_nil ?_
  refine hK1 _ _ ?_
  apply wp_seq_k; intro K2 hK2
  apply wp_region_lit
  refine sm _ rfl hk rfl rfl rfl fun a hk => ?_
  refine sm _ rfl hk rfl rfl rfl fun a hk => ?_
  refine sle rfl hk rfl rfl rfl un30 fun a hk => ?_
  refine sv (.int .i64 (w64 (x1 - (l0.length : Int)))) hk rfl rfl rfl fun a hk => ?_
  refine sa _ rfl hk rfl rfl rfl fun a hk => ?_
  show wpList _ _ _ [] _ _
  refine wpList_nil ?_
  refine hK2 _ _ ?_
  apply wp_seq_k; intro K3 hK3
  apply wp_seq_k; intro K4 hK4
  apply wp_region_lit
  refine sm _ rfl hk rfl rfl rfl fun a hk => ?_
  refine sv (.bool (decide ((w64 (x1 - (l0.length : Int))) < 0))) hk rfl rfl rfl fun a hk => ?_
  show wpList _ _ _ [] _ _
  refine wpList_nil ?_
  refine hK4 _ _ ?_
  rcases cond_some H with ⟨c5, H⟩ | ⟨c5, H⟩
  · have hk := hk.lit 11 c5 rfl
    refine cnd_true hk rfl rfl ?_
    apply wp_seq_k; intro K6 hK6
    apply wp_region_lit
    refine sa _ rfl hk rfl rfl rfl fun a hk => ?_
    show wpList _ _ _ [] _ _
    refine wpList_nil ?_
    refine hK6 _ _ ?_
    refine wp_ret ?_
    obtain rfl := Option.some.inj H
    exact fin hk _ [(.int .i64 (-1))] rfl ⟨rfl, trivial⟩ ⟨rfl, (hs.pick [] rfl).dnil⟩
  · have hk := hk.lit 11 c5 rfl
    refine cnd_false hk rfl rfl ?_
    refine wp_skip ?_
    refine hK3 _ _ ?_
    apply wp_seq_k; intro K7 hK7
    apply wp_seq_k; intro K8 hK8
    apply wp_region_lit
    refine sa _ rfl hk rfl rfl rfl fun a hk => ?_
    show wpList _ _ _ [] _ _
    refine wpList_nil ?_
    refine hK8 _ _ ?_
    obtain ⟨o14, h15, HL16⟩ := bind_some H
    clear H
    obtain ⟨R17, hR17⟩ : ∃ R : Act → World → Prop, R = fun a w => ∃ (u13 : Int), o14 = .out u13 ∧ Kn [(1, (.int .i64 u13))] 27 a ∧ Sat [] w0 w [(1, k0_)] [] := ⟨_, rfl⟩
    refine wp_cutq R17 ?_ ?_
    · refine wp_block ?_
      obtain ⟨fu19, h15⟩ := loopO_some h15
      obtain ⟨I18, hI18⟩ : ∃ I : Nat → Act → World → Prop, I = fun fu a w => ∃ (u11 : Int) (u12 : Int), loopN (fun s => laws_szTxnS.s0 l0 s.1 s.2) fu (u11, u12) = some o14 ∧ Kn [(0, (.slice A0_ l0.length p0_)), (1, (.int .i64 u11)), (5, (.int .i64 u12))] 27 a ∧ Sat [] w0 w [(1, k0_)] [] := ⟨_, rfl⟩
      refine wp_loop_ghost I18 fu19 ?_ ?_
      · rw [hI18]
        exact ⟨(w64 (x1 - (l0.length : Int))), 0, h15, (hk.c 0 rfl (hk.c 1 rfl (hk.c 5 rfl hk.k))), (hs.pick [] rfl)⟩
      · clear h15 hk hs
        intro fu19 a w hI0
        rw [hI18] at hI0
        obtain ⟨u11, u12, hi, hk, hs⟩ := hI0
        obtain ⟨x20, H, h21⟩ := loop_round hi
        try dsimp only at H
        unfold laws_szTxnS.s0 at H
        apply wp_seq_k; intro K22 hK22
        apply wp_seq_k; intro K23 hK23
        apply wp_region_lit
        refine sm _ rfl hk rfl rfl rfl fun a hk => ?_
        refine sm _ rfl hk rfl rfl rfl fun a hk => ?_
        refine sle rfl hk rfl rfl rfl un30 fun a hk => ?_
        refine sv (.bool (decide (u12 < (l0.length : Int)))) hk rfl rfl rfl fun a hk => ?_
        show wpList _ _ _ [] _ _
        refine wpList_nil ?_
        refine hK23 _ _ ?_
        rcases cond_some H with ⟨c24, H⟩ | ⟨c24, H⟩
        · have hk := hk.lit 15 c24 rfl
          refine cnd_true hk rfl rfl ?_
          refine wp_skip ?_
          refine hK22 _ _ ?_
          apply wp_seq_k; intro K25 hK25
          refine wp_block ?_
          apply wp_seq_k; intro K26 hK26
          apply wp_region_lit
          refine sm _ rfl hk rfl rfl rfl fun a hk => ?_
          refine sm _ rfl hk rfl rfl rfl fun a hk => ?_
          rcases ite_some H with ⟨c27, H⟩ | ⟨_, H⟩
          rotate_left
          · cases H
          obtain ⟨b28, q29, hAc27⟩ := (v0_).some_ u12 c27.1 c27.2
          refine si rfl hk rfl rfl rfl rfl un30 sz90 c27.1 c27.2 hAc27 fun a hk => ?_
          obtain ⟨_, ⟨_, rfl, A31, p32, rfl, v33⟩, e30⟩ := (v0_).at_ z_Txn u12 c27.1 c27.2
          refine sln [.slice A31 ((l0.getD u12.toNat z_Txn).Ops).length p32] rfl hk rfl rfl rfl ag90 sz90 (cells_at e30 (hs.hasD (k := 1) rfl)) fun a hk => ?_
          refine sm _ rfl hk rfl rfl rfl fun a hk => ?_
          obtain ⟨y34, h35, H⟩ := bind_some H
          refine sc rfl en60 hk rfl rfl rfl (laws_szTxn_t _ (l0.getD u12.toNat z_Txn) A31 p32 _ v33 (hs.hasD (k := 1) rfl) u11 _ h35) ?_
          rintro _ w ⟨rfl, hG⟩ a hk
          have hs := hs.call0 hG
          refine sa _ rfl hk rfl rfl rfl fun a hk => ?_
          show wpList _ _ _ [] _ _
          refine wpList_nil ?_
          refine hK26 _ _ ?_
          apply wp_seq_k; intro K36 hK36
          apply wp_region_lit
          refine sm _ rfl hk rfl rfl rfl fun a hk => ?_
          refine sv (.bool (decide (y34 < 0))) hk rfl rfl rfl fun a hk => ?_
          show wpList _ _ _ [] _ _
          refine wpList_nil ?_
          refine hK36 _ _ ?_
          rcases cond_some H with ⟨c37, H⟩ | ⟨c37, H⟩
          · have hk := hk.lit 25 c37 rfl
            refine cnd_true hk rfl rfl ?_
            apply wp_seq_k; intro K38 hK38
            apply wp_region_lit
            refine sa _ rfl hk rfl rfl rfl fun a hk => ?_
            show wpList _ _ _ [] _ _
            refine wpList_nil ?_
            refine hK38 _ _ ?_
            refine wp_ret ?_
            obtain rfl := Option.some.inj H
            have ho14 := h21
            try dsimp only at ho14
            subst ho14
            have H := HL16
            try dsimp only at H
            obtain rfl := Option.some.inj H
            exact fin hk _ [(.int .i64 (-1))] rfl ⟨rfl, trivial⟩ ⟨rfl, (hs.pick [] rfl).dnil⟩
          · have hk := hk.lit 25 c37 rfl
            refine cnd_false hk rfl rfl ?_
            refine wp_skip ?_
            refine hK25 _ _ ?_
            apply wp_region_lit
            refine sm _ rfl hk rfl rfl rfl fun a hk => ?_
            refine sv (.int .i64 (w64 (u12 + 1))) hk rfl rfl rfl fun a hk => ?_
            refine sa _ rfl hk rfl rfl rfl fun a hk => ?_
            show wpList _ _ _ [] _ _
            refine wpList_nil ?_
            obtain rfl := Option.some.inj H
            obtain ⟨m39, hmm39, h21⟩ := h21
            show ∃ n', n' < _ ∧ I18 n' _ _
            refine ⟨m39, hmm39, ?_⟩
            rw [hI18]
            exact ⟨y34, (w64 (u12 + 1)), h21, (hk.c 0 rfl (hk.c 1 rfl (hk.c 5 rfl hk.k))), (hs.pick [] rfl)⟩
        · have hk := hk.lit 15 c24 rfl
          refine cnd_false hk rfl rfl ?_
          refine wp_exit ?_
          obtain rfl := Option.some.inj H
          show R17 _ _
          rw [hR17]
          exact ⟨u11, h21.symm, (hk.c 1 rfl hk.k), (hs.pick [] rfl)⟩
    · intro a w hR0
      rw [hR17] at hR0
      obtain ⟨u13, rfl, hk, hs⟩ := hR0
      have H := HL16
      try dsimp only at H
      refine hK7 _ _ ?_
      apply wp_seq_k; intro K40 hK40
      apply wp_region_lit
      refine sm _ rfl hk rfl rfl rfl fun a hk => ?_
      refine sa _ rfl hk rfl rfl rfl fun a hk => ?_
      show wpList _ _ _ [] _ _
      refine wpList_nil ?_
      refine hK40 _ _ ?_
      refine wp_ret ?_
      obtain rfl := Option.some.inj H
      exact fin hk _ [(.int .i64 u13)] rfl ⟨rfl, trivial⟩ ⟨rfl, (hs.pick [] rfl).dnil⟩

noncomputable def spec_l01In.f (x0 : Int) (x1 : Int) (x2 : Int) : Option (Bool) :=
  (((bif (decide (x1 ≤ x0)) then (some (decide (x0 ≤ x2))) else (some false)) : Option (Bool)).bind fun u4 => (some u4))
set_option maxRecDepth 100000 in
set_option maxHeartbeats 0 in
theorem spec_l01In_t (w0 : World) (x0 : Int) (x1 : Int) (x2 : Int) (r : Bool) (H : spec_l01In.f x0 x1 x2 = some r) :
    Calls Try.prog 81 #[.int .i64 x0, .int .i64 x1, .int .i64 x2] w0 (Ret (fun v w => v = .bool r ∧ Sat [] w0 w [] [])) := by
  have hs : Sat [] w0 w0 [] [] := Sat.init w0 [] [] (by simp) (by simp) List.nodup_nil (by simp [blks])
  unfold spec_l01In.f at H
  refine enter Try.func81 rfl Try.ntmps81 rfl fun a hk => ?_
  apply wp_seq_k; intro K1 hK1
  apply wp_region_lit
  refine sa _ rfl hk rfl rfl rfl fun a hk => ?_
  show wpList _ _ _ [] _ _
  refine wpList_nil ?_
  refine hK1 _ _ ?_
  apply wp_seq_k; intro K2 hK2
  obtain ⟨o5, h6, HL7⟩ := bind_some H
  clear H
  obtain ⟨R8, hR8⟩ : ∃ R : Act → World → Prop, R = fun a w => ∃ (u4 : Bool), u4 = o5 ∧ Kn [(6, (.bool u4))] 15 a ∧ Sat [] w0 w [] [] := ⟨_, rfl⟩
  refine wp_cutq R8 ?_ ?_
  · have H := h6
    apply wp_region_lit
    refine sm _ rfl hk rfl rfl rfl fun a hk => ?_
    refine sm _ rfl hk rfl rfl rfl fun a hk => ?_
    refine sv (.bool (decide (x1 ≤ x0))) hk rfl rfl rfl fun a hk => ?_
    refine sm _ rfl hk rfl rfl rfl fun a hk => ?_
    rcases cond_some H with ⟨c9, H⟩ | ⟨c9, H⟩
    · have hk := hk.lit 10 c9 rfl
      refine sm _ rfl hk rfl rfl rfl fun a hk => ?_
      refine sm _ rfl hk rfl rfl rfl fun a hk => ?_
      refine sv (.bool (decide (x0 ≤ x2))) hk rfl rfl rfl fun a hk => ?_
      refine sv (.bool (decide (x0 ≤ x2))) hk rfl rfl rfl fun a hk => ?_
      refine sa _ rfl hk rfl rfl rfl fun a hk => ?_
      show wpList _ _ _ [] _ _
      refine wpList_nil ?_
      obtain rfl := Option.some.inj H
      show R8 _ _
      rw [hR8]
      exact ⟨(decide (x0 ≤ x2)), rfl, (hk.c 6 rfl hk.k), (hs.pick [] rfl)⟩
    · have hk := hk.lit 10 c9 rfl
      refine sk hk rfl rfl rfl fun a hk => ?_
      refine sk hk rfl rfl rfl fun a hk => ?_
      refine sk hk rfl rfl rfl fun a hk => ?_
      refine sv (.bool false) hk rfl rfl rfl fun a hk => ?_
      refine sa _ rfl hk rfl rfl rfl fun a hk => ?_
      show wpList _ _ _ [] _ _
      refine wpList_nil ?_
      obtain rfl := Option.some.inj H
      show R8 _ _
      rw [hR8]
      exact ⟨false, rfl, (hk.c 6 rfl hk.k), (hs.pick [] rfl)⟩
  · intro a w hR0
    rw [hR8] at hR0
    obtain ⟨u4, rfl, hk, hs⟩ := hR0
    have H := HL7
    try dsimp only at H
    refine hK2 _ _ ?_
    refine wp_ret ?_
    obtain rfl := Option.some.inj H
    exact fin hk _ [(.bool u4)] rfl ⟨rfl, trivial⟩ ⟨rfl, (hs.pick [] rfl).dnil⟩

noncomputable def spec_l08Leaves.s0 (l0 : List Int) (u6 : Int) : Option ((Int) ⊕ Ex (Unit) (Bool)) :=
  (bif (decide (u6 < (l0.length : Int))) then (if 0 ≤ u6 ∧ u6 < (l0.length : Int) then ((spec_l01In.f (l0.getD u6.toNat 0) 0 7).bind fun y24 => (bif (!y24) then (some (.inr (.ret false))) else (some (.inl (w64 (u6 + 1)))))) else none) else (some (.inr (.out ()))))
noncomputable def spec_l08Leaves.f (l0 : List Int) : Option (Bool) :=
  ((loopO (fun s => spec_l08Leaves.s0 l0 s) 0).bind fun o => match o with | .out _ => (some true) | .ret r => (some r))
set_option maxRecDepth 100000 in
set_option maxHeartbeats 0 in
theorem spec_l08Leaves_t (w0 : World) (A0_ : Option Addr) (p0_ : Nat) (l0 : List Int) (k0_ : Chunk) (v0_ : View (Lay.int .i64) A0_ p0_ l0 k0_) (w0_ : Has w0 k0_) (r : Bool) (H : spec_l08Leaves.f l0 = some r) :
    Calls Try.prog 111 #[.slice A0_ l0.length p0_] w0 (Ret (fun v w => v = .bool r ∧ Sat [] w0 w [] [])) := by
  have hs : Sat [] w0 w0 [(1, k0_)] [] := Sat.init w0 [(1, k0_)] [] (by simp only [List.mem_cons, List.not_mem_nil, or_false]; rintro x (rfl) <;> assumption) (by simp) List.nodup_nil (by simp [blks])
  unfold spec_l08Leaves.f at H
  refine enter Try.func111 rfl Try.ntmps111 rfl fun a hk => ?_
  apply wp_seq_k; intro K1 hK1
  apply wp_region_lit
  refine sa _ rfl hk rfl rfl rfl fun a hk => ?_
  show wpList _ _ _ [] _ _
  refine wpList_nil ?_
  refine hK1 _ _ ?_
  apply wp_seq_k; intro K2 hK2
  apply wp_seq_k; intro K3 hK3
  apply wp_region_lit
  refine sa _ rfl hk rfl rfl rfl fun a hk => ?_
  show wpList _ _ _ [] _ _
  refine wpList_nil ?_
  refine hK3 _ _ ?_
  obtain ⟨o7, h8, HL9⟩ := bind_some H
  clear H
  obtain ⟨R10, hR10⟩ : ∃ R : Act → World → Prop, R = fun a w => o7 = .out () ∧ Kn [] 16 a ∧ Sat [] w0 w [(1, k0_)] [] := ⟨_, rfl⟩
  refine wp_cutq R10 ?_ ?_
  · refine wp_block ?_
    obtain ⟨fu12, h8⟩ := loopO_some h8
    obtain ⟨I11, hI11⟩ : ∃ I : Nat → Act → World → Prop, I = fun fu a w => ∃ (u6 : Int), loopN (fun s => spec_l08Leaves.s0 l0 s) fu u6 = some o7 ∧ Kn [(0, (.slice A0_ l0.length p0_)), (3, (.int .i64 u6))] 16 a ∧ Sat [] w0 w [(1, k0_)] [] := ⟨_, rfl⟩
    refine wp_loop_ghost I11 fu12 ?_ ?_
    · rw [hI11]
      exact ⟨0, h8, (hk.c 0 rfl (hk.c 3 rfl hk.k)), (hs.pick [] rfl)⟩
    · clear h8 hk hs
      intro fu12 a w hI0
      rw [hI11] at hI0
      obtain ⟨u6, hi, hk, hs⟩ := hI0
      obtain ⟨x13, H, h14⟩ := loop_round hi
      try dsimp only at H
      unfold spec_l08Leaves.s0 at H
      apply wp_seq_k; intro K15 hK15
      apply wp_seq_k; intro K16 hK16
      apply wp_region_lit
      refine sm _ rfl hk rfl rfl rfl fun a hk => ?_
      refine sm _ rfl hk rfl rfl rfl fun a hk => ?_
      refine sle rfl hk rfl rfl rfl un31 fun a hk => ?_
      refine sv (.bool (decide (u6 < (l0.length : Int)))) hk rfl rfl rfl fun a hk => ?_
      show wpList _ _ _ [] _ _
      refine wpList_nil ?_
      refine hK16 _ _ ?_
      rcases cond_some H with ⟨c17, H⟩ | ⟨c17, H⟩
      · have hk := hk.lit 7 c17 rfl
        refine cnd_true hk rfl rfl ?_
        refine wp_skip ?_
        refine hK15 _ _ ?_
        apply wp_seq_k; intro K18 hK18
        refine wp_block ?_
        apply wp_seq_k; intro K19 hK19
        apply wp_region_lit
        refine sm _ rfl hk rfl rfl rfl fun a hk => ?_
        refine sm _ rfl hk rfl rfl rfl fun a hk => ?_
        rcases ite_some H with ⟨c20, H⟩ | ⟨_, H⟩
        rotate_left
        · cases H
        obtain ⟨b21, q22, hAc20⟩ := (v0_).some_ u6 c20.1 c20.2
        refine si rfl hk rfl rfl rfl rfl un31 sz3 c20.1 c20.2 hAc20 fun a hk => ?_
        obtain ⟨_, rfl, e23⟩ := (v0_).at_ 0 u6 c20.1 c20.2
        refine sl (v := (.int .i64 (l0.getD u6.toNat 0))) rfl hk rfl rfl rfl ag3 ((e23 0 _ rfl).cell (hs.hasD (k := 1) rfl)) fun a hk => ?_
        obtain ⟨y24, h25, H⟩ := bind_some H
        refine sc rfl en81 hk rfl rfl rfl (spec_l01In_t _ (l0.getD u6.toNat 0) 0 7 _ h25) ?_
        rintro _ w ⟨rfl, hG⟩ a hk
        have hs := hs.call0 hG
        refine sv (.bool (!y24)) hk rfl rfl rfl fun a hk => ?_
        show wpList _ _ _ [] _ _
        refine wpList_nil ?_
        refine hK19 _ _ ?_
        rcases cond_some H with ⟨c26, H⟩ | ⟨c26, H⟩
        · have hk := hk.lit 15 c26 rfl
          refine cnd_true hk rfl rfl ?_
          apply wp_seq_k; intro K27 hK27
          apply wp_region_lit
          refine sa _ rfl hk rfl rfl rfl fun a hk => ?_
          show wpList _ _ _ [] _ _
          refine wpList_nil ?_
          refine hK27 _ _ ?_
          refine wp_ret ?_
          obtain rfl := Option.some.inj H
          have ho7 := h14
          try dsimp only at ho7
          subst ho7
          have H := HL9
          try dsimp only at H
          obtain rfl := Option.some.inj H
          exact fin hk _ [(.bool false)] rfl ⟨rfl, trivial⟩ ⟨rfl, (hs.pick [] rfl).dnil⟩
        · have hk := hk.lit 15 c26 rfl
          refine cnd_false hk rfl rfl ?_
          refine wp_skip ?_
          refine hK18 _ _ ?_
          apply wp_region_lit
          refine sm _ rfl hk rfl rfl rfl fun a hk => ?_
          refine sv (.int .i64 (w64 (u6 + 1))) hk rfl rfl rfl fun a hk => ?_
          refine sa _ rfl hk rfl rfl rfl fun a hk => ?_
          show wpList _ _ _ [] _ _
          refine wpList_nil ?_
          obtain rfl := Option.some.inj H
          obtain ⟨m28, hmm28, h14⟩ := h14
          show ∃ n', n' < _ ∧ I11 n' _ _
          refine ⟨m28, hmm28, ?_⟩
          rw [hI11]
          exact ⟨(w64 (u6 + 1)), h14, (hk.c 0 rfl (hk.c 3 rfl hk.k)), (hs.pick [] rfl)⟩
      · have hk := hk.lit 7 c17 rfl
        refine cnd_false hk rfl rfl ?_
        refine wp_exit ?_
        obtain rfl := Option.some.inj H
        show R10 _ _
        rw [hR10]
        exact ⟨h14.symm, hk.k, (hs.pick [] rfl)⟩
  · intro a w hR0
    rw [hR10] at hR0
    obtain ⟨rfl, hk, hs⟩ := hR0
    have H := HL9
    try dsimp only at H
    refine hK2 _ _ ?_
    apply wp_seq_k; intro K29 hK29
    apply wp_region_lit
    refine sa _ rfl hk rfl rfl rfl fun a hk => ?_
    show wpList _ _ _ [] _ _
    refine wpList_nil ?_
    refine hK29 _ _ ?_
    refine wp_ret ?_
    obtain rfl := Option.some.inj H
    exact fin hk _ [(.bool true)] rfl ⟨rfl, trivial⟩ ⟨rfl, (hs.pick [] rfl).dnil⟩

noncomputable def spec_l11Draws.f (l0 : List Int) (x1 : Int) : Option (Int) :=
  (bif (decide ((l0.length : Int) > 4096)) then (some 2) else (bif ((l0.length : Int) != x1) then (some 13) else ((spec_l08Leaves.f l0).bind fun y10 => (bif (!y10) then (some 4) else (some 0)))))
set_option maxRecDepth 100000 in
set_option maxHeartbeats 0 in
theorem spec_l11Draws_t (w0 : World) (A0_ : Option Addr) (p0_ : Nat) (l0 : List Int) (k0_ : Chunk) (v0_ : View (Lay.int .i64) A0_ p0_ l0 k0_) (w0_ : Has w0 k0_) (x1 : Int) (r : Int) (H : spec_l11Draws.f l0 x1 = some r) :
    Calls Try.prog 61 #[.slice A0_ l0.length p0_, .int .i64 x1] w0 (Ret (fun v w => v = .int .i64 r ∧ Sat [] w0 w [] [])) := by
  have hs : Sat [] w0 w0 [(1, k0_)] [] := Sat.init w0 [(1, k0_)] [] (by simp only [List.mem_cons, List.not_mem_nil, or_false]; rintro x (rfl) <;> assumption) (by simp) List.nodup_nil (by simp [blks])
  unfold spec_l11Draws.f at H
  refine enter Try.func61 rfl Try.ntmps61 rfl fun a hk => ?_
  apply wp_seq_k; intro K1 hK1
  apply wp_region_lit
  refine sa _ rfl hk rfl rfl rfl fun a hk => ?_
  show wpList _ _ _ [] _ _
  refine wpList_nil ?_
  refine hK1 _ _ ?_
  apply wp_seq_k; intro K2 hK2
  refine wp_block ?_
  apply wp_seq_k; intro K3 hK3
  apply wp_region_lit
  refine sm _ rfl hk rfl rfl rfl fun a hk => ?_
  refine sle rfl hk rfl rfl rfl un31 fun a hk => ?_
  refine sv (.bool (decide ((l0.length : Int) > 4096))) hk rfl rfl rfl fun a hk => ?_
  refine sa _ rfl hk rfl rfl rfl fun a hk => ?_
  show wpList _ _ _ [] _ _
  refine wpList_nil ?_
  refine hK3 _ _ ?_
  rcases cond_some H with ⟨c4, H⟩ | ⟨c4, H⟩
  · have hk := hk.lit 5 c4 rfl
    refine cnd_true hk rfl rfl ?_
    apply wp_seq_k; intro K5 hK5
    apply wp_region_lit
    refine sa _ rfl hk rfl rfl rfl fun a hk => ?_
    show wpList _ _ _ [] _ _
    refine wpList_nil ?_
    refine hK5 _ _ ?_
    refine wp_ret ?_
    obtain rfl := Option.some.inj H
    exact fin hk _ [(.int .i64 2)] rfl ⟨rfl, trivial⟩ ⟨rfl, (hs.pick [] rfl).dnil⟩
  · have hk := hk.lit 5 c4 rfl
    refine cnd_false hk rfl rfl ?_
    apply wp_seq_k; intro K6 hK6
    apply wp_region_lit
    refine sm _ rfl hk rfl rfl rfl fun a hk => ?_
    refine sle rfl hk rfl rfl rfl un31 fun a hk => ?_
    refine sm _ rfl hk rfl rfl rfl fun a hk => ?_
    refine sv (.bool ((l0.length : Int) != x1)) hk rfl rfl rfl fun a hk => ?_
    refine sa _ rfl hk rfl rfl rfl fun a hk => ?_
    show wpList _ _ _ [] _ _
    refine wpList_nil ?_
    refine hK6 _ _ ?_
    rcases cond_some H with ⟨c7, H⟩ | ⟨c7, H⟩
    · have hk := hk.lit 9 c7 rfl
      refine cnd_true hk rfl rfl ?_
      apply wp_seq_k; intro K8 hK8
      apply wp_region_lit
      refine sa _ rfl hk rfl rfl rfl fun a hk => ?_
      show wpList _ _ _ [] _ _
      refine wpList_nil ?_
      refine hK8 _ _ ?_
      refine wp_ret ?_
      obtain rfl := Option.some.inj H
      exact fin hk _ [(.int .i64 13)] rfl ⟨rfl, trivial⟩ ⟨rfl, (hs.pick [] rfl).dnil⟩
    · have hk := hk.lit 9 c7 rfl
      refine cnd_false hk rfl rfl ?_
      apply wp_seq_k; intro K9 hK9
      apply wp_region_lit
      refine sm _ rfl hk rfl rfl rfl fun a hk => ?_
      obtain ⟨y10, h11, H⟩ := bind_some H
      refine sc rfl en111 hk rfl rfl rfl (spec_l08Leaves_t _ A0_ p0_ l0 _ v0_ (hs.hasD (k := 1) rfl) _ h11) ?_
      rintro _ w ⟨rfl, hG⟩ a hk
      have hs := hs.call0 hG
      refine sv (.bool (!y10)) hk rfl rfl rfl fun a hk => ?_
      refine sa _ rfl hk rfl rfl rfl fun a hk => ?_
      show wpList _ _ _ [] _ _
      refine wpList_nil ?_
      refine hK9 _ _ ?_
      rcases cond_some H with ⟨c12, H⟩ | ⟨c12, H⟩
      · have hk := hk.lit 14 c12 rfl
        refine cnd_true hk rfl rfl ?_
        apply wp_seq_k; intro K13 hK13
        apply wp_region_lit
        refine sa _ rfl hk rfl rfl rfl fun a hk => ?_
        show wpList _ _ _ [] _ _
        refine wpList_nil ?_
        refine hK13 _ _ ?_
        refine wp_ret ?_
        obtain rfl := Option.some.inj H
        exact fin hk _ [(.int .i64 4)] rfl ⟨rfl, trivial⟩ ⟨rfl, (hs.pick [] rfl).dnil⟩
      · have hk := hk.lit 14 c12 rfl
        refine cnd_false hk rfl rfl ?_
        refine wp_skip ?_
        refine hK2 _ _ ?_
        apply wp_seq_k; intro K14 hK14
        apply wp_region_lit
        refine sa _ rfl hk rfl rfl rfl fun a hk => ?_
        show wpList _ _ _ [] _ _
        refine wpList_nil ?_
        refine hK14 _ _ ?_
        refine wp_ret ?_
        obtain rfl := Option.some.inj H
        exact fin hk _ [(.int .i64 0)] rfl ⟨rfl, trivial⟩ ⟨rfl, (hs.pick [] rfl).dnil⟩

noncomputable def spec_OpOK.f (x0 : S_Op) : Option (Bool) :=
  ((((spec_l01In.f x0.Kind 1 6).bind fun y11 => (bif (!y11) then (some true) else ((spec_l01In.f x0.Key 1 9999).bind fun y14 => (some (!y14))))) : Option (Bool)).bind fun u6 => (bif u6 then (some false) else (((bif (x0.Kind == 1) then (some true) else (some (x0.Kind == 3))) : Option (Bool)).bind fun u23 => (bif u23 then (some (x0.Value == 0)) else (bif (x0.Kind == 6) then ((spec_l01In.f x0.Value 1 4).bind fun y34 => (some y34)) else ((spec_l01In.f x0.Value 0 999999).bind fun y37 => (some y37)))))))
set_option maxRecDepth 100000 in
set_option maxHeartbeats 0 in
theorem spec_OpOK_t (w0 : World) (x0 : S_Op) (r : Bool) (H : spec_OpOK.f x0 = some r) :
    Calls Try.prog 152 #[.agg #[.int .i64 x0.Kind, .int .i64 x0.Key, .int .i64 x0.Value]] w0 (Ret (fun v w => v = .bool r ∧ Sat [] w0 w [] [])) := by
  have hs : Sat [] w0 w0 [] [] := Sat.init w0 [] [] (by simp) (by simp) List.nodup_nil (by simp [blks])
  unfold spec_OpOK.f at H
  refine enter Try.func152 rfl Try.ntmps152 rfl fun a hk => ?_
  apply wp_seq_k; intro K1 hK1
  apply wp_region_lit
  refine sbx 1 hs rfl hk rfl rfl rfl rfl fun b2 w a hk hs => ?_
  refine sa _ rfl hk rfl rfl rfl fun a hk => ?_
  show wpList _ _ _ [] _ _
  refine wpList_nil ?_
  refine hK1 _ _ ?_
  apply wp_seq_k; intro K3 hK3
  apply wp_seq_k; intro K4 hK4
  obtain ⟨o7, h8, HL9⟩ := bind_some H
  clear H
  obtain ⟨R10, hR10⟩ : ∃ R : Act → World → Prop, R = fun a w => ∃ (u6 : Bool), u6 = o7 ∧ Kn [(1, (.pointer (some ⟨b2, 0, none⟩))), (12, (.bool u6))] 29 a ∧ Sat [] w0 w [] [(1, [(b2, .cells #[.int .i64 x0.Kind, .int .i64 x0.Key, .int .i64 x0.Value] 135 (0, 0))])] := ⟨_, rfl⟩
  refine wp_cutq R10 ?_ ?_
  · have H := h8
    apply wp_region_lit
    refine sf ⟨b2, 0, none⟩ rfl hk rfl rfl rfl fd135_0 rfl fun a hk => ?_
    refine sl rfl hk rfl rfl rfl ag3 (box_cell hs (k := 1) rfl rfl) fun a hk => ?_
    obtain ⟨y11, h12, H⟩ := bind_some H
    refine sc rfl en81 hk rfl rfl rfl (spec_l01In_t _ x0.Kind 1 6 _ h12) ?_
    rintro _ w ⟨rfl, hG⟩ a hk
    have hs := hs.call0 hG
    refine sv (.bool (!y11)) hk rfl rfl rfl fun a hk => ?_
    refine sm _ rfl hk rfl rfl rfl fun a hk => ?_
    rcases cond_some H with ⟨c13, H⟩ | ⟨c13, H⟩
    · have hk := hk.lit 7 c13 rfl
      refine sk hk rfl rfl rfl fun a hk => ?_
      refine sk hk rfl rfl rfl fun a hk => ?_
      refine sk hk rfl rfl rfl fun a hk => ?_
      refine sk hk rfl rfl rfl fun a hk => ?_
      refine sv (.bool true) hk rfl rfl rfl fun a hk => ?_
      show wpList _ _ _ [] _ _
      refine wpList_nil ?_
      obtain rfl := Option.some.inj H
      show R10 _ _
      rw [hR10]
      exact ⟨true, rfl, (hk.c 1 rfl (hk.c 12 rfl hk.k)), (hs.pick [(1, 1)] rfl)⟩
    · have hk := hk.lit 7 c13 rfl
      refine sf ⟨b2, 1, none⟩ rfl hk rfl rfl rfl fd135_1 rfl fun a hk => ?_
      refine sl rfl hk rfl rfl rfl ag3 (box_cell hs (k := 1) rfl rfl) fun a hk => ?_
      obtain ⟨y14, h15, H⟩ := bind_some H
      refine sc rfl en81 hk rfl rfl rfl (spec_l01In_t _ x0.Key 1 9999 _ h15) ?_
      rintro _ w ⟨rfl, hG⟩ a hk
      have hs := hs.call0 hG
      refine sv (.bool (!y14)) hk rfl rfl rfl fun a hk => ?_
      refine sv (.bool (!y14)) hk rfl rfl rfl fun a hk => ?_
      show wpList _ _ _ [] _ _
      refine wpList_nil ?_
      obtain rfl := Option.some.inj H
      show R10 _ _
      rw [hR10]
      exact ⟨(!y14), rfl, (hk.c 1 rfl (hk.c 12 rfl hk.k)), (hs.pick [(1, 1)] rfl)⟩
  · intro a w hR0
    rw [hR10] at hR0
    obtain ⟨u6, rfl, hk, hs⟩ := hR0
    have H := HL9
    try dsimp only at H
    refine hK4 _ _ ?_
    rcases cond_some H with ⟨c16, H⟩ | ⟨c16, H⟩
    · have hk := hk.lit 12 c16 rfl
      refine cnd_true hk rfl rfl ?_
      apply wp_seq_k; intro K17 hK17
      apply wp_region_lit
      refine sa _ rfl hk rfl rfl rfl fun a hk => ?_
      show wpList _ _ _ [] _ _
      refine wpList_nil ?_
      refine hK17 _ _ ?_
      refine wp_ret ?_
      obtain rfl := Option.some.inj H
      exact fin hk _ [(.bool false)] rfl ⟨rfl, trivial⟩ ⟨rfl, (hs.pick [] rfl).dnil⟩
    · have hk := hk.lit 12 c16 rfl
      refine cnd_false hk rfl rfl ?_
      refine wp_skip ?_
      refine hK3 _ _ ?_
      apply wp_seq_k; intro K18 hK18
      apply wp_seq_k; intro K19 hK19
      apply wp_region_lit
      refine sf ⟨b2, 0, none⟩ rfl hk rfl rfl rfl fd135_0 rfl fun a hk => ?_
      refine sl rfl hk rfl rfl rfl ag3 (box_cell hs (k := 1) rfl rfl) fun a hk => ?_
      show wpList _ _ _ [] _ _
      refine wpList_nil ?_
      refine hK19 _ _ ?_
      refine wp_block ?_
      apply wp_seq_k; intro K20 hK20
      apply wp_seq_k; intro K21 hK21
      apply wp_region_lit
      refine sv (.bool (x0.Kind == 1)) hk rfl rfl rfl fun a hk => ?_
      refine sa _ rfl hk rfl rfl rfl fun a hk => ?_
      show wpList _ _ _ [] _ _
      refine wpList_nil ?_
      refine hK21 _ _ ?_
      obtain ⟨o24, h25, HL26⟩ := bind_some H
      clear H
      obtain ⟨R27, hR27⟩ : ∃ R : Act → World → Prop, R = fun a w => ∃ (u23 : Bool), u23 = o24 ∧ Kn [(1, (.pointer (some ⟨b2, 0, none⟩))), (14, (.int .i64 x0.Kind)), (15, (.bool u23))] 29 a ∧ Sat [] w0 w [] [(1, [(b2, .cells #[.int .i64 x0.Kind, .int .i64 x0.Key, .int .i64 x0.Value] 135 (0, 0))])] := ⟨_, rfl⟩
      refine wp_cutq R27 ?_ ?_
      · have H := h25
        rcases cond_some H with ⟨c28, H⟩ | ⟨c28, H⟩
        · have hk := hk.lit 15 c28 rfl
          refine cnd_true hk rfl rfl ?_
          refine wp_skip ?_
          obtain rfl := Option.some.inj H
          show R27 _ _
          rw [hR27]
          exact ⟨true, rfl, (hk.c 1 rfl (hk.c 14 rfl (hk.c 15 rfl hk.k))), (hs.pick [(1, 1)] rfl)⟩
        · have hk := hk.lit 15 c28 rfl
          refine cnd_false hk rfl rfl ?_
          apply wp_region_lit
          refine sv (.bool (x0.Kind == 3)) hk rfl rfl rfl fun a hk => ?_
          refine sa _ rfl hk rfl rfl rfl fun a hk => ?_
          show wpList _ _ _ [] _ _
          refine wpList_nil ?_
          obtain rfl := Option.some.inj H
          show R27 _ _
          rw [hR27]
          exact ⟨(x0.Kind == 3), rfl, (hk.c 1 rfl (hk.c 14 rfl (hk.c 15 rfl hk.k))), (hs.pick [(1, 1)] rfl)⟩
      · intro a w hR0
        rw [hR27] at hR0
        obtain ⟨u23, rfl, hk, hs⟩ := hR0
        have H := HL26
        try dsimp only at H
        refine hK20 _ _ ?_
        rcases cond_some H with ⟨c29, H⟩ | ⟨c29, H⟩
        · have hk := hk.lit 15 c29 rfl
          refine cnd_true hk rfl rfl ?_
          apply wp_seq_k; intro K30 hK30
          apply wp_region_lit
          refine sf ⟨b2, 2, none⟩ rfl hk rfl rfl rfl fd135_2 rfl fun a hk => ?_
          refine sl rfl hk rfl rfl rfl ag3 (box_cell hs (k := 1) rfl rfl) fun a hk => ?_
          refine sv (.bool (x0.Value == 0)) hk rfl rfl rfl fun a hk => ?_
          refine sa _ rfl hk rfl rfl rfl fun a hk => ?_
          show wpList _ _ _ [] _ _
          refine wpList_nil ?_
          refine hK30 _ _ ?_
          refine wp_ret ?_
          obtain rfl := Option.some.inj H
          exact fin hk _ [(.bool (x0.Value == 0))] rfl ⟨rfl, trivial⟩ ⟨rfl, (hs.pick [] rfl).dnil⟩
        · have hk := hk.lit 15 c29 rfl
          refine cnd_false hk rfl rfl ?_
          apply wp_seq_k; intro K31 hK31
          apply wp_region_lit
          refine sv (.bool (x0.Kind == 6)) hk rfl rfl rfl fun a hk => ?_
          refine sa _ rfl hk rfl rfl rfl fun a hk => ?_
          show wpList _ _ _ [] _ _
          refine wpList_nil ?_
          refine hK31 _ _ ?_
          rcases cond_some H with ⟨c32, H⟩ | ⟨c32, H⟩
          · have hk := hk.lit 21 c32 rfl
            refine cnd_true hk rfl rfl ?_
            apply wp_seq_k; intro K33 hK33
            apply wp_region_lit
            refine sf ⟨b2, 2, none⟩ rfl hk rfl rfl rfl fd135_2 rfl fun a hk => ?_
            refine sl rfl hk rfl rfl rfl ag3 (box_cell hs (k := 1) rfl rfl) fun a hk => ?_
            obtain ⟨y34, h35, H⟩ := bind_some H
            refine sc rfl en81 hk rfl rfl rfl (spec_l01In_t _ x0.Value 1 4 _ h35) ?_
            rintro _ w ⟨rfl, hG⟩ a hk
            have hs := hs.call0 hG
            refine sa _ rfl hk rfl rfl rfl fun a hk => ?_
            show wpList _ _ _ [] _ _
            refine wpList_nil ?_
            refine hK33 _ _ ?_
            refine wp_ret ?_
            obtain rfl := Option.some.inj H
            exact fin hk _ [(.bool y34)] rfl ⟨rfl, trivial⟩ ⟨rfl, (hs.pick [] rfl).dnil⟩
          · have hk := hk.lit 21 c32 rfl
            refine cnd_false hk rfl rfl ?_
            refine wp_skip ?_
            refine hK18 _ _ ?_
            apply wp_seq_k; intro K36 hK36
            apply wp_region_lit
            refine sf ⟨b2, 2, none⟩ rfl hk rfl rfl rfl fd135_2 rfl fun a hk => ?_
            refine sl rfl hk rfl rfl rfl ag3 (box_cell hs (k := 1) rfl rfl) fun a hk => ?_
            obtain ⟨y37, h38, H⟩ := bind_some H
            refine sc rfl en81 hk rfl rfl rfl (spec_l01In_t _ x0.Value 0 999999 _ h38) ?_
            rintro _ w ⟨rfl, hG⟩ a hk
            have hs := hs.call0 hG
            refine sa _ rfl hk rfl rfl rfl fun a hk => ?_
            show wpList _ _ _ [] _ _
            refine wpList_nil ?_
            refine hK36 _ _ ?_
            refine wp_ret ?_
            obtain rfl := Option.some.inj H
            exact fin hk _ [(.bool y37)] rfl ⟨rfl, trivial⟩ ⟨rfl, (hs.pick [] rfl).dnil⟩

noncomputable def spec_l09Txn.s0 (x0 : S_Txn) (u7 : Int) : Option ((Int) ⊕ Ex (Unit) (Bool)) :=
  (bif (decide (u7 < (x0.Ops.length : Int))) then (if 0 ≤ u7 ∧ u7 < (x0.Ops.length : Int) then ((spec_OpOK.f (x0.Ops.getD u7.toNat z_Op)).bind fun y25 => (bif (!y25) then (some (.inr (.ret false))) else (some (.inl (w64 (u7 + 1)))))) else none) else (some (.inr (.out ()))))
noncomputable def spec_l09Txn.f (x0 : S_Txn) : Option (Bool) :=
  ((loopO (fun s => spec_l09Txn.s0 x0 s) 0).bind fun o => match o with | .out _ => ((spec_l01In.f (x0.Ops.length : Int) 1 4).bind fun y31 => (some y31)) | .ret r => (some r))
set_option maxRecDepth 100000 in
set_option maxHeartbeats 0 in
theorem spec_l09Txn_t (w0 : World) (x0 : S_Txn) (A0_0 : Option Addr) (p0_0 : Nat) (k0_0 : Chunk) (v0_0 : View L_Op A0_0 p0_0 x0.Ops k0_0) (w0_0 : Has w0 k0_0) (r : Bool) (H : spec_l09Txn.f x0 = some r) :
    Calls Try.prog 112 #[.agg #[.slice A0_0 x0.Ops.length p0_0]] w0 (Ret (fun v w => v = .bool r ∧ Sat [] w0 w [] [])) := by
  have hs : Sat [] w0 w0 [(1, k0_0)] [] := Sat.init w0 [(1, k0_0)] [] (by simp only [List.mem_cons, List.not_mem_nil, or_false]; rintro x (rfl) <;> assumption) (by simp) List.nodup_nil (by simp [blks])
  unfold spec_l09Txn.f at H
  refine enter Try.func112 rfl Try.ntmps112 rfl fun a hk => ?_
  apply wp_seq_k; intro K1 hK1
  apply wp_region_lit
  refine sbx 2 hs rfl hk rfl rfl rfl rfl fun b2 w a hk hs => ?_
  refine sa _ rfl hk rfl rfl rfl fun a hk => ?_
  show wpList _ _ _ [] _ _
  refine wpList_nil ?_
  refine hK1 _ _ ?_
  apply wp_seq_k; intro K3 hK3
  apply wp_seq_k; intro K4 hK4
  apply wp_region_lit
  refine sa _ rfl hk rfl rfl rfl fun a hk => ?_
  show wpList _ _ _ [] _ _
  refine wpList_nil ?_
  refine hK4 _ _ ?_
  obtain ⟨o8, h9, HL10⟩ := bind_some H
  clear H
  obtain ⟨R11, hR11⟩ : ∃ R : Act → World → Prop, R = fun a w => o8 = .out () ∧ Kn [(1, (.pointer (some ⟨b2, 0, none⟩)))] 22 a ∧ Sat [] w0 w [(1, k0_0)] [(2, [(b2, .cells #[.slice A0_0 x0.Ops.length p0_0] 95 (0, 0))])] := ⟨_, rfl⟩
  refine wp_cutq R11 ?_ ?_
  · refine wp_block ?_
    obtain ⟨fu13, h9⟩ := loopO_some h9
    obtain ⟨I12, hI12⟩ : ∃ I : Nat → Act → World → Prop, I = fun fu a w => ∃ (u7 : Int), loopN (fun s => spec_l09Txn.s0 x0 s) fu u7 = some o8 ∧ Kn [(1, (.pointer (some ⟨b2, 0, none⟩))), (3, (.int .i64 u7))] 22 a ∧ Sat [] w0 w [(1, k0_0)] [(2, [(b2, .cells #[.slice A0_0 x0.Ops.length p0_0] 95 (0, 0))])] := ⟨_, rfl⟩
    refine wp_loop_ghost I12 fu13 ?_ ?_
    · rw [hI12]
      exact ⟨0, h9, (hk.c 1 rfl (hk.c 3 rfl hk.k)), (hs.pick [(2, 2)] rfl)⟩
    · clear h9 hk hs
      intro fu13 a w hI0
      rw [hI12] at hI0
      obtain ⟨u7, hi, hk, hs⟩ := hI0
      obtain ⟨x14, H, h15⟩ := loop_round hi
      try dsimp only at H
      unfold spec_l09Txn.s0 at H
      apply wp_seq_k; intro K16 hK16
      apply wp_seq_k; intro K17 hK17
      apply wp_region_lit
      refine sm _ rfl hk rfl rfl rfl fun a hk => ?_
      refine sf ⟨b2, 0, none⟩ rfl hk rfl rfl rfl fd95_0 rfl fun a hk => ?_
      refine sl rfl hk rfl rfl rfl ag93 (box_cell hs (k := 2) rfl rfl) fun a hk => ?_
      refine sle rfl hk rfl rfl rfl un93 fun a hk => ?_
      refine sv (.bool (decide (u7 < (x0.Ops.length : Int)))) hk rfl rfl rfl fun a hk => ?_
      show wpList _ _ _ [] _ _
      refine wpList_nil ?_
      refine hK17 _ _ ?_
      rcases cond_some H with ⟨c18, H⟩ | ⟨c18, H⟩
      · have hk := hk.lit 8 c18 rfl
        refine cnd_true hk rfl rfl ?_
        refine wp_skip ?_
        refine hK16 _ _ ?_
        apply wp_seq_k; intro K19 hK19
        refine wp_block ?_
        apply wp_seq_k; intro K20 hK20
        apply wp_region_lit
        refine sf ⟨b2, 0, none⟩ rfl hk rfl rfl rfl fd95_0 rfl fun a hk => ?_
        refine sl rfl hk rfl rfl rfl ag93 (box_cell hs (k := 2) rfl rfl) fun a hk => ?_
        refine sm _ rfl hk rfl rfl rfl fun a hk => ?_
        rcases ite_some H with ⟨c21, H⟩ | ⟨_, H⟩
        rotate_left
        · cases H
        obtain ⟨b22, q23, hAc21⟩ := (v0_0).some_ u7 c21.1 c21.2
        refine si rfl hk rfl rfl rfl rfl un93 sz135 c21.1 c21.2 hAc21 fun a hk => ?_
        obtain ⟨_, rfl, e24⟩ := (v0_0).at_ z_Op u7 c21.1 c21.2
        refine sln [.int .i64 ((x0.Ops.getD u7.toNat z_Op).Kind), .int .i64 ((x0.Ops.getD u7.toNat z_Op).Key), .int .i64 ((x0.Ops.getD u7.toNat z_Op).Value)] rfl hk rfl rfl rfl ag135 sz135 (cells_at e24 (hs.hasD (k := 1) rfl)) fun a hk => ?_
        obtain ⟨y25, h26, H⟩ := bind_some H
        refine sc rfl en152 hk rfl rfl rfl (spec_OpOK_t _ (x0.Ops.getD u7.toNat z_Op) _ h26) ?_
        rintro _ w ⟨rfl, hG⟩ a hk
        have hs := hs.call0 hG
        refine sv (.bool (!y25)) hk rfl rfl rfl fun a hk => ?_
        show wpList _ _ _ [] _ _
        refine wpList_nil ?_
        refine hK20 _ _ ?_
        rcases cond_some H with ⟨c27, H⟩ | ⟨c27, H⟩
        · have hk := hk.lit 17 c27 rfl
          refine cnd_true hk rfl rfl ?_
          apply wp_seq_k; intro K28 hK28
          apply wp_region_lit
          refine sa _ rfl hk rfl rfl rfl fun a hk => ?_
          show wpList _ _ _ [] _ _
          refine wpList_nil ?_
          refine hK28 _ _ ?_
          refine wp_ret ?_
          obtain rfl := Option.some.inj H
          have ho8 := h15
          try dsimp only at ho8
          subst ho8
          have H := HL10
          try dsimp only at H
          obtain rfl := Option.some.inj H
          exact fin hk _ [(.bool false)] rfl ⟨rfl, trivial⟩ ⟨rfl, (hs.pick [] rfl).dnil⟩
        · have hk := hk.lit 17 c27 rfl
          refine cnd_false hk rfl rfl ?_
          refine wp_skip ?_
          refine hK19 _ _ ?_
          apply wp_region_lit
          refine sm _ rfl hk rfl rfl rfl fun a hk => ?_
          refine sv (.int .i64 (w64 (u7 + 1))) hk rfl rfl rfl fun a hk => ?_
          refine sa _ rfl hk rfl rfl rfl fun a hk => ?_
          show wpList _ _ _ [] _ _
          refine wpList_nil ?_
          obtain rfl := Option.some.inj H
          obtain ⟨m29, hmm29, h15⟩ := h15
          show ∃ n', n' < _ ∧ I12 n' _ _
          refine ⟨m29, hmm29, ?_⟩
          rw [hI12]
          exact ⟨(w64 (u7 + 1)), h15, (hk.c 1 rfl (hk.c 3 rfl hk.k)), (hs.pick [(2, 2)] rfl)⟩
      · have hk := hk.lit 8 c18 rfl
        refine cnd_false hk rfl rfl ?_
        refine wp_exit ?_
        obtain rfl := Option.some.inj H
        show R11 _ _
        rw [hR11]
        exact ⟨h15.symm, (hk.c 1 rfl hk.k), (hs.pick [(2, 2)] rfl)⟩
  · intro a w hR0
    rw [hR11] at hR0
    obtain ⟨rfl, hk, hs⟩ := hR0
    have H := HL10
    try dsimp only at H
    refine hK3 _ _ ?_
    apply wp_seq_k; intro K30 hK30
    apply wp_region_lit
    refine sf ⟨b2, 0, none⟩ rfl hk rfl rfl rfl fd95_0 rfl fun a hk => ?_
    refine sl rfl hk rfl rfl rfl ag93 (box_cell hs (k := 2) rfl rfl) fun a hk => ?_
    refine sle rfl hk rfl rfl rfl un93 fun a hk => ?_
    obtain ⟨y31, h32, H⟩ := bind_some H
    refine sc rfl en81 hk rfl rfl rfl (spec_l01In_t _ (x0.Ops.length : Int) 1 4 _ h32) ?_
    rintro _ w ⟨rfl, hG⟩ a hk
    have hs := hs.call0 hG
    refine sa _ rfl hk rfl rfl rfl fun a hk => ?_
    show wpList _ _ _ [] _ _
    refine wpList_nil ?_
    refine hK30 _ _ ?_
    refine wp_ret ?_
    obtain rfl := Option.some.inj H
    exact fin hk _ [(.bool y31)] rfl ⟨rfl, trivial⟩ ⟨rfl, (hs.pick [] rfl).dnil⟩

noncomputable def spec_BatchOK.s0 (l0 : List S_Txn) (u16 : Int) : Option ((Int) ⊕ Ex (Unit) (Bool)) :=
  (bif (decide (u16 < (l0.length : Int))) then (if 0 ≤ u16 ∧ u16 < (l0.length : Int) then ((spec_l09Txn.f (l0.getD u16.toNat z_Txn)).bind fun y37 => (bif (!y37) then (some (.inr (.ret false))) else (some (.inl (w64 (u16 + 1)))))) else none) else (some (.inr (.out ()))))
noncomputable def spec_BatchOK.f (l0 : List S_Txn) : Option (Bool) :=
  (bif (decide ((l0.length : Int) > 4096)) then (some false) else ((spec_l01In.f (l0.length : Int) 1 2).bind fun y8 => (bif (!y8) then (some false) else ((loopO (fun s => spec_BatchOK.s0 l0 s) 0).bind fun o => match o with | .out _ => (some true) | .ret r => (some r)))))
set_option maxRecDepth 100000 in
set_option maxHeartbeats 0 in
theorem spec_BatchOK_t (w0 : World) (A0_ : Option Addr) (p0_ : Nat) (l0 : List S_Txn) (k0_ : Chunk) (v0_ : View L_impl_Txn A0_ p0_ l0 k0_) (w0_ : Has w0 k0_) (r : Bool) (H : spec_BatchOK.f l0 = some r) :
    Calls Try.prog 62 #[.slice A0_ l0.length p0_] w0 (Ret (fun v w => v = .bool r ∧ Sat [] w0 w [] [])) := by
  have hs : Sat [] w0 w0 [(1, k0_)] [] := Sat.init w0 [(1, k0_)] [] (by simp only [List.mem_cons, List.not_mem_nil, or_false]; rintro x (rfl) <;> assumption) (by simp) List.nodup_nil (by simp [blks])
  unfold spec_BatchOK.f at H
  refine enter Try.func62 rfl Try.ntmps62 rfl fun a hk => ?_
  apply wp_seq_k; intro K1 hK1
  apply wp_region_lit
  refine sa _ rfl hk rfl rfl rfl fun a hk => ?_
  show wpList _ _ _ [] _ _
  refine wpList_nil ?_
  refine hK1 _ _ ?_
  apply wp_seq_k; intro K2 hK2
  apply wp_seq_k; intro K3 hK3
  apply wp_region_lit
  refine sm _ rfl hk rfl rfl rfl fun a hk => ?_
  refine sle rfl hk rfl rfl rfl un34 fun a hk => ?_
  refine sv (.bool (decide ((l0.length : Int) > 4096))) hk rfl rfl rfl fun a hk => ?_
  show wpList _ _ _ [] _ _
  refine wpList_nil ?_
  refine hK3 _ _ ?_
  rcases cond_some H with ⟨c4, H⟩ | ⟨c4, H⟩
  · have hk := hk.lit 6 c4 rfl
    refine cnd_true hk rfl rfl ?_
    apply wp_seq_k; intro K5 hK5
    apply wp_region_lit
    refine sa _ rfl hk rfl rfl rfl fun a hk => ?_
    show wpList _ _ _ [] _ _
    refine wpList_nil ?_
    refine hK5 _ _ ?_
    refine wp_ret ?_
    obtain rfl := Option.some.inj H
    exact fin hk _ [(.bool false)] rfl ⟨rfl, trivial⟩ ⟨rfl, (hs.pick [] rfl).dnil⟩
  · have hk := hk.lit 6 c4 rfl
    refine cnd_false hk rfl rfl ?_
    refine wp_skip ?_
    refine hK2 _ _ ?_
    apply wp_seq_k; intro K6 hK6
    apply wp_seq_k; intro K7 hK7
    apply wp_region_lit
    refine sm _ rfl hk rfl rfl rfl fun a hk => ?_
    refine sle rfl hk rfl rfl rfl un34 fun a hk => ?_
    obtain ⟨y8, h9, H⟩ := bind_some H
    refine sc rfl en81 hk rfl rfl rfl (spec_l01In_t _ (l0.length : Int) 1 2 _ h9) ?_
    rintro _ w ⟨rfl, hG⟩ a hk
    have hs := hs.call0 hG
    refine sv (.bool (!y8)) hk rfl rfl rfl fun a hk => ?_
    show wpList _ _ _ [] _ _
    refine wpList_nil ?_
    refine hK7 _ _ ?_
    rcases cond_some H with ⟨c10, H⟩ | ⟨c10, H⟩
    · have hk := hk.lit 10 c10 rfl
      refine cnd_true hk rfl rfl ?_
      apply wp_seq_k; intro K11 hK11
      apply wp_region_lit
      refine sa _ rfl hk rfl rfl rfl fun a hk => ?_
      show wpList _ _ _ [] _ _
      refine wpList_nil ?_
      refine hK11 _ _ ?_
      refine wp_ret ?_
      obtain rfl := Option.some.inj H
      exact fin hk _ [(.bool false)] rfl ⟨rfl, trivial⟩ ⟨rfl, (hs.pick [] rfl).dnil⟩
    · have hk := hk.lit 10 c10 rfl
      refine cnd_false hk rfl rfl ?_
      refine wp_skip ?_
      refine hK6 _ _ ?_
      apply wp_seq_k; intro K12 hK12
      apply wp_seq_k; intro K13 hK13
      apply wp_region_lit
      refine sa _ rfl hk rfl rfl rfl fun a hk => ?_
      show wpList _ _ _ [] _ _
      refine wpList_nil ?_
      refine hK13 _ _ ?_
      obtain ⟨o17, h18, HL19⟩ := bind_some H
      clear H
      obtain ⟨R20, hR20⟩ : ∃ R : Act → World → Prop, R = fun a w => o17 = .out () ∧ Kn [] 23 a ∧ Sat [] w0 w [(1, k0_)] [] := ⟨_, rfl⟩
      refine wp_cutq R20 ?_ ?_
      · refine wp_block ?_
        obtain ⟨fu22, h18⟩ := loopO_some h18
        obtain ⟨I21, hI21⟩ : ∃ I : Nat → Act → World → Prop, I = fun fu a w => ∃ (u16 : Int), loopN (fun s => spec_BatchOK.s0 l0 s) fu u16 = some o17 ∧ Kn [(0, (.slice A0_ l0.length p0_)), (3, (.int .i64 u16))] 23 a ∧ Sat [] w0 w [(1, k0_)] [] := ⟨_, rfl⟩
        refine wp_loop_ghost I21 fu22 ?_ ?_
        · rw [hI21]
          exact ⟨0, h18, (hk.c 0 rfl (hk.c 3 rfl hk.k)), (hs.pick [] rfl)⟩
        · clear h18 hk hs
          intro fu22 a w hI0
          rw [hI21] at hI0
          obtain ⟨u16, hi, hk, hs⟩ := hI0
          obtain ⟨x23, H, h24⟩ := loop_round hi
          try dsimp only at H
          unfold spec_BatchOK.s0 at H
          apply wp_seq_k; intro K25 hK25
          apply wp_seq_k; intro K26 hK26
          apply wp_region_lit
          refine sm _ rfl hk rfl rfl rfl fun a hk => ?_
          refine sm _ rfl hk rfl rfl rfl fun a hk => ?_
          refine sle rfl hk rfl rfl rfl un34 fun a hk => ?_
          refine sv (.bool (decide (u16 < (l0.length : Int)))) hk rfl rfl rfl fun a hk => ?_
          show wpList _ _ _ [] _ _
          refine wpList_nil ?_
          refine hK26 _ _ ?_
          rcases cond_some H with ⟨c27, H⟩ | ⟨c27, H⟩
          · have hk := hk.lit 14 c27 rfl
            refine cnd_true hk rfl rfl ?_
            refine wp_skip ?_
            refine hK25 _ _ ?_
            apply wp_seq_k; intro K28 hK28
            refine wp_block ?_
            apply wp_seq_k; intro K29 hK29
            apply wp_region_lit
            refine sm _ rfl hk rfl rfl rfl fun a hk => ?_
            refine sm _ rfl hk rfl rfl rfl fun a hk => ?_
            rcases ite_some H with ⟨c30, H⟩ | ⟨_, H⟩
            rotate_left
            · cases H
            obtain ⟨b31, q32, hAc30⟩ := (v0_).some_ u16 c30.1 c30.2
            refine si rfl hk rfl rfl rfl rfl un34 sz95 c30.1 c30.2 hAc30 fun a hk => ?_
            obtain ⟨_, ⟨_, rfl, A34, p35, rfl, v36⟩, e33⟩ := (v0_).at_ z_Txn u16 c30.1 c30.2
            refine sln [.slice A34 ((l0.getD u16.toNat z_Txn).Ops).length p35] rfl hk rfl rfl rfl ag95 sz95 (cells_at e33 (hs.hasD (k := 1) rfl)) fun a hk => ?_
            obtain ⟨y37, h38, H⟩ := bind_some H
            refine sc rfl en112 hk rfl rfl rfl (spec_l09Txn_t _ (l0.getD u16.toNat z_Txn) A34 p35 _ v36 (hs.hasD (k := 1) rfl) _ h38) ?_
            rintro _ w ⟨rfl, hG⟩ a hk
            have hs := hs.call0 hG
            refine sv (.bool (!y37)) hk rfl rfl rfl fun a hk => ?_
            show wpList _ _ _ [] _ _
            refine wpList_nil ?_
            refine hK29 _ _ ?_
            rcases cond_some H with ⟨c39, H⟩ | ⟨c39, H⟩
            · have hk := hk.lit 22 c39 rfl
              refine cnd_true hk rfl rfl ?_
              apply wp_seq_k; intro K40 hK40
              apply wp_region_lit
              refine sa _ rfl hk rfl rfl rfl fun a hk => ?_
              show wpList _ _ _ [] _ _
              refine wpList_nil ?_
              refine hK40 _ _ ?_
              refine wp_ret ?_
              obtain rfl := Option.some.inj H
              have ho17 := h24
              try dsimp only at ho17
              subst ho17
              have H := HL19
              try dsimp only at H
              obtain rfl := Option.some.inj H
              exact fin hk _ [(.bool false)] rfl ⟨rfl, trivial⟩ ⟨rfl, (hs.pick [] rfl).dnil⟩
            · have hk := hk.lit 22 c39 rfl
              refine cnd_false hk rfl rfl ?_
              refine wp_skip ?_
              refine hK28 _ _ ?_
              apply wp_region_lit
              refine sm _ rfl hk rfl rfl rfl fun a hk => ?_
              refine sv (.int .i64 (w64 (u16 + 1))) hk rfl rfl rfl fun a hk => ?_
              refine sa _ rfl hk rfl rfl rfl fun a hk => ?_
              show wpList _ _ _ [] _ _
              refine wpList_nil ?_
              obtain rfl := Option.some.inj H
              obtain ⟨m41, hmm41, h24⟩ := h24
              show ∃ n', n' < _ ∧ I21 n' _ _
              refine ⟨m41, hmm41, ?_⟩
              rw [hI21]
              exact ⟨(w64 (u16 + 1)), h24, (hk.c 0 rfl (hk.c 3 rfl hk.k)), (hs.pick [] rfl)⟩
          · have hk := hk.lit 14 c27 rfl
            refine cnd_false hk rfl rfl ?_
            refine wp_exit ?_
            obtain rfl := Option.some.inj H
            show R20 _ _
            rw [hR20]
            exact ⟨h24.symm, hk.k, (hs.pick [] rfl)⟩
      · intro a w hR0
        rw [hR20] at hR0
        obtain ⟨rfl, hk, hs⟩ := hR0
        have H := HL19
        try dsimp only at H
        refine hK12 _ _ ?_
        apply wp_seq_k; intro K42 hK42
        apply wp_region_lit
        refine sa _ rfl hk rfl rfl rfl fun a hk => ?_
        show wpList _ _ _ [] _ _
        refine wpList_nil ?_
        refine hK42 _ _ ?_
        refine wp_ret ?_
        obtain rfl := Option.some.inj H
        exact fin hk _ [(.bool true)] rfl ⟨rfl, trivial⟩ ⟨rfl, (hs.pick [] rfl).dnil⟩

noncomputable def spec_l02Bytes.f (l0 : List Int) (x1 : Int) : Option ((List Int)) :=
  (if l0.length + ([(IntKind.wrap .u8 x1), (IntKind.wrap .u8 (Int.fdiv x1 (2 ^ 8))), (IntKind.wrap .u8 (Int.fdiv x1 (2 ^ 16))), (IntKind.wrap .u8 (Int.fdiv x1 (2 ^ 24)))]).length ≤ 1073741824 then (some (l0 ++ ([(IntKind.wrap .u8 x1), (IntKind.wrap .u8 (Int.fdiv x1 (2 ^ 8))), (IntKind.wrap .u8 (Int.fdiv x1 (2 ^ 16))), (IntKind.wrap .u8 (Int.fdiv x1 (2 ^ 24)))]))) else none)
set_option maxRecDepth 100000 in
set_option maxHeartbeats 0 in
theorem spec_l02Bytes_t (w0 : World) (A0_ : Option Addr) (p0_ : Nat) (l0 : List Int) (k0_ : Chunk) (v0_ : Own (Lay.int .u8) 5 A0_ p0_ l0 k0_) (x1 : Int) (hs0 : Sat (blks [(1, k0_)]) w0 w0 [] [(1, k0_)]) (r : (List Int)) (H : spec_l02Bytes.f l0 x1 = some r) :
    Calls Try.prog 176 #[.slice A0_ l0.length p0_, .int .i64 x1] w0 (Ret (fun v w => ∃ (A0 : Option Addr) (p0 : Nat) (k0 : Chunk), v = .slice A0 r.length p0 ∧ Own (Lay.int .u8) 5 A0 p0 r k0 ∧ Sat (blks [(1, k0_)]) w0 w [] [(0, k0)])) := by
  have hs := hs0
  unfold spec_l02Bytes.f at H
  refine enter Try.func176 rfl Try.ntmps176 rfl fun a hk => ?_
  apply wp_seq_k; intro K1 hK1
  apply wp_region_lit
  refine sa _ rfl hk rfl rfl rfl fun a hk => ?_
  show wpList _ _ _ [] _ _
  refine wpList_nil ?_
  refine hK1 _ _ ?_
  apply wp_seq_k; intro K2 hK2
  apply wp_region_lit
  refine sm _ rfl hk rfl rfl rfl fun a hk => ?_
  refine sm _ rfl hk rfl rfl rfl fun a hk => ?_
  refine scn rfl hk rfl rfl rfl un5 un3 fun a hk => ?_
  refine sm _ rfl hk rfl rfl rfl fun a hk => ?_
  refine sv (.int .i64 (Int.fdiv x1 (2 ^ 8))) hk rfl rfl rfl fun a hk => ?_
  refine scn rfl hk rfl rfl rfl un5 un3 fun a hk => ?_
  refine sm _ rfl hk rfl rfl rfl fun a hk => ?_
  refine sv (.int .i64 (Int.fdiv x1 (2 ^ 16))) hk rfl rfl rfl fun a hk => ?_
  refine scn rfl hk rfl rfl rfl un5 un3 fun a hk => ?_
  refine sm _ rfl hk rfl rfl rfl fun a hk => ?_
  refine sv (.int .i64 (Int.fdiv x1 (2 ^ 24))) hk rfl rfl rfl fun a hk => ?_
  refine scn rfl hk rfl rfl rfl un5 un3 fun a hk => ?_
  refine sbs (L := (Lay.int .u8)) (pv := [(0, (.int .u8 (IntKind.wrap .u8 x1))), (1, (.int .u8 (IntKind.wrap .u8 (Int.fdiv x1 (2 ^ 8))))), (2, (.int .u8 (IntKind.wrap .u8 (Int.fdiv x1 (2 ^ 16))))), (3, (.int .u8 (IntKind.wrap .u8 (Int.fdiv x1 (2 ^ 24)))))]) (xs := [(IntKind.wrap .u8 x1), (IntKind.wrap .u8 (Int.fdiv x1 (2 ^ 8))), (IntKind.wrap .u8 (Int.fdiv x1 (2 ^ 16))), (IntKind.wrap .u8 (Int.fdiv x1 (2 ^ 24)))]) (ess := [[.int .u8 (IntKind.wrap .u8 x1)], [.int .u8 (IntKind.wrap .u8 (Int.fdiv x1 (2 ^ 8)))], [.int .u8 (IntKind.wrap .u8 (Int.fdiv x1 (2 ^ 16)))], [.int .u8 (IntKind.wrap .u8 (Int.fdiv x1 (2 ^ 24)))]]) 2 hs rfl hk rfl rfl rfl un74 (bs5_0 (IntKind.wrap .u8 x1) (IntKind.wrap .u8 (Int.fdiv x1 (2 ^ 8))) (IntKind.wrap .u8 (Int.fdiv x1 (2 ^ 16))) (IntKind.wrap .u8 (Int.fdiv x1 (2 ^ 24)))) (AllOwn.cons0 ⟨rfl, rfl⟩ (AllOwn.cons0 ⟨rfl, rfl⟩ (AllOwn.cons0 ⟨rfl, rfl⟩ (AllOwn.cons0 ⟨rfl, rfl⟩ AllOwn.nil)))) rfl rfl rfl fun b3 k4 w a hk o5 hs => ?_
  rcases ite_some H with ⟨c6, H⟩ | ⟨_, H⟩
  rotate_left
  · cases H
  refine sap 1 (xs := l0) (ys := [(IntKind.wrap .u8 x1), (IntKind.wrap .u8 (Int.fdiv x1 (2 ^ 8))), (IntKind.wrap .u8 (Int.fdiv x1 (2 ^ 16))), (IntKind.wrap .u8 (Int.fdiv x1 (2 ^ 24)))]) (flat_flat : ((Lay.int .u8)).Flat) hs rfl v0_ o5.view (hs.hasG (k := 2) rfl) rfl hk rfl rfl rfl rfl rfl rfl un74 mk5 rfl rfl rfl c6 fun A7 p8 k9 w a hk o10 hs => ?_
  refine sa _ rfl hk rfl rfl rfl fun a hk => ?_
  show wpList _ _ _ [] _ _
  refine wpList_nil ?_
  refine hK2 _ _ ?_
  refine wp_ret ?_
  obtain rfl := Option.some.inj H
  exact fin hk _ [(.slice A7 (l0 ++ ([(IntKind.wrap .u8 x1), (IntKind.wrap .u8 (Int.fdiv x1 (2 ^ 8))), (IntKind.wrap .u8 (Int.fdiv x1 (2 ^ 16))), (IntKind.wrap .u8 (Int.fdiv x1 (2 ^ 24)))])).length p8)] rfl ⟨rfl, trivial⟩ ⟨A7, p8, _, rfl, o10, (hs.pick [(0, 1)] rfl).dnil⟩

noncomputable def spec_l06Ints.s0 (l0 : List Int) (u15 : List Int) (u14 : Int) : Option (((List Int) × Int) ⊕ Ex ((List Int)) (ByteArray)) :=
  (bif (decide (u14 < (l0.length : Int))) then (if 0 ≤ u14 ∧ u14 < (l0.length : Int) then ((spec_l02Bytes.f u15 (l0.getD u14.toNat 0)).bind fun y41 => (some (.inl (y41, (w64 (u14 + 1)))))) else none) else (some (.inr (.out u15))))
noncomputable def spec_l06Ints.f (l0 : List Int) : Option (ByteArray) :=
  ((loopO (fun s => spec_l06Ints.s0 l0 s.1 s.2) (([] : List Int), 0)).bind fun o => match o with | .out u20 => (some (strOfNums u20)) | .ret r => (some r))
set_option maxRecDepth 100000 in
set_option maxHeartbeats 0 in
theorem spec_l06Ints_t (w0 : World) (A0_ : Option Addr) (p0_ : Nat) (l0 : List Int) (k0_ : Chunk) (v0_ : View (Lay.int .i64) A0_ p0_ l0 k0_) (w0_ : Has w0 k0_) (r : ByteArray) (H : spec_l06Ints.f l0 = some r) :
    Calls Try.prog 149 #[.slice A0_ l0.length p0_] w0 (Ret (fun v w => v = .string r ∧ Sat [] w0 w [] [])) := by
  have hs : Sat [] w0 w0 [(1, k0_)] [] := Sat.init w0 [(1, k0_)] [] (by simp only [List.mem_cons, List.not_mem_nil, or_false]; rintro x (rfl) <;> assumption) (by simp) List.nodup_nil (by simp [blks])
  unfold spec_l06Ints.f at H
  refine enter Try.func149 rfl Try.ntmps149 rfl fun a hk => ?_
  apply wp_seq_k; intro K1 hK1
  apply wp_region_lit
  refine sa _ rfl hk rfl rfl rfl fun a hk => ?_
  show wpList _ _ _ [] _ _
  refine wpList_nil ?_
  refine hK1 _ _ ?_
  apply wp_seq_k; intro K2 hK2
  apply wp_region_lit
  refine sbs0 2 (Lay.int .u8) hs rfl hk rfl rfl un74 sz5 fun b3 k4 w a hk o5 hs => ?_
  refine sa _ rfl hk rfl rfl rfl fun a hk => ?_
  show wpList _ _ _ [] _ _
  refine wpList_nil ?_
  refine hK2 _ _ ?_
  apply wp_seq_k; intro K6 hK6
  apply wp_seq_k; intro K7 hK7
  apply wp_region_lit
  refine sa _ rfl hk rfl rfl rfl fun a hk => ?_
  show wpList _ _ _ [] _ _
  refine wpList_nil ?_
  refine hK7 _ _ ?_
  obtain ⟨o25, h26, HL27⟩ := bind_some H
  clear H
  obtain ⟨R28, hR28⟩ : ∃ R : Act → World → Prop, R = fun a w => ∃ (u20 : List Int) (A23 : Option Addr) (p24 : Nat) (k21 : Chunk), o25 = .out u20 ∧ Kn [(3, (.slice A23 u20.length p24))] 20 a ∧ Sat [] w0 w [(1, k0_)] [(2, k21)] ∧ Own (Lay.int .u8) 5 A23 p24 u20 k21 := ⟨_, rfl⟩
  refine wp_cutq R28 ?_ ?_
  · refine wp_block ?_
    obtain ⟨fu30, h26⟩ := loopO_some h26
    obtain ⟨I29, hI29⟩ : ∃ I : Nat → Act → World → Prop, I = fun fu a w => ∃ (u15 : List Int) (u14 : Int) (A18 : Option Addr) (p19 : Nat) (k16 : Chunk), loopN (fun s => spec_l06Ints.s0 l0 s.1 s.2) fu (u15, u14) = some o25 ∧ Kn [(0, (.slice A0_ l0.length p0_)), (3, (.slice A18 u15.length p19)), (4, (.int .i64 u14))] 20 a ∧ Sat [] w0 w [(1, k0_)] [(2, k16)] ∧ Own (Lay.int .u8) 5 A18 p19 u15 k16 := ⟨_, rfl⟩
    refine wp_loop_ghost I29 fu30 ?_ ?_
    · rw [hI29]
      exact ⟨([] : List Int), 0, (some ⟨b3, 0, none⟩), 0, _, h26, (hk.c 0 rfl (hk.c 3 rfl (hk.c 4 rfl hk.k))), (hs.pick [(2, 2)] rfl), o5⟩
    · clear h26 hk hs
      intro fu30 a w hI0
      rw [hI29] at hI0
      obtain ⟨u15, u14, A18, p19, k16, hi, hk, hs, o17⟩ := hI0
      obtain ⟨x31, H, h32⟩ := loop_round hi
      try dsimp only at H
      unfold spec_l06Ints.s0 at H
      apply wp_seq_k; intro K33 hK33
      apply wp_seq_k; intro K34 hK34
      apply wp_region_lit
      refine sm _ rfl hk rfl rfl rfl fun a hk => ?_
      refine sm _ rfl hk rfl rfl rfl fun a hk => ?_
      refine sle rfl hk rfl rfl rfl un31 fun a hk => ?_
      refine sv (.bool (decide (u14 < (l0.length : Int)))) hk rfl rfl rfl fun a hk => ?_
      show wpList _ _ _ [] _ _
      refine wpList_nil ?_
      refine hK34 _ _ ?_
      rcases cond_some H with ⟨c35, H⟩ | ⟨c35, H⟩
      · have hk := hk.lit 9 c35 rfl
        refine cnd_true hk rfl rfl ?_
        refine wp_skip ?_
        refine hK33 _ _ ?_
        apply wp_seq_k; intro K36 hK36
        refine wp_block ?_
        apply wp_region_lit
        refine sm _ rfl hk rfl rfl rfl fun a hk => ?_
        refine sm _ rfl hk rfl rfl rfl fun a hk => ?_
        refine sm _ rfl hk rfl rfl rfl fun a hk => ?_
        rcases ite_some H with ⟨c37, H⟩ | ⟨_, H⟩
        rotate_left
        · cases H
        obtain ⟨b38, q39, hAc37⟩ := (v0_).some_ u14 c37.1 c37.2
        refine si rfl hk rfl rfl rfl rfl un31 sz3 c37.1 c37.2 hAc37 fun a hk => ?_
        obtain ⟨_, rfl, e40⟩ := (v0_).at_ 0 u14 c37.1 c37.2
        refine sl (v := (.int .i64 (l0.getD u14.toNat 0))) rfl hk rfl rfl rfl ag3 ((e40 0 _ rfl).cell (hs.hasD (k := 1) rfl)) fun a hk => ?_
        obtain ⟨y41, h42, H⟩ := bind_some H
        refine sc rfl en176 hk rfl rfl rfl (spec_l02Bytes_t _ A18 p19 u15 _ o17 (l0.getD u14.toNat 0) ((hs.hand [(1, 2)] rfl).dpick [] rfl) _ h42) ?_
        rintro _ w ⟨A43, p44, k45, rfl, o46, hG⟩ a hk
        have hs := hs.back [(1, 2)] rfl hG [4] rfl
        refine sa _ rfl hk rfl rfl rfl fun a hk => ?_
        show wpList _ _ _ [] _ _
        refine wpList_nil ?_
        refine hK36 _ _ ?_
        apply wp_region_lit
        refine sm _ rfl hk rfl rfl rfl fun a hk => ?_
        refine sv (.int .i64 (w64 (u14 + 1))) hk rfl rfl rfl fun a hk => ?_
        refine sa _ rfl hk rfl rfl rfl fun a hk => ?_
        show wpList _ _ _ [] _ _
        refine wpList_nil ?_
        obtain rfl := Option.some.inj H
        obtain ⟨m47, hmm47, h32⟩ := h32
        show ∃ n', n' < _ ∧ I29 n' _ _
        refine ⟨m47, hmm47, ?_⟩
        rw [hI29]
        exact ⟨y41, (w64 (u14 + 1)), A43, p44, _, h32, (hk.c 0 rfl (hk.c 3 rfl (hk.c 4 rfl hk.k))), (hs.pick [(2, 4)] rfl), o46⟩
      · have hk := hk.lit 9 c35 rfl
        refine cnd_false hk rfl rfl ?_
        refine wp_exit ?_
        obtain rfl := Option.some.inj H
        show R28 _ _
        rw [hR28]
        exact ⟨u15, A18, p19, _, h32.symm, (hk.c 3 rfl hk.k), (hs.pick [(2, 2)] rfl), o17⟩
  · intro a w hR0
    rw [hR28] at hR0
    obtain ⟨u20, A23, p24, k21, rfl, hk, hs, o22⟩ := hR0
    have H := HL27
    try dsimp only at H
    refine hK6 _ _ ?_
    apply wp_seq_k; intro K48 hK48
    apply wp_region_lit
    refine sm _ rfl hk rfl rfl rfl fun a hk => ?_
    refine sbt (xs := u20) rfl hk rfl rfl rfl rfl un74 un5 un9 o22.view (hs.hasG (k := 2) rfl) fun a hk => ?_
    refine sa _ rfl hk rfl rfl rfl fun a hk => ?_
    show wpList _ _ _ [] _ _
    refine wpList_nil ?_
    refine hK48 _ _ ?_
    refine wp_ret ?_
    obtain rfl := Option.some.inj H
    exact fin hk _ [(.string (strOfNums u20))] rfl ⟨rfl, trivial⟩ ⟨rfl, (hs.pick [] rfl).dnil⟩

noncomputable def spec_l12Fill.s0 (x1 : Int) (u9 : List Int) : Option (((List Int)) ⊕ Ex ((List Int)) (ByteArray)) :=
  (bif (decide ((u9.length : Int) < x1)) then (if u9.length + ([0]).length ≤ 1073741824 then (some (.inl (u9 ++ ([0])))) else none) else (some (.inr (.out u9))))
noncomputable def spec_l12Fill.f (l0 : List Int) (x1 : Int) : Option (ByteArray) :=
  ((loopO (fun s => spec_l12Fill.s0 x1 s) l0).bind fun o => match o with | .out u14 => ((spec_l06Ints.f u14).bind fun y40 => (some y40)) | .ret r => (some r))
set_option maxRecDepth 100000 in
set_option maxHeartbeats 0 in
theorem spec_l12Fill_t (w0 : World) (A0_ : Option Addr) (p0_ : Nat) (l0 : List Int) (k0_ : Chunk) (v0_ : Own (Lay.int .i64) 3 A0_ p0_ l0 k0_) (x1 : Int) (hs0 : Sat (blks [(1, k0_)]) w0 w0 [] [(1, k0_)]) (r : ByteArray) (H : spec_l12Fill.f l0 x1 = some r) :
    Calls Try.prog 102 #[.slice A0_ l0.length p0_, .int .i64 x1] w0 (Ret (fun v w => v = .string r ∧ Sat (blks [(1, k0_)]) w0 w [] [])) := by
  have hs := hs0
  unfold spec_l12Fill.f at H
  refine enter Try.func102 rfl Try.ntmps102 rfl fun a hk => ?_
  apply wp_seq_k; intro K1 hK1
  apply wp_region_lit
  refine sa _ rfl hk rfl rfl rfl fun a hk => ?_
  show wpList _ _ _ [] _ _
  refine wpList_nil ?_
  refine hK1 _ _ ?_
  apply wp_seq_k; intro K2 hK2
  obtain ⟨o19, h20, HL21⟩ := bind_some H
  clear H
  obtain ⟨R22, hR22⟩ : ∃ R : Act → World → Prop, R = fun a w => ∃ (u14 : List Int) (A17 : Option Addr) (p18 : Nat) (k15 : Chunk), o19 = .out u14 ∧ Kn [(0, (.slice A17 u14.length p18))] 14 a ∧ Sat (blks [(1, k0_)]) w0 w [] [(1, k15)] ∧ Own (Lay.int .i64) 3 A17 p18 u14 k15 := ⟨_, rfl⟩
  refine wp_cutq R22 ?_ ?_
  · refine wp_block ?_
    obtain ⟨fu24, h20⟩ := loopO_some h20
    obtain ⟨I23, hI23⟩ : ∃ I : Nat → Act → World → Prop, I = fun fu a w => ∃ (u9 : List Int) (A12 : Option Addr) (p13 : Nat) (k10 : Chunk), loopN (fun s => spec_l12Fill.s0 x1 s) fu u9 = some o19 ∧ Kn [(0, (.slice A12 u9.length p13)), (1, (.int .i64 x1))] 14 a ∧ Sat (blks [(1, k0_)]) w0 w [] [(1, k10)] ∧ Own (Lay.int .i64) 3 A12 p13 u9 k10 := ⟨_, rfl⟩
    refine wp_loop_ghost I23 fu24 ?_ ?_
    · rw [hI23]
      exact ⟨l0, A0_, p0_, _, h20, (hk.c 0 rfl (hk.c 1 rfl hk.k)), (hs.pick [(1, 1)] rfl), v0_⟩
    · clear h20 hk hs
      intro fu24 a w hI0
      rw [hI23] at hI0
      obtain ⟨u9, A12, p13, k10, hi, hk, hs, o11⟩ := hI0
      obtain ⟨x25, H, h26⟩ := loop_round hi
      try dsimp only at H
      unfold spec_l12Fill.s0 at H
      apply wp_seq_k; intro K27 hK27
      apply wp_seq_k; intro K28 hK28
      apply wp_region_lit
      refine sm _ rfl hk rfl rfl rfl fun a hk => ?_
      refine sle rfl hk rfl rfl rfl un31 fun a hk => ?_
      refine sm _ rfl hk rfl rfl rfl fun a hk => ?_
      refine sv (.bool (decide ((u9.length : Int) < x1))) hk rfl rfl rfl fun a hk => ?_
      show wpList _ _ _ [] _ _
      refine wpList_nil ?_
      refine hK28 _ _ ?_
      rcases cond_some H with ⟨c29, H⟩ | ⟨c29, H⟩
      · have hk := hk.lit 8 c29 rfl
        refine cnd_true hk rfl rfl ?_
        refine wp_skip ?_
        refine hK27 _ _ ?_
        refine wp_block ?_
        apply wp_region_lit
        refine sm _ rfl hk rfl rfl rfl fun a hk => ?_
        refine sbs (L := (Lay.int .i64)) (pv := [(0, (.int .i64 0))]) (xs := [0]) (ess := [[.int .i64 0]]) 3 hs rfl hk rfl rfl rfl un31 (bs3_1 0) (AllOwn.cons0 ⟨rfl, rfl⟩ AllOwn.nil) rfl rfl rfl fun b30 k31 w a hk o32 hs => ?_
        rcases ite_some H with ⟨c33, H⟩ | ⟨_, H⟩
        rotate_left
        · cases H
        refine sap 1 (xs := u9) (ys := [0]) (flat_flat : ((Lay.int .i64)).Flat) hs rfl o11 o32.view (hs.hasG (k := 3) rfl) rfl hk rfl rfl rfl rfl rfl rfl un31 mk3 rfl rfl rfl c33 fun A34 p35 k36 w a hk o37 hs => ?_
        refine sa _ rfl hk rfl rfl rfl fun a hk => ?_
        show wpList _ _ _ [] _ _
        refine wpList_nil ?_
        obtain rfl := Option.some.inj H
        obtain ⟨m38, hmm38, h26⟩ := h26
        show ∃ n', n' < _ ∧ I23 n' _ _
        refine ⟨m38, hmm38, ?_⟩
        rw [hI23]
        exact ⟨(u9 ++ ([0])), A34, p35, _, h26, (hk.c 0 rfl (hk.c 1 rfl hk.k)), (hs.pick [(1, 1)] rfl), o37⟩
      · have hk := hk.lit 8 c29 rfl
        refine cnd_false hk rfl rfl ?_
        refine wp_exit ?_
        obtain rfl := Option.some.inj H
        show R22 _ _
        rw [hR22]
        exact ⟨u9, A12, p13, _, h26.symm, (hk.c 0 rfl hk.k), (hs.pick [(1, 1)] rfl), o11⟩
  · intro a w hR0
    rw [hR22] at hR0
    obtain ⟨u14, A17, p18, k15, rfl, hk, hs, o16⟩ := hR0
    have H := HL21
    try dsimp only at H
    refine hK2 _ _ ?_
    apply wp_seq_k; intro K39 hK39
    apply wp_region_lit
    refine sm _ rfl hk rfl rfl rfl fun a hk => ?_
    obtain ⟨y40, h41, H⟩ := bind_some H
    refine sc rfl en149 hk rfl rfl rfl (spec_l06Ints_t _ A17 p18 u14 _ o16.view (hs.hasG (k := 1) rfl) _ h41) ?_
    rintro _ w ⟨rfl, hG⟩ a hk
    have hs := hs.call0 hG
    refine sa _ rfl hk rfl rfl rfl fun a hk => ?_
    show wpList _ _ _ [] _ _
    refine wpList_nil ?_
    refine hK39 _ _ ?_
    refine wp_ret ?_
    obtain rfl := Option.some.inj H
    exact fin hk _ [(.string y40)] rfl ⟨rfl, trivial⟩ ⟨rfl, (hs.pick [] rfl).dnil⟩

noncomputable def spec_l12Entry.s1 (l0 : List S_Txn) (u27 : Int) (u74 : List Int) (u73 : Int) : Option (((List Int) × Int) ⊕ Ex ((List Int)) (ByteArray)) :=
  (if 0 ≤ u27 ∧ u27 < (l0.length : Int) then (bif (decide (u73 < (((l0.getD u27.toNat z_Txn).Ops).length : Int))) then (if 0 ≤ u27 ∧ u27 < (l0.length : Int) then (if 0 ≤ u73 ∧ u73 < (((l0.getD u27.toNat z_Txn).Ops).length : Int) then (if u74.length + ([(((l0.getD u27.toNat z_Txn).Ops).getD u73.toNat z_Op).Kind, (((l0.getD u27.toNat z_Txn).Ops).getD u73.toNat z_Op).Key, (((l0.getD u27.toNat z_Txn).Ops).getD u73.toNat z_Op).Value]).length ≤ 1073741824 then (some (.inl ((u74 ++ ([(((l0.getD u27.toNat z_Txn).Ops).getD u73.toNat z_Op).Kind, (((l0.getD u27.toNat z_Txn).Ops).getD u73.toNat z_Op).Key, (((l0.getD u27.toNat z_Txn).Ops).getD u73.toNat z_Op).Value])), (w64 (u73 + 1))))) else none) else none) else none) else (some (.inr (.out u74)))) else none)
noncomputable def spec_l12Entry.s0 (l0 : List S_Txn) (u28 : List Int) (u27 : Int) : Option (((List Int) × Int) ⊕ Ex ((List Int)) (ByteArray)) :=
  (bif (decide (u27 < (l0.length : Int))) then (if 0 ≤ u27 ∧ u27 < (l0.length : Int) then (if u28.length + ([(((l0.getD u27.toNat z_Txn).Ops).length : Int)]).length ≤ 1073741824 then ((loopO (fun s => spec_l12Entry.s1 l0 u27 s.1 s.2) ((u28 ++ ([(((l0.getD u27.toNat z_Txn).Ops).length : Int)])), 0)).bind fun o => match o with | .out u79 => (some (.inl (u79, (w64 (u27 + 1))))) | .ret r => (some (.inr (.ret r)))) else none) else none) else (some (.inr (.out u28))))
noncomputable def spec_l12Entry.f (l0 : List S_Txn) (l1 : List Int) : Option (ByteArray) :=
  (if ([] : List Int).length + l1.length ≤ 1073741824 then (if (([] : List Int) ++ l1).length + ([(l0.length : Int)]).length ≤ 1073741824 then ((loopO (fun s => spec_l12Entry.s0 l0 s.1 s.2) (((([] : List Int) ++ l1) ++ ([(l0.length : Int)])), 0)).bind fun o => match o with | .out u33 => ((spec_l12Fill.f u33 68).bind fun y127 => (some y127)) | .ret r => (some r)) else none) else none)
set_option maxRecDepth 100000 in
set_option maxHeartbeats 0 in
theorem spec_l12Entry_t (w0 : World) (A0_ : Option Addr) (p0_ : Nat) (l0 : List S_Txn) (k0_ : Chunk) (v0_ : View L_impl_Txn A0_ p0_ l0 k0_) (w0_ : Has w0 k0_) (A1_ : Option Addr) (p1_ : Nat) (l1 : List Int) (k1_ : Chunk) (v1_ : View (Lay.int .i64) A1_ p1_ l1 k1_) (w1_ : Has w0 k1_) (r : ByteArray) (H : spec_l12Entry.f l0 l1 = some r) :
    Calls Try.prog 63 #[.slice A0_ l0.length p0_, .slice A1_ l1.length p1_] w0 (Ret (fun v w => v = .string r ∧ Sat [] w0 w [] [])) := by
  have hs : Sat [] w0 w0 [(1, k0_), (2, k1_)] [] := Sat.init w0 [(1, k0_), (2, k1_)] [] (by simp only [List.mem_cons, List.not_mem_nil, or_false]; rintro x (rfl | rfl) <;> assumption) (by simp) List.nodup_nil (by simp [blks])
  unfold spec_l12Entry.f at H
  refine enter Try.func63 rfl Try.ntmps63 rfl fun a hk => ?_
  apply wp_seq_k; intro K1 hK1
  apply wp_region_lit
  refine sa _ rfl hk rfl rfl rfl fun a hk => ?_
  show wpList _ _ _ [] _ _
  refine wpList_nil ?_
  refine hK1 _ _ ?_
  apply wp_seq_k; intro K2 hK2
  apply wp_region_lit
  refine sbs0 3 (Lay.int .i64) hs rfl hk rfl rfl un31 sz3 fun b3 k4 w a hk o5 hs => ?_
  refine sm _ rfl hk rfl rfl rfl fun a hk => ?_
  rcases ite_some H with ⟨c6, H⟩ | ⟨_, H⟩
  rotate_left
  · cases H
  refine sap 3 (xs := ([] : List Int)) (ys := l1) (flat_flat : ((Lay.int .i64)).Flat) hs rfl o5 v1_ (hs.hasD (k := 2) rfl) rfl hk rfl rfl rfl rfl rfl rfl un31 mk3 rfl rfl rfl c6 fun A7 p8 k9 w a hk o10 hs => ?_
  refine sm _ rfl hk rfl rfl rfl fun a hk => ?_
  refine sle rfl hk rfl rfl rfl un34 fun a hk => ?_
  refine sbs (L := (Lay.int .i64)) (pv := [(0, (.int .i64 (l0.length : Int)))]) (xs := [(l0.length : Int)]) (ess := [[.int .i64 (l0.length : Int)]]) 4 hs rfl hk rfl rfl rfl un31 (bs3_1 (l0.length : Int)) (AllOwn.cons0 ⟨rfl, rfl⟩ AllOwn.nil) rfl rfl rfl fun b11 k12 w a hk o13 hs => ?_
  rcases ite_some H with ⟨c14, H⟩ | ⟨_, H⟩
  rotate_left
  · cases H
  refine sap 3 (xs := (([] : List Int) ++ l1)) (ys := [(l0.length : Int)]) (flat_flat : ((Lay.int .i64)).Flat) hs rfl o10 o13.view (hs.hasG (k := 4) rfl) rfl hk rfl rfl rfl rfl rfl rfl un31 mk3 rfl rfl rfl c14 fun A15 p16 k17 w a hk o18 hs => ?_
  refine sa _ rfl hk rfl rfl rfl fun a hk => ?_
  show wpList _ _ _ [] _ _
  refine wpList_nil ?_
  refine hK2 _ _ ?_
  apply wp_seq_k; intro K19 hK19
  apply wp_seq_k; intro K20 hK20
  apply wp_region_lit
  refine sa _ rfl hk rfl rfl rfl fun a hk => ?_
  show wpList _ _ _ [] _ _
  refine wpList_nil ?_
  refine hK20 _ _ ?_
  obtain ⟨o38, h39, HL40⟩ := bind_some H
  clear H
  obtain ⟨R41, hR41⟩ : ∃ R : Act → World → Prop, R = fun a w => ∃ (u33 : List Int) (A36 : Option Addr) (p37 : Nat) (k34 : Chunk), o38 = .out u33 ∧ Kn [(5, (.slice A36 u33.length p37))] 60 a ∧ Sat [] w0 w [(1, k0_), (2, k1_)] [(3, k34)] ∧ Own (Lay.int .i64) 3 A36 p37 u33 k34 := ⟨_, rfl⟩
  refine wp_cutq R41 ?_ ?_
  · refine wp_block ?_
    obtain ⟨fu43, h39⟩ := loopO_some h39
    obtain ⟨I42, hI42⟩ : ∃ I : Nat → Act → World → Prop, I = fun fu a w => ∃ (u28 : List Int) (u27 : Int) (A31 : Option Addr) (p32 : Nat) (k29 : Chunk), loopN (fun s => spec_l12Entry.s0 l0 s.1 s.2) fu (u28, u27) = some o38 ∧ Kn [(0, (.slice A0_ l0.length p0_)), (5, (.slice A31 u28.length p32)), (6, (.int .i64 u27))] 60 a ∧ Sat [] w0 w [(1, k0_), (2, k1_)] [(3, k29)] ∧ Own (Lay.int .i64) 3 A31 p32 u28 k29 := ⟨_, rfl⟩
    refine wp_loop_ghost I42 fu43 ?_ ?_
    · rw [hI42]
      exact ⟨((([] : List Int) ++ l1) ++ ([(l0.length : Int)])), 0, A15, p16, _, h39, (hk.c 0 rfl (hk.c 5 rfl (hk.c 6 rfl hk.k))), (hs.pick [(3, 3)] rfl), o18⟩
    · clear h39 hk hs
      intro fu43 a w hI0
      rw [hI42] at hI0
      obtain ⟨u28, u27, A31, p32, k29, hi, hk, hs, o30⟩ := hI0
      obtain ⟨x44, H, h45⟩ := loop_round hi
      try dsimp only at H
      unfold spec_l12Entry.s0 at H
      apply wp_seq_k; intro K46 hK46
      apply wp_seq_k; intro K47 hK47
      apply wp_region_lit
      refine sm _ rfl hk rfl rfl rfl fun a hk => ?_
      refine sm _ rfl hk rfl rfl rfl fun a hk => ?_
      refine sle rfl hk rfl rfl rfl un34 fun a hk => ?_
      refine sv (.bool (decide (u27 < (l0.length : Int)))) hk rfl rfl rfl fun a hk => ?_
      show wpList _ _ _ [] _ _
      refine wpList_nil ?_
      refine hK47 _ _ ?_
      rcases cond_some H with ⟨c48, H⟩ | ⟨c48, H⟩
      · have hk := hk.lit 19 c48 rfl
        refine cnd_true hk rfl rfl ?_
        refine wp_skip ?_
        refine hK46 _ _ ?_
        apply wp_seq_k; intro K49 hK49
        refine wp_block ?_
        apply wp_seq_k; intro K50 hK50
        apply wp_region_lit
        refine sm _ rfl hk rfl rfl rfl fun a hk => ?_
        refine sm _ rfl hk rfl rfl rfl fun a hk => ?_
        refine sm _ rfl hk rfl rfl rfl fun a hk => ?_
        rcases ite_some H with ⟨c51, H⟩ | ⟨_, H⟩
        rotate_left
        · cases H
        obtain ⟨b52, q53, hAc51⟩ := (v0_).some_ u27 c51.1 c51.2
        refine si rfl hk rfl rfl rfl rfl un34 sz95 c51.1 c51.2 hAc51 fun a hk => ?_
        refine sf (padd A0_ (u27.toNat * 1 + 0)) rfl hk rfl rfl rfl fd95_0 (padd_add _ _ _) fun a hk => ?_
        obtain ⟨_, ⟨_, rfl, A55, p56, rfl, v57⟩, e54⟩ := (v0_).at_ z_Txn u27 c51.1 c51.2
        refine sl (v := (.slice A55 ((l0.getD u27.toNat z_Txn).Ops).length p56)) rfl hk rfl rfl rfl ag93 ((e54 0 _ rfl).cell (hs.hasD (k := 1) rfl)) fun a hk => ?_
        refine sle rfl hk rfl rfl rfl un93 fun a hk => ?_
        refine sbs (L := (Lay.int .i64)) (pv := [(0, (.int .i64 (((l0.getD u27.toNat z_Txn).Ops).length : Int)))]) (xs := [(((l0.getD u27.toNat z_Txn).Ops).length : Int)]) (ess := [[.int .i64 (((l0.getD u27.toNat z_Txn).Ops).length : Int)]]) 6 hs rfl hk rfl rfl rfl un31 (bs3_1 (((l0.getD u27.toNat z_Txn).Ops).length : Int)) (AllOwn.cons0 ⟨rfl, rfl⟩ AllOwn.nil) rfl rfl rfl fun b58 k59 w a hk o60 hs => ?_
        rcases ite_some H with ⟨c61, H⟩ | ⟨_, H⟩
        rotate_left
        · cases H
        refine sap 3 (xs := u28) (ys := [(((l0.getD u27.toNat z_Txn).Ops).length : Int)]) (flat_flat : ((Lay.int .i64)).Flat) hs rfl o30 o60.view (hs.hasG (k := 6) rfl) rfl hk rfl rfl rfl rfl rfl rfl un31 mk3 rfl rfl rfl c61 fun A62 p63 k64 w a hk o65 hs => ?_
        refine sa _ rfl hk rfl rfl rfl fun a hk => ?_
        show wpList _ _ _ [] _ _
        refine wpList_nil ?_
        refine hK50 _ _ ?_
        apply wp_seq_k; intro K66 hK66
        apply wp_region_lit
        refine sa _ rfl hk rfl rfl rfl fun a hk => ?_
        show wpList _ _ _ [] _ _
        refine wpList_nil ?_
        refine hK66 _ _ ?_
        obtain ⟨o84, h85, HL86⟩ := bind_some H
        clear H
        obtain ⟨R87, hR87⟩ : ∃ R : Act → World → Prop, R = fun a w => ∃ (u79 : List Int) (A82 : Option Addr) (p83 : Nat) (k80 : Chunk), o84 = .out u79 ∧ Kn [(0, (.slice A0_ l0.length p0_)), (5, (.slice A82 u79.length p83)), (6, (.int .i64 u27))] 60 a ∧ Sat [] w0 w [(1, k0_), (2, k1_)] [(3, k80)] ∧ Own (Lay.int .i64) 3 A82 p83 u79 k80 := ⟨_, rfl⟩
        refine wp_cutq R87 ?_ ?_
        · refine wp_block ?_
          obtain ⟨fu89, h85⟩ := loopO_some h85
          obtain ⟨I88, hI88⟩ : ∃ I : Nat → Act → World → Prop, I = fun fu a w => ∃ (u74 : List Int) (u73 : Int) (A77 : Option Addr) (p78 : Nat) (k75 : Chunk), loopN (fun s => spec_l12Entry.s1 l0 u27 s.1 s.2) fu (u74, u73) = some o84 ∧ Kn [(0, (.slice A0_ l0.length p0_)), (5, (.slice A77 u74.length p78)), (6, (.int .i64 u27)), (7, (.int .i64 u73))] 60 a ∧ Sat [] w0 w [(1, k0_), (2, k1_)] [(3, k75)] ∧ Own (Lay.int .i64) 3 A77 p78 u74 k75 := ⟨_, rfl⟩
          refine wp_loop_ghost I88 fu89 ?_ ?_
          · rw [hI88]
            exact ⟨(u28 ++ ([(((l0.getD u27.toNat z_Txn).Ops).length : Int)])), 0, A62, p63, _, h85, (hk.c 0 rfl (hk.c 5 rfl (hk.c 6 rfl (hk.c 7 rfl hk.k)))), (hs.pick [(3, 3)] rfl), o65⟩
          · clear h85 hk hs
            intro fu89 a w hI0
            rw [hI88] at hI0
            obtain ⟨u74, u73, A77, p78, k75, hi, hk, hs, o76⟩ := hI0
            obtain ⟨x90, H, h91⟩ := loop_round hi
            try dsimp only at H
            unfold spec_l12Entry.s1 at H
            apply wp_seq_k; intro K92 hK92
            apply wp_seq_k; intro K93 hK93
            apply wp_region_lit
            refine sm _ rfl hk rfl rfl rfl fun a hk => ?_
            refine sm _ rfl hk rfl rfl rfl fun a hk => ?_
            refine sm _ rfl hk rfl rfl rfl fun a hk => ?_
            rcases ite_some H with ⟨c94, H⟩ | ⟨_, H⟩
            rotate_left
            · cases H
            obtain ⟨b95, q96, hAc94⟩ := (v0_).some_ u27 c94.1 c94.2
            refine si rfl hk rfl rfl rfl rfl un34 sz95 c94.1 c94.2 hAc94 fun a hk => ?_
            refine sf (padd A0_ (u27.toNat * 1 + 0)) rfl hk rfl rfl rfl fd95_0 (padd_add _ _ _) fun a hk => ?_
            obtain ⟨_, ⟨_, rfl, A98, p99, rfl, v100⟩, e97⟩ := (v0_).at_ z_Txn u27 c94.1 c94.2
            refine sl (v := (.slice A98 ((l0.getD u27.toNat z_Txn).Ops).length p99)) rfl hk rfl rfl rfl ag93 ((e97 0 _ rfl).cell (hs.hasD (k := 1) rfl)) fun a hk => ?_
            refine sle rfl hk rfl rfl rfl un93 fun a hk => ?_
            refine sv (.bool (decide (u73 < (((l0.getD u27.toNat z_Txn).Ops).length : Int)))) hk rfl rfl rfl fun a hk => ?_
            show wpList _ _ _ [] _ _
            refine wpList_nil ?_
            refine hK93 _ _ ?_
            rcases cond_some H with ⟨c101, H⟩ | ⟨c101, H⟩
            · have hk := hk.lit 38 c101 rfl
              refine cnd_true hk rfl rfl ?_
              refine wp_skip ?_
              refine hK92 _ _ ?_
              apply wp_seq_k; intro K102 hK102
              refine wp_block ?_
              apply wp_seq_k; intro K103 hK103
              apply wp_region_lit
              refine sm _ rfl hk rfl rfl rfl fun a hk => ?_
              refine sm _ rfl hk rfl rfl rfl fun a hk => ?_
              rcases ite_some H with ⟨c104, H⟩ | ⟨_, H⟩
              rotate_left
              · cases H
              obtain ⟨b105, q106, hAc104⟩ := (v0_).some_ u27 c104.1 c104.2
              refine si rfl hk rfl rfl rfl rfl un34 sz95 c104.1 c104.2 hAc104 fun a hk => ?_
              refine sf (padd A0_ (u27.toNat * 1 + 0)) rfl hk rfl rfl rfl fd95_0 (padd_add _ _ _) fun a hk => ?_
              obtain ⟨_, ⟨_, rfl, A108, p109, rfl, v110⟩, e107⟩ := (v0_).at_ z_Txn u27 c104.1 c104.2
              refine sl (v := (.slice A108 ((l0.getD u27.toNat z_Txn).Ops).length p109)) rfl hk rfl rfl rfl ag93 ((e107 0 _ rfl).cell (hs.hasD (k := 1) rfl)) fun a hk => ?_
              refine sm _ rfl hk rfl rfl rfl fun a hk => ?_
              rcases ite_some H with ⟨c111, H⟩ | ⟨_, H⟩
              rotate_left
              · cases H
              obtain ⟨b112, q113, hAc111⟩ := (v110).some_ u73 c111.1 c111.2
              refine si rfl hk rfl rfl rfl rfl un93 sz135 c111.1 c111.2 hAc111 fun a hk => ?_
              obtain ⟨_, rfl, e114⟩ := (v110).at_ z_Op u73 c111.1 c111.2
              refine sln [.int .i64 ((((l0.getD u27.toNat z_Txn).Ops).getD u73.toNat z_Op).Kind), .int .i64 ((((l0.getD u27.toNat z_Txn).Ops).getD u73.toNat z_Op).Key), .int .i64 ((((l0.getD u27.toNat z_Txn).Ops).getD u73.toNat z_Op).Value)] rfl hk rfl rfl rfl ag135 sz135 (cells_at e114 (hs.hasD (k := 1) rfl)) fun a hk => ?_
              refine salx 8 hs rfl hk rfl rfl ze135 rfl fun b115 w a hk hs => ?_
              refine ssw 8 hs rfl rfl hk rfl rfl rfl rfl sz135 (by simp [Value.oneCell']) rfl fun w a hk hs => ?_
              show wpList _ _ _ [] _ _
              refine wpList_nil ?_
              refine hK103 _ _ ?_
              apply wp_region_lit
              refine sm _ rfl hk rfl rfl rfl fun a hk => ?_
              refine sf ⟨b115, 0, none⟩ rfl hk rfl rfl rfl fd135_0 rfl fun a hk => ?_
              refine sl rfl hk rfl rfl rfl ag3 (box_cell hs (k := 8) rfl rfl) fun a hk => ?_
              refine sf ⟨b115, 1, none⟩ rfl hk rfl rfl rfl fd135_1 rfl fun a hk => ?_
              refine sl rfl hk rfl rfl rfl ag3 (box_cell hs (k := 8) rfl rfl) fun a hk => ?_
              refine sf ⟨b115, 2, none⟩ rfl hk rfl rfl rfl fd135_2 rfl fun a hk => ?_
              refine sl rfl hk rfl rfl rfl ag3 (box_cell hs (k := 8) rfl rfl) fun a hk => ?_
              refine sbs (L := (Lay.int .i64)) (pv := [(0, (.int .i64 ((((l0.getD u27.toNat z_Txn).Ops).getD u73.toNat z_Op).Kind))), (1, (.int .i64 ((((l0.getD u27.toNat z_Txn).Ops).getD u73.toNat z_Op).Key))), (2, (.int .i64 ((((l0.getD u27.toNat z_Txn).Ops).getD u73.toNat z_Op).Value)))]) (xs := [(((l0.getD u27.toNat z_Txn).Ops).getD u73.toNat z_Op).Kind, (((l0.getD u27.toNat z_Txn).Ops).getD u73.toNat z_Op).Key, (((l0.getD u27.toNat z_Txn).Ops).getD u73.toNat z_Op).Value]) (ess := [[.int .i64 ((((l0.getD u27.toNat z_Txn).Ops).getD u73.toNat z_Op).Kind)], [.int .i64 ((((l0.getD u27.toNat z_Txn).Ops).getD u73.toNat z_Op).Key)], [.int .i64 ((((l0.getD u27.toNat z_Txn).Ops).getD u73.toNat z_Op).Value)]]) 9 hs rfl hk rfl rfl rfl un31 (bs3_2 ((((l0.getD u27.toNat z_Txn).Ops).getD u73.toNat z_Op).Kind) ((((l0.getD u27.toNat z_Txn).Ops).getD u73.toNat z_Op).Key) ((((l0.getD u27.toNat z_Txn).Ops).getD u73.toNat z_Op).Value)) (AllOwn.cons0 ⟨rfl, rfl⟩ (AllOwn.cons0 ⟨rfl, rfl⟩ (AllOwn.cons0 ⟨rfl, rfl⟩ AllOwn.nil))) rfl rfl rfl fun b116 k117 w a hk o118 hs => ?_
              rcases ite_some H with ⟨c119, H⟩ | ⟨_, H⟩
              rotate_left
              · cases H
              refine sap 3 (xs := u74) (ys := [(((l0.getD u27.toNat z_Txn).Ops).getD u73.toNat z_Op).Kind, (((l0.getD u27.toNat z_Txn).Ops).getD u73.toNat z_Op).Key, (((l0.getD u27.toNat z_Txn).Ops).getD u73.toNat z_Op).Value]) (flat_flat : ((Lay.int .i64)).Flat) hs rfl o76 o118.view (hs.hasG (k := 9) rfl) rfl hk rfl rfl rfl rfl rfl rfl un31 mk3 rfl rfl rfl c119 fun A120 p121 k122 w a hk o123 hs => ?_
              refine sa _ rfl hk rfl rfl rfl fun a hk => ?_
              show wpList _ _ _ [] _ _
              refine wpList_nil ?_
              refine hK102 _ _ ?_
              apply wp_region_lit
              refine sm _ rfl hk rfl rfl rfl fun a hk => ?_
              refine sv (.int .i64 (w64 (u73 + 1))) hk rfl rfl rfl fun a hk => ?_
              refine sa _ rfl hk rfl rfl rfl fun a hk => ?_
              show wpList _ _ _ [] _ _
              refine wpList_nil ?_
              obtain rfl := Option.some.inj H
              obtain ⟨m124, hmm124, h91⟩ := h91
              show ∃ n', n' < _ ∧ I88 n' _ _
              refine ⟨m124, hmm124, ?_⟩
              rw [hI88]
              exact ⟨(u74 ++ ([(((l0.getD u27.toNat z_Txn).Ops).getD u73.toNat z_Op).Kind, (((l0.getD u27.toNat z_Txn).Ops).getD u73.toNat z_Op).Key, (((l0.getD u27.toNat z_Txn).Ops).getD u73.toNat z_Op).Value])), (w64 (u73 + 1)), A120, p121, _, h91, (hk.c 0 rfl (hk.c 5 rfl (hk.c 6 rfl (hk.c 7 rfl hk.k)))), (hs.pick [(3, 3)] rfl), o123⟩
            · have hk := hk.lit 38 c101 rfl
              refine cnd_false hk rfl rfl ?_
              refine wp_exit ?_
              obtain rfl := Option.some.inj H
              show R87 _ _
              rw [hR87]
              exact ⟨u74, A77, p78, _, h91.symm, (hk.c 0 rfl (hk.c 5 rfl (hk.c 6 rfl hk.k))), (hs.pick [(3, 3)] rfl), o76⟩
        · intro a w hR0
          rw [hR87] at hR0
          obtain ⟨u79, A82, p83, k80, rfl, hk, hs, o81⟩ := hR0
          have H := HL86
          try dsimp only at H
          refine hK49 _ _ ?_
          apply wp_region_lit
          refine sm _ rfl hk rfl rfl rfl fun a hk => ?_
          refine sv (.int .i64 (w64 (u27 + 1))) hk rfl rfl rfl fun a hk => ?_
          refine sa _ rfl hk rfl rfl rfl fun a hk => ?_
          show wpList _ _ _ [] _ _
          refine wpList_nil ?_
          obtain rfl := Option.some.inj H
          obtain ⟨m125, hmm125, h45⟩ := h45
          show ∃ n', n' < _ ∧ I42 n' _ _
          refine ⟨m125, hmm125, ?_⟩
          rw [hI42]
          exact ⟨u79, (w64 (u27 + 1)), A82, p83, _, h45, (hk.c 0 rfl (hk.c 5 rfl (hk.c 6 rfl hk.k))), (hs.pick [(3, 3)] rfl), o81⟩
      · have hk := hk.lit 19 c48 rfl
        refine cnd_false hk rfl rfl ?_
        refine wp_exit ?_
        obtain rfl := Option.some.inj H
        show R41 _ _
        rw [hR41]
        exact ⟨u28, A31, p32, _, h45.symm, (hk.c 5 rfl hk.k), (hs.pick [(3, 3)] rfl), o30⟩
  · intro a w hR0
    rw [hR41] at hR0
    obtain ⟨u33, A36, p37, k34, rfl, hk, hs, o35⟩ := hR0
    have H := HL40
    try dsimp only at H
    refine hK19 _ _ ?_
    apply wp_seq_k; intro K126 hK126
    apply wp_region_lit
    refine sm _ rfl hk rfl rfl rfl fun a hk => ?_
    obtain ⟨y127, h128, H⟩ := bind_some H
    refine sc rfl en102 hk rfl rfl rfl (spec_l12Fill_t _ A36 p37 u33 _ o35 68 ((hs.hand [(1, 3)] rfl).dpick [] rfl) _ h128) ?_
    rintro _ w ⟨rfl, hG⟩ a hk
    have hs := hs.back [(1, 3)] rfl hG [] rfl
    refine sa _ rfl hk rfl rfl rfl fun a hk => ?_
    show wpList _ _ _ [] _ _
    refine wpList_nil ?_
    refine hK126 _ _ ?_
    refine wp_ret ?_
    obtain rfl := Option.some.inj H
    exact fin hk _ [(.string y127)] rfl ⟨rfl, trivial⟩ ⟨rfl, (hs.pick [] rfl).dnil⟩

noncomputable def spec_EntryText.f (l0 : List S_Txn) (l1 : List Int) : Option (ByteArray × Int) :=
  (((bif (decide ((l1.length : Int) > 4096)) then (some true) else (some (decide ((l0.length : Int) > 4096)))) : Option (Bool)).bind fun u5 => (bif u5 then (some ((⟨#[]⟩ : ByteArray), 2)) else ((spec_l11Draws.f l1 40).bind fun y15 => (bif (y15 != 0) then (some ((⟨#[]⟩ : ByteArray), y15)) else ((spec_BatchOK.f l0).bind fun y22 => (bif (!y22) then (some ((⟨#[]⟩ : ByteArray), 1)) else ((spec_l12Entry.f l0 l1).bind fun y27 => (some (y27, 0)))))))))
set_option maxRecDepth 100000 in
set_option maxHeartbeats 0 in
theorem spec_EntryText_t (w0 : World) (A0_ : Option Addr) (p0_ : Nat) (l0 : List S_Txn) (k0_ : Chunk) (v0_ : View L_impl_Txn A0_ p0_ l0 k0_) (w0_ : Has w0 k0_) (A1_ : Option Addr) (p1_ : Nat) (l1 : List Int) (k1_ : Chunk) (v1_ : View (Lay.int .i64) A1_ p1_ l1 k1_) (w1_ : Has w0 k1_) (r : ByteArray × Int) (H : spec_EntryText.f l0 l1 = some r) :
    Calls Try.prog 17 #[.slice A0_ l0.length p0_, .slice A1_ l1.length p1_] w0 (Ret (fun v w => v = .tuple #[.string r.1, .int .i64 r.2] ∧ Sat [] w0 w [] [])) := by
  have hs : Sat [] w0 w0 [(1, k0_), (2, k1_)] [] := Sat.init w0 [(1, k0_), (2, k1_)] [] (by simp only [List.mem_cons, List.not_mem_nil, or_false]; rintro x (rfl | rfl) <;> assumption) (by simp) List.nodup_nil (by simp [blks])
  unfold spec_EntryText.f at H
  refine enter Try.func17 rfl Try.ntmps17 rfl fun a hk => ?_
  apply wp_seq_k; intro K1 hK1
  apply wp_region_lit
  refine sa _ rfl hk rfl rfl rfl fun a hk => ?_
  refine sa _ rfl hk rfl rfl rfl fun a hk => ?_
  show wpList _ _ _ [] _ _
  refine wpList_nil ?_
  refine hK1 _ _ ?_
  apply wp_seq_k; intro K2 hK2
  apply wp_seq_k; intro K3 hK3
  obtain ⟨o6, h7, HL8⟩ := bind_some H
  clear H
  obtain ⟨R9, hR9⟩ : ∃ R : Act → World → Prop, R = fun a w => ∃ (u5 : Bool), u5 = o6 ∧ Kn [(0, (.slice A0_ l0.length p0_)), (1, (.slice A1_ l1.length p1_)), (14, (.bool u5))] 26 a ∧ Sat [] w0 w [(1, k0_), (2, k1_)] [] := ⟨_, rfl⟩
  refine wp_cutq R9 ?_ ?_
  · have H := h7
    apply wp_region_lit
    refine sm _ rfl hk rfl rfl rfl fun a hk => ?_
    refine sle rfl hk rfl rfl rfl un31 fun a hk => ?_
    refine sv (.bool (decide ((l1.length : Int) > 4096))) hk rfl rfl rfl fun a hk => ?_
    refine sm _ rfl hk rfl rfl rfl fun a hk => ?_
    rcases cond_some H with ⟨c10, H⟩ | ⟨c10, H⟩
    · have hk := hk.lit 10 c10 rfl
      refine sk hk rfl rfl rfl fun a hk => ?_
      refine sk hk rfl rfl rfl fun a hk => ?_
      refine sk hk rfl rfl rfl fun a hk => ?_
      refine sv (.bool true) hk rfl rfl rfl fun a hk => ?_
      show wpList _ _ _ [] _ _
      refine wpList_nil ?_
      obtain rfl := Option.some.inj H
      show R9 _ _
      rw [hR9]
      exact ⟨true, rfl, (hk.c 0 rfl (hk.c 1 rfl (hk.c 14 rfl hk.k))), (hs.pick [] rfl)⟩
    · have hk := hk.lit 10 c10 rfl
      refine sm _ rfl hk rfl rfl rfl fun a hk => ?_
      refine sle rfl hk rfl rfl rfl un34 fun a hk => ?_
      refine sv (.bool (decide ((l0.length : Int) > 4096))) hk rfl rfl rfl fun a hk => ?_
      refine sv (.bool (decide ((l0.length : Int) > 4096))) hk rfl rfl rfl fun a hk => ?_
      show wpList _ _ _ [] _ _
      refine wpList_nil ?_
      obtain rfl := Option.some.inj H
      show R9 _ _
      rw [hR9]
      exact ⟨(decide ((l0.length : Int) > 4096)), rfl, (hk.c 0 rfl (hk.c 1 rfl (hk.c 14 rfl hk.k))), (hs.pick [] rfl)⟩
  · intro a w hR0
    rw [hR9] at hR0
    obtain ⟨u5, rfl, hk, hs⟩ := hR0
    have H := HL8
    try dsimp only at H
    refine hK3 _ _ ?_
    rcases cond_some H with ⟨c11, H⟩ | ⟨c11, H⟩
    · have hk := hk.lit 14 c11 rfl
      refine cnd_true hk rfl rfl ?_
      apply wp_seq_k; intro K12 hK12
      apply wp_region_lit
      refine sa _ rfl hk rfl rfl rfl fun a hk => ?_
      refine sa _ rfl hk rfl rfl rfl fun a hk => ?_
      show wpList _ _ _ [] _ _
      refine wpList_nil ?_
      refine hK12 _ _ ?_
      refine wp_ret ?_
      obtain rfl := Option.some.inj H
      exact fin hk _ [(.string (⟨#[]⟩ : ByteArray)), (.int .i64 2)] rfl ⟨rfl, ⟨rfl, trivial⟩⟩ ⟨rfl, (hs.pick [] rfl).dnil⟩
    · have hk := hk.lit 14 c11 rfl
      refine cnd_false hk rfl rfl ?_
      refine wp_skip ?_
      refine hK2 _ _ ?_
      apply wp_seq_k; intro K13 hK13
      apply wp_seq_k; intro K14 hK14
      apply wp_region_lit
      refine sm _ rfl hk rfl rfl rfl fun a hk => ?_
      obtain ⟨y15, h16, H⟩ := bind_some H
      refine sc rfl en61 hk rfl rfl rfl (spec_l11Draws_t _ A1_ p1_ l1 _ v1_ (hs.hasD (k := 2) rfl) 40 _ h16) ?_
      rintro _ w ⟨rfl, hG⟩ a hk
      have hs := hs.call0 hG
      refine sa _ rfl hk rfl rfl rfl fun a hk => ?_
      show wpList _ _ _ [] _ _
      refine wpList_nil ?_
      refine hK14 _ _ ?_
      apply wp_seq_k; intro K17 hK17
      apply wp_region_lit
      refine sm _ rfl hk rfl rfl rfl fun a hk => ?_
      refine sv (.bool (y15 != 0)) hk rfl rfl rfl fun a hk => ?_
      show wpList _ _ _ [] _ _
      refine wpList_nil ?_
      refine hK17 _ _ ?_
      rcases cond_some H with ⟨c18, H⟩ | ⟨c18, H⟩
      · have hk := hk.lit 18 c18 rfl
        refine cnd_true hk rfl rfl ?_
        apply wp_seq_k; intro K19 hK19
        apply wp_region_lit
        refine sm _ rfl hk rfl rfl rfl fun a hk => ?_
        refine sa _ rfl hk rfl rfl rfl fun a hk => ?_
        refine sa _ rfl hk rfl rfl rfl fun a hk => ?_
        show wpList _ _ _ [] _ _
        refine wpList_nil ?_
        refine hK19 _ _ ?_
        refine wp_ret ?_
        obtain rfl := Option.some.inj H
        exact fin hk _ [(.string (⟨#[]⟩ : ByteArray)), (.int .i64 y15)] rfl ⟨rfl, ⟨rfl, trivial⟩⟩ ⟨rfl, (hs.pick [] rfl).dnil⟩
      · have hk := hk.lit 18 c18 rfl
        refine cnd_false hk rfl rfl ?_
        refine wp_skip ?_
        refine hK13 _ _ ?_
        apply wp_seq_k; intro K20 hK20
        apply wp_seq_k; intro K21 hK21
        apply wp_region_lit
        refine sm _ rfl hk rfl rfl rfl fun a hk => ?_
        obtain ⟨y22, h23, H⟩ := bind_some H
        refine sc rfl en62 hk rfl rfl rfl (spec_BatchOK_t _ A0_ p0_ l0 _ v0_ (hs.hasD (k := 1) rfl) _ h23) ?_
        rintro _ w ⟨rfl, hG⟩ a hk
        have hs := hs.call0 hG
        refine sv (.bool (!y22)) hk rfl rfl rfl fun a hk => ?_
        show wpList _ _ _ [] _ _
        refine wpList_nil ?_
        refine hK21 _ _ ?_
        rcases cond_some H with ⟨c24, H⟩ | ⟨c24, H⟩
        · have hk := hk.lit 22 c24 rfl
          refine cnd_true hk rfl rfl ?_
          apply wp_seq_k; intro K25 hK25
          apply wp_region_lit
          refine sa _ rfl hk rfl rfl rfl fun a hk => ?_
          refine sa _ rfl hk rfl rfl rfl fun a hk => ?_
          show wpList _ _ _ [] _ _
          refine wpList_nil ?_
          refine hK25 _ _ ?_
          refine wp_ret ?_
          obtain rfl := Option.some.inj H
          exact fin hk _ [(.string (⟨#[]⟩ : ByteArray)), (.int .i64 1)] rfl ⟨rfl, ⟨rfl, trivial⟩⟩ ⟨rfl, (hs.pick [] rfl).dnil⟩
        · have hk := hk.lit 22 c24 rfl
          refine cnd_false hk rfl rfl ?_
          refine wp_skip ?_
          refine hK20 _ _ ?_
          apply wp_seq_k; intro K26 hK26
          apply wp_region_lit
          refine sm _ rfl hk rfl rfl rfl fun a hk => ?_
          refine sm _ rfl hk rfl rfl rfl fun a hk => ?_
          obtain ⟨y27, h28, H⟩ := bind_some H
          refine sc rfl en63 hk rfl rfl rfl (spec_l12Entry_t _ A0_ p0_ l0 _ v0_ (hs.hasD (k := 1) rfl) A1_ p1_ l1 _ v1_ (hs.hasD (k := 2) rfl) _ h28) ?_
          rintro _ w ⟨rfl, hG⟩ a hk
          have hs := hs.call0 hG
          refine sa _ rfl hk rfl rfl rfl fun a hk => ?_
          refine sa _ rfl hk rfl rfl rfl fun a hk => ?_
          show wpList _ _ _ [] _ _
          refine wpList_nil ?_
          refine hK26 _ _ ?_
          refine wp_ret ?_
          obtain rfl := Option.some.inj H
          exact fin hk _ [(.string y27), (.int .i64 0)] rfl ⟨rfl, ⟨rfl, trivial⟩⟩ ⟨rfl, (hs.pick [] rfl).dnil⟩

noncomputable def laws_toOp.f (x0 : S_Op) : Option (S_Op) :=
  (some (⟨x0.Kind, x0.Key, x0.Value⟩ : S_Op))
set_option maxRecDepth 100000 in
set_option maxHeartbeats 0 in
theorem laws_toOp_t (w0 : World) (x0 : S_Op) (r : S_Op) (H : laws_toOp.f x0 = some r) :
    Calls Try.prog 153 #[.agg #[.int .i64 x0.Kind, .int .i64 x0.Key, .int .i64 x0.Value]] w0 (Ret (fun v w => v = .agg #[.int .i64 r.Kind, .int .i64 r.Key, .int .i64 r.Value] ∧ Sat [] w0 w [] [])) := by
  have hs : Sat [] w0 w0 [] [] := Sat.init w0 [] [] (by simp) (by simp) List.nodup_nil (by simp [blks])
  unfold laws_toOp.f at H
  refine enter Try.func153 rfl Try.ntmps153 rfl fun a hk => ?_
  apply wp_seq_k; intro K1 hK1
  apply wp_region_lit
  refine sbx 1 hs rfl hk rfl rfl rfl rfl fun b2 w a hk hs => ?_
  refine salx 2 hs rfl hk rfl rfl ze135 rfl fun b3 w a hk hs => ?_
  show wpList _ _ _ [] _ _
  refine wpList_nil ?_
  refine hK1 _ _ ?_
  apply wp_seq_k; intro K4 hK4
  apply wp_region_lit
  refine salx 3 hs rfl hk rfl rfl ze135 rfl fun b5 w a hk hs => ?_
  show wpList _ _ _ [] _ _
  refine wpList_nil ?_
  refine hK4 _ _ ?_
  apply wp_seq_k; intro K6 hK6
  apply wp_region_lit
  refine sf ⟨b2, 0, none⟩ rfl hk rfl rfl rfl fd172_0 rfl fun a hk => ?_
  refine sl rfl hk rfl rfl rfl ag3 (box_cell hs (k := 1) rfl rfl) fun a hk => ?_
  refine sf ⟨b5, 0, none⟩ rfl hk rfl rfl rfl fd135_0 rfl fun a hk => ?_
  refine ssx (cs' := #[.int .i64 x0.Kind, .int .i64 0, .int .i64 0]) 3 hs rfl rfl hk rfl rfl rfl rfl sz3 rfl rfl rfl rfl fun w a hk hs => ?_
  show wpList _ _ _ [] _ _
  refine wpList_nil ?_
  refine hK6 _ _ ?_
  apply wp_seq_k; intro K7 hK7
  apply wp_region_lit
  refine sf ⟨b2, 1, none⟩ rfl hk rfl rfl rfl fd172_1 rfl fun a hk => ?_
  refine sl rfl hk rfl rfl rfl ag3 (box_cell hs (k := 1) rfl rfl) fun a hk => ?_
  refine sf ⟨b5, 1, none⟩ rfl hk rfl rfl rfl fd135_1 rfl fun a hk => ?_
  refine ssx (cs' := #[.int .i64 x0.Kind, .int .i64 x0.Key, .int .i64 0]) 3 hs rfl rfl hk rfl rfl rfl rfl sz3 rfl rfl rfl rfl fun w a hk hs => ?_
  show wpList _ _ _ [] _ _
  refine wpList_nil ?_
  refine hK7 _ _ ?_
  apply wp_seq_k; intro K8 hK8
  apply wp_region_lit
  refine sf ⟨b2, 2, none⟩ rfl hk rfl rfl rfl fd172_2 rfl fun a hk => ?_
  refine sl rfl hk rfl rfl rfl ag3 (box_cell hs (k := 1) rfl rfl) fun a hk => ?_
  refine sf ⟨b5, 2, none⟩ rfl hk rfl rfl rfl fd135_2 rfl fun a hk => ?_
  refine ssx (cs' := #[.int .i64 x0.Kind, .int .i64 x0.Key, .int .i64 x0.Value]) 3 hs rfl rfl hk rfl rfl rfl rfl sz3 rfl rfl rfl rfl fun w a hk hs => ?_
  show wpList _ _ _ [] _ _
  refine wpList_nil ?_
  refine hK8 _ _ ?_
  apply wp_seq_k; intro K9 hK9
  apply wp_region_lit
  refine sln [.int .i64 x0.Kind, .int .i64 x0.Key, .int .i64 x0.Value] rfl hk rfl rfl rfl ag135 sz135 (box_cells hs (k := 3) rfl) fun a hk => ?_
  refine ssw 2 hs rfl rfl hk rfl rfl rfl rfl sz135 (by simp [Value.oneCell']) rfl fun w a hk hs => ?_
  show wpList _ _ _ [] _ _
  refine wpList_nil ?_
  refine hK9 _ _ ?_
  refine wp_ret ?_
  obtain rfl := Option.some.inj H
  exact fin hk _ [(.agg #[.int .i64 x0.Kind, .int .i64 x0.Key, .int .i64 x0.Value])] rfl ⟨⟨_, rfl, run_loadN ag135 sz135 (box_cells hs (k := 2) rfl)⟩, trivial⟩ ⟨rfl, (hs.pick [] rfl).dnil⟩

noncomputable def laws_toOpS.s0 (l0 : List S_Op) (u12 : List S_Op) (u16 : Int) : Option (((List S_Op) × Int) ⊕ Ex ((List S_Op)) ((List S_Op))) :=
  (bif (decide (u16 < (l0.length : Int))) then (if 0 ≤ u16 ∧ u16 < (l0.length : Int) then ((laws_toOp.f (l0.getD u16.toNat z_Op)).bind fun y37 => (if 0 ≤ u16 ∧ u16 < ((((l0.length : Int)).toNat) : Int) then (some (.inl ((u12.set u16.toNat y37), (w64 (u16 + 1))))) else none)) else none) else (some (.inr (.out u12))))
noncomputable def laws_toOpS.f (l0 : List S_Op) : Option ((List S_Op)) :=
  (if 0 ≤ (l0.length : Int) ∧ (l0.length : Int) ≤ 1073741824 then ((loopO (fun s => laws_toOpS.s0 l0 s.1 s.2) ((List.replicate ((l0.length : Int)).toNat z_Op), 0)).bind fun o => match o with | .out u17 => (some u17) | .ret r => (some r)) else none)
set_option maxRecDepth 100000 in
set_option maxHeartbeats 0 in
theorem laws_toOpS_t (w0 : World) (A0_ : Option Addr) (p0_ : Nat) (l0 : List S_Op) (k0_ : Chunk) (v0_ : View L_Op A0_ p0_ l0 k0_) (w0_ : Has w0 k0_) (r : (List S_Op)) (H : laws_toOpS.f l0 = some r) :
    Calls Try.prog 113 #[.slice A0_ l0.length p0_] w0 (Ret (fun v w => ∃ (A0 : Option Addr) (p0 : Nat) (k0 : Chunk), v = .slice A0 r.length p0 ∧ Own L_Op 135 A0 p0 r k0 ∧ Sat [] w0 w [] [(0, k0)])) := by
  have hs : Sat [] w0 w0 [(1, k0_)] [] := Sat.init w0 [(1, k0_)] [] (by simp only [List.mem_cons, List.not_mem_nil, or_false]; rintro x (rfl) <;> assumption) (by simp) List.nodup_nil (by simp [blks])
  unfold laws_toOpS.f at H
  refine enter Try.func113 rfl Try.ntmps113 rfl fun a hk => ?_
  apply wp_seq_k; intro K1 hK1
  apply wp_region_lit
  refine sa _ rfl hk rfl rfl rfl fun a hk => ?_
  show wpList _ _ _ [] _ _
  refine wpList_nil ?_
  refine hK1 _ _ ?_
  apply wp_seq_k; intro K2 hK2
  apply wp_region_lit
  refine sm _ rfl hk rfl rfl rfl fun a hk => ?_
  refine sle rfl hk rfl rfl rfl un88 fun a hk => ?_
  rcases ite_some H with ⟨c3, H⟩ | ⟨_, H⟩
  rotate_left
  · cases H
  refine smk 2 L_Op hs rfl hk rfl rfl rfl rfl un93 mk135 lz135 rfl rfl c3.1 c3.2 fun b4 k5 w a hk o6 hs => ?_
  have lh7 : (List.replicate ((l0.length : Int)).toNat z_Op).length = ((l0.length : Int)).toNat := List.length_replicate
  refine sa _ rfl hk rfl rfl rfl fun a hk => ?_
  show wpList _ _ _ [] _ _
  refine wpList_nil ?_
  refine hK2 _ _ ?_
  apply wp_seq_k; intro K8 hK8
  apply wp_seq_k; intro K9 hK9
  apply wp_region_lit
  refine sa _ rfl hk rfl rfl rfl fun a hk => ?_
  show wpList _ _ _ [] _ _
  refine wpList_nil ?_
  refine hK9 _ _ ?_
  obtain ⟨o21, h22, HL23⟩ := bind_some H
  clear H
  obtain ⟨R24, hR24⟩ : ∃ R : Act → World → Prop, R = fun a w => ∃ (u17 : List S_Op) (k18 : Chunk), o21 = .out u17 ∧ Kn [(3, (.slice (some ⟨b4, 0, none⟩) (((l0.length : Int)).toNat) (((l0.length : Int)).toNat)))] 23 a ∧ Sat [] w0 w [(1, k0_)] [(2, k18)] ∧ Own L_Op 135 (some ⟨b4, 0, none⟩) (((l0.length : Int)).toNat) u17 k18 ∧ u17.length = (((l0.length : Int)).toNat) := ⟨_, rfl⟩
  refine wp_cutq R24 ?_ ?_
  · refine wp_block ?_
    obtain ⟨fu26, h22⟩ := loopO_some h22
    obtain ⟨I25, hI25⟩ : ∃ I : Nat → Act → World → Prop, I = fun fu a w => ∃ (u12 : List S_Op) (u16 : Int) (k13 : Chunk), loopN (fun s => laws_toOpS.s0 l0 s.1 s.2) fu (u12, u16) = some o21 ∧ Kn [(0, (.slice A0_ l0.length p0_)), (3, (.slice (some ⟨b4, 0, none⟩) (((l0.length : Int)).toNat) (((l0.length : Int)).toNat))), (4, (.int .i64 u16))] 23 a ∧ Sat [] w0 w [(1, k0_)] [(2, k13)] ∧ Own L_Op 135 (some ⟨b4, 0, none⟩) (((l0.length : Int)).toNat) u12 k13 ∧ u12.length = (((l0.length : Int)).toNat) := ⟨_, rfl⟩
    refine wp_loop_ghost I25 fu26 ?_ ?_
    · rw [hI25]
      exact ⟨(List.replicate ((l0.length : Int)).toNat z_Op), 0, _, h22, (hk.c 0 rfl (hk.c 3 rfl (hk.c 4 rfl hk.k))), (hs.pick [(2, 2)] rfl), o6, lh7⟩
    · clear h22 hk hs
      intro fu26 a w hI0
      rw [hI25] at hI0
      obtain ⟨u12, u16, k13, hi, hk, hs, o14, lh15⟩ := hI0
      obtain ⟨x27, H, h28⟩ := loop_round hi
      try dsimp only at H
      unfold laws_toOpS.s0 at H
      apply wp_seq_k; intro K29 hK29
      apply wp_seq_k; intro K30 hK30
      apply wp_region_lit
      refine sm _ rfl hk rfl rfl rfl fun a hk => ?_
      refine sm _ rfl hk rfl rfl rfl fun a hk => ?_
      refine sle rfl hk rfl rfl rfl un88 fun a hk => ?_
      refine sv (.bool (decide (u16 < (l0.length : Int)))) hk rfl rfl rfl fun a hk => ?_
      show wpList _ _ _ [] _ _
      refine wpList_nil ?_
      refine hK30 _ _ ?_
      rcases cond_some H with ⟨c31, H⟩ | ⟨c31, H⟩
      · have hk := hk.lit 11 c31 rfl
        refine cnd_true hk rfl rfl ?_
        refine wp_skip ?_
        refine hK29 _ _ ?_
        apply wp_seq_k; intro K32 hK32
        refine wp_block ?_
        apply wp_region_lit
        refine sm _ rfl hk rfl rfl rfl fun a hk => ?_
        refine sm _ rfl hk rfl rfl rfl fun a hk => ?_
        refine sm _ rfl hk rfl rfl rfl fun a hk => ?_
        refine sm _ rfl hk rfl rfl rfl fun a hk => ?_
        rcases ite_some H with ⟨c33, H⟩ | ⟨_, H⟩
        rotate_left
        · cases H
        obtain ⟨b34, q35, hAc33⟩ := (v0_).some_ u16 c33.1 c33.2
        refine si rfl hk rfl rfl rfl rfl un88 sz172 c33.1 c33.2 hAc33 fun a hk => ?_
        obtain ⟨_, rfl, e36⟩ := (v0_).at_ z_Op u16 c33.1 c33.2
        refine sln [.int .i64 ((l0.getD u16.toNat z_Op).Kind), .int .i64 ((l0.getD u16.toNat z_Op).Key), .int .i64 ((l0.getD u16.toNat z_Op).Value)] rfl hk rfl rfl rfl ag172 sz172 (cells_at e36 (hs.hasD (k := 1) rfl)) fun a hk => ?_
        obtain ⟨y37, h38, H⟩ := bind_some H
        refine sc rfl en153 hk rfl rfl rfl (laws_toOp_t _ (l0.getD u16.toNat z_Op) _ h38) ?_
        rintro _ w ⟨rfl, hG⟩ a hk
        have hs := hs.call0 hG
        rcases ite_some H with ⟨c39, H⟩ | ⟨_, H⟩
        rotate_left
        · cases H
        obtain ⟨b40, q41, hAc39⟩ := (o14.view).some_ u16 c39.1 (by rw [lh15]; exact c39.2)
        refine si rfl hk rfl rfl rfl rfl un93 sz135 c39.1 c39.2 hAc39 fun a hk => ?_
        refine so (j := 0) 2 z_Op y37 hs rfl o14 c39.1 (by rw [lh15]; exact c39.2) rfl hk rfl rfl rfl rfl rfl sz135 (by simp [Value.cells, Value.oneCell']) (Nat.le_of_ble_eq_true rfl) (fun _ _ h => ⟨by rw [h.1]; rfl, h.2⟩) fun k42 w a hk o43 hs => ?_
        have lh44 : (u12.set u16.toNat y37).length = (((l0.length : Int)).toNat) := by rw [List.length_set]; exact lh15
        show wpList _ _ _ [] _ _
        refine wpList_nil ?_
        refine hK32 _ _ ?_
        apply wp_region_lit
        refine sm _ rfl hk rfl rfl rfl fun a hk => ?_
        refine sv (.int .i64 (w64 (u16 + 1))) hk rfl rfl rfl fun a hk => ?_
        refine sa _ rfl hk rfl rfl rfl fun a hk => ?_
        show wpList _ _ _ [] _ _
        refine wpList_nil ?_
        obtain rfl := Option.some.inj H
        obtain ⟨m45, hmm45, h28⟩ := h28
        show ∃ n', n' < _ ∧ I25 n' _ _
        refine ⟨m45, hmm45, ?_⟩
        rw [hI25]
        exact ⟨(u12.set u16.toNat y37), (w64 (u16 + 1)), _, h28, (hk.c 0 rfl (hk.c 3 rfl (hk.c 4 rfl hk.k))), (hs.pick [(2, 2)] rfl), o43, lh44⟩
      · have hk := hk.lit 11 c31 rfl
        refine cnd_false hk rfl rfl ?_
        refine wp_exit ?_
        obtain rfl := Option.some.inj H
        show R24 _ _
        rw [hR24]
        exact ⟨u12, _, h28.symm, (hk.c 3 rfl hk.k), (hs.pick [(2, 2)] rfl), o14, lh15⟩
  · intro a w hR0
    rw [hR24] at hR0
    obtain ⟨u17, k18, rfl, hk, hs, o19, lh20⟩ := hR0
    have H := HL23
    try dsimp only at H
    refine hK8 _ _ ?_
    apply wp_seq_k; intro K46 hK46
    apply wp_region_lit
    refine sm _ rfl hk rfl rfl rfl fun a hk => ?_
    refine sa _ rfl hk rfl rfl rfl fun a hk => ?_
    show wpList _ _ _ [] _ _
    refine wpList_nil ?_
    refine hK46 _ _ ?_
    refine wp_ret ?_
    obtain rfl := Option.some.inj H
    exact fin hk _ [(.slice (some ⟨b4, 0, none⟩) (((l0.length : Int)).toNat) (((l0.length : Int)).toNat))] rfl ⟨rfl, trivial⟩ ⟨(some ⟨b4, 0, none⟩), (((l0.length : Int)).toNat), _, (by first | (rw [lh20]; done) | (rw [lh20]; rfl)), o19, (hs.pick [(0, 2)] rfl).dnil⟩

noncomputable def laws_toTxn.f (x0 : S_Txn) : Option (S_Txn) :=
  ((laws_toOpS.f x0.Ops).bind fun y7 => (some (⟨y7⟩ : S_Txn)))
set_option maxRecDepth 100000 in
set_option maxHeartbeats 0 in
theorem laws_toTxn_t (w0 : World) (x0 : S_Txn) (A0_0 : Option Addr) (p0_0 : Nat) (k0_0 : Chunk) (v0_0 : View L_Op A0_0 p0_0 x0.Ops k0_0) (w0_0 : Has w0 k0_0) (r : S_Txn) (H : laws_toTxn.f x0 = some r) :
    Calls Try.prog 64 #[.agg #[.slice A0_0 x0.Ops.length p0_0]] w0 (Ret (fun v w => ∃ (A0 : Option Addr) (p0 : Nat) (k0 : Chunk), v = .agg #[.slice A0 r.Ops.length p0] ∧ Own L_Op 135 A0 p0 r.Ops k0 ∧ Sat [] w0 w [] [(0, k0)])) := by
  have hs : Sat [] w0 w0 [(1, k0_0)] [] := Sat.init w0 [(1, k0_0)] [] (by simp only [List.mem_cons, List.not_mem_nil, or_false]; rintro x (rfl) <;> assumption) (by simp) List.nodup_nil (by simp [blks])
  unfold laws_toTxn.f at H
  refine enter Try.func64 rfl Try.ntmps64 rfl fun a hk => ?_
  apply wp_seq_k; intro K1 hK1
  apply wp_region_lit
  refine sbx 2 hs rfl hk rfl rfl rfl rfl fun b2 w a hk hs => ?_
  refine salx 3 hs rfl hk rfl rfl ze95 rfl fun b3 w a hk hs => ?_
  show wpList _ _ _ [] _ _
  refine wpList_nil ?_
  refine hK1 _ _ ?_
  apply wp_seq_k; intro K4 hK4
  apply wp_region_lit
  refine salx 4 hs rfl hk rfl rfl ze95 rfl fun b5 w a hk hs => ?_
  show wpList _ _ _ [] _ _
  refine wpList_nil ?_
  refine hK4 _ _ ?_
  apply wp_seq_k; intro K6 hK6
  apply wp_region_lit
  refine sf ⟨b2, 0, none⟩ rfl hk rfl rfl rfl fd90_0 rfl fun a hk => ?_
  refine sl rfl hk rfl rfl rfl ag88 (box_cell hs (k := 2) rfl rfl) fun a hk => ?_
  obtain ⟨y7, h8, H⟩ := bind_some H
  refine sc rfl en113 hk rfl rfl rfl (laws_toOpS_t _ A0_0 p0_0 x0.Ops _ v0_0 (hs.hasD (k := 1) rfl) _ h8) ?_
  rintro _ w ⟨A9, p10, k11, rfl, o12, hG⟩ a hk
  have hs := hs.call0k hG [5] rfl
  refine sf ⟨b5, 0, none⟩ rfl hk rfl rfl rfl fd95_0 rfl fun a hk => ?_
  refine ssx (cs' := #[.slice A9 y7.length p10]) 4 hs rfl rfl hk rfl rfl rfl rfl sz93 rfl rfl rfl rfl fun w a hk hs => ?_
  show wpList _ _ _ [] _ _
  refine wpList_nil ?_
  refine hK6 _ _ ?_
  apply wp_seq_k; intro K13 hK13
  apply wp_region_lit
  refine sln [.slice A9 y7.length p10] rfl hk rfl rfl rfl ag95 sz95 (box_cells hs (k := 4) rfl) fun a hk => ?_
  refine ssw 3 hs rfl rfl hk rfl rfl rfl rfl sz95 (by simp [Value.oneCell']) rfl fun w a hk hs => ?_
  show wpList _ _ _ [] _ _
  refine wpList_nil ?_
  refine hK13 _ _ ?_
  refine wp_ret ?_
  obtain rfl := Option.some.inj H
  exact fin hk _ [(.agg #[.slice A9 y7.length p10])] rfl ⟨⟨_, rfl, run_loadN ag95 sz95 (box_cells hs (k := 3) rfl)⟩, trivial⟩ ⟨A9, p10, _, rfl, o12, (hs.pick [(0, 5)] rfl).dnil⟩

noncomputable def laws_toTxnS.s0 (l0 : List S_Txn) (u12 : List S_Txn) (u16 : Int) : Option (((List S_Txn) × Int) ⊕ Ex ((List S_Txn)) ((List S_Txn))) :=
  (bif (decide (u16 < (l0.length : Int))) then (if 0 ≤ u16 ∧ u16 < (l0.length : Int) then ((laws_toTxn.f (l0.getD u16.toNat z_Txn)).bind fun y40 => (if 0 ≤ u16 ∧ u16 < ((((l0.length : Int)).toNat) : Int) then (some (.inl ((u12.set u16.toNat y40), (w64 (u16 + 1))))) else none)) else none) else (some (.inr (.out u12))))
noncomputable def laws_toTxnS.f (l0 : List S_Txn) : Option ((List S_Txn)) :=
  (if 0 ≤ (l0.length : Int) ∧ (l0.length : Int) ≤ 1073741824 then ((loopO (fun s => laws_toTxnS.s0 l0 s.1 s.2) ((List.replicate ((l0.length : Int)).toNat z_Txn), 0)).bind fun o => match o with | .out u17 => (some u17) | .ret r => (some r)) else none)
set_option maxRecDepth 100000 in
set_option maxHeartbeats 0 in
theorem laws_toTxnS_t (w0 : World) (A0_ : Option Addr) (p0_ : Nat) (l0 : List S_Txn) (k0_ : Chunk) (v0_ : View L_laws_Txn A0_ p0_ l0 k0_) (w0_ : Has w0 k0_) (r : (List S_Txn)) (H : laws_toTxnS.f l0 = some r) :
    Calls Try.prog 18 #[.slice A0_ l0.length p0_] w0 (Ret (fun v w => ∃ (A0 : Option Addr) (p0 : Nat) (k0 : Chunk), v = .slice A0 r.length p0 ∧ Own L_impl_Txn 95 A0 p0 r k0 ∧ Sat [] w0 w [] [(0, k0)])) := by
  have hs : Sat [] w0 w0 [(1, k0_)] [] := Sat.init w0 [(1, k0_)] [] (by simp only [List.mem_cons, List.not_mem_nil, or_false]; rintro x (rfl) <;> assumption) (by simp) List.nodup_nil (by simp [blks])
  unfold laws_toTxnS.f at H
  refine enter Try.func18 rfl Try.ntmps18 rfl fun a hk => ?_
  apply wp_seq_k; intro K1 hK1
  apply wp_region_lit
  refine sa _ rfl hk rfl rfl rfl fun a hk => ?_
  show wpList _ _ _ [] _ _
  refine wpList_nil ?_
  refine hK1 _ _ ?_
  apply wp_seq_k; intro K2 hK2
  apply wp_region_lit
  refine sm _ rfl hk rfl rfl rfl fun a hk => ?_
  refine sle rfl hk rfl rfl rfl un30 fun a hk => ?_
  rcases ite_some H with ⟨c3, H⟩ | ⟨_, H⟩
  rotate_left
  · cases H
  refine smk 2 L_impl_Txn hs rfl hk rfl rfl rfl rfl un34 mk95 lz95 rfl rfl c3.1 c3.2 fun b4 k5 w a hk o6 hs => ?_
  have lh7 : (List.replicate ((l0.length : Int)).toNat z_Txn).length = ((l0.length : Int)).toNat := List.length_replicate
  refine sa _ rfl hk rfl rfl rfl fun a hk => ?_
  show wpList _ _ _ [] _ _
  refine wpList_nil ?_
  refine hK2 _ _ ?_
  apply wp_seq_k; intro K8 hK8
  apply wp_seq_k; intro K9 hK9
  apply wp_region_lit
  refine sa _ rfl hk rfl rfl rfl fun a hk => ?_
  show wpList _ _ _ [] _ _
  refine wpList_nil ?_
  refine hK9 _ _ ?_
  obtain ⟨o21, h22, HL23⟩ := bind_some H
  clear H
  obtain ⟨R24, hR24⟩ : ∃ R : Act → World → Prop, R = fun a w => ∃ (u17 : List S_Txn) (k18 : Chunk), o21 = .out u17 ∧ Kn [(3, (.slice (some ⟨b4, 0, none⟩) (((l0.length : Int)).toNat) (((l0.length : Int)).toNat)))] 23 a ∧ Sat [] w0 w [(1, k0_)] [(2, k18)] ∧ Own L_impl_Txn 95 (some ⟨b4, 0, none⟩) (((l0.length : Int)).toNat) u17 k18 ∧ u17.length = (((l0.length : Int)).toNat) := ⟨_, rfl⟩
  refine wp_cutq R24 ?_ ?_
  · refine wp_block ?_
    obtain ⟨fu26, h22⟩ := loopO_some h22
    obtain ⟨I25, hI25⟩ : ∃ I : Nat → Act → World → Prop, I = fun fu a w => ∃ (u12 : List S_Txn) (u16 : Int) (k13 : Chunk), loopN (fun s => laws_toTxnS.s0 l0 s.1 s.2) fu (u12, u16) = some o21 ∧ Kn [(0, (.slice A0_ l0.length p0_)), (3, (.slice (some ⟨b4, 0, none⟩) (((l0.length : Int)).toNat) (((l0.length : Int)).toNat))), (4, (.int .i64 u16))] 23 a ∧ Sat [] w0 w [(1, k0_)] [(2, k13)] ∧ Own L_impl_Txn 95 (some ⟨b4, 0, none⟩) (((l0.length : Int)).toNat) u12 k13 ∧ u12.length = (((l0.length : Int)).toNat) := ⟨_, rfl⟩
    refine wp_loop_ghost I25 fu26 ?_ ?_
    · rw [hI25]
      exact ⟨(List.replicate ((l0.length : Int)).toNat z_Txn), 0, _, h22, (hk.c 0 rfl (hk.c 3 rfl (hk.c 4 rfl hk.k))), (hs.pick [(2, 2)] rfl), o6, lh7⟩
    · clear h22 hk hs
      intro fu26 a w hI0
      rw [hI25] at hI0
      obtain ⟨u12, u16, k13, hi, hk, hs, o14, lh15⟩ := hI0
      obtain ⟨x27, H, h28⟩ := loop_round hi
      try dsimp only at H
      unfold laws_toTxnS.s0 at H
      apply wp_seq_k; intro K29 hK29
      apply wp_seq_k; intro K30 hK30
      apply wp_region_lit
      refine sm _ rfl hk rfl rfl rfl fun a hk => ?_
      refine sm _ rfl hk rfl rfl rfl fun a hk => ?_
      refine sle rfl hk rfl rfl rfl un30 fun a hk => ?_
      refine sv (.bool (decide (u16 < (l0.length : Int)))) hk rfl rfl rfl fun a hk => ?_
      show wpList _ _ _ [] _ _
      refine wpList_nil ?_
      refine hK30 _ _ ?_
      rcases cond_some H with ⟨c31, H⟩ | ⟨c31, H⟩
      · have hk := hk.lit 11 c31 rfl
        refine cnd_true hk rfl rfl ?_
        refine wp_skip ?_
        refine hK29 _ _ ?_
        apply wp_seq_k; intro K32 hK32
        refine wp_block ?_
        apply wp_region_lit
        refine sm _ rfl hk rfl rfl rfl fun a hk => ?_
        refine sm _ rfl hk rfl rfl rfl fun a hk => ?_
        refine sm _ rfl hk rfl rfl rfl fun a hk => ?_
        refine sm _ rfl hk rfl rfl rfl fun a hk => ?_
        rcases ite_some H with ⟨c33, H⟩ | ⟨_, H⟩
        rotate_left
        · cases H
        obtain ⟨b34, q35, hAc33⟩ := (v0_).some_ u16 c33.1 c33.2
        refine si rfl hk rfl rfl rfl rfl un30 sz90 c33.1 c33.2 hAc33 fun a hk => ?_
        obtain ⟨_, ⟨_, rfl, A37, p38, rfl, v39⟩, e36⟩ := (v0_).at_ z_Txn u16 c33.1 c33.2
        refine sln [.slice A37 ((l0.getD u16.toNat z_Txn).Ops).length p38] rfl hk rfl rfl rfl ag90 sz90 (cells_at e36 (hs.hasD (k := 1) rfl)) fun a hk => ?_
        obtain ⟨y40, h41, H⟩ := bind_some H
        refine sc rfl en64 hk rfl rfl rfl (laws_toTxn_t _ (l0.getD u16.toNat z_Txn) A37 p38 _ v39 (hs.hasD (k := 1) rfl) _ h41) ?_
        rintro _ w ⟨A42, p43, k44, rfl, o45, hG⟩ a hk
        have hs := hs.call0k hG [4] rfl
        rcases ite_some H with ⟨c46, H⟩ | ⟨_, H⟩
        rotate_left
        · cases H
        obtain ⟨b47, q48, hAc46⟩ := (o14.view).some_ u16 c46.1 (by rw [lh15]; exact c46.2)
        refine si rfl hk rfl rfl rfl rfl un34 sz95 c46.1 c46.2 hAc46 fun a hk => ?_
        refine som 2 4 z_Txn y40 hs rfl rfl o14 c46.1 (by rw [lh15]; exact c46.2) rfl hk rfl rfl rfl rfl rfl sz95 (by simp [Value.cells, Value.oneCell']) rfl ⟨_, rfl, o45.toV⟩ fun k49 w a hk o50 hs => ?_
        have lh51 : (u12.set u16.toNat y40).length = (((l0.length : Int)).toNat) := by rw [List.length_set]; exact lh15
        show wpList _ _ _ [] _ _
        refine wpList_nil ?_
        refine hK32 _ _ ?_
        apply wp_region_lit
        refine sm _ rfl hk rfl rfl rfl fun a hk => ?_
        refine sv (.int .i64 (w64 (u16 + 1))) hk rfl rfl rfl fun a hk => ?_
        refine sa _ rfl hk rfl rfl rfl fun a hk => ?_
        show wpList _ _ _ [] _ _
        refine wpList_nil ?_
        obtain rfl := Option.some.inj H
        obtain ⟨m52, hmm52, h28⟩ := h28
        show ∃ n', n' < _ ∧ I25 n' _ _
        refine ⟨m52, hmm52, ?_⟩
        rw [hI25]
        exact ⟨(u12.set u16.toNat y40), (w64 (u16 + 1)), _, h28, (hk.c 0 rfl (hk.c 3 rfl (hk.c 4 rfl hk.k))), (hs.pick [(2, 2)] rfl), o50, lh51⟩
      · have hk := hk.lit 11 c31 rfl
        refine cnd_false hk rfl rfl ?_
        refine wp_exit ?_
        obtain rfl := Option.some.inj H
        show R24 _ _
        rw [hR24]
        exact ⟨u12, _, h28.symm, (hk.c 3 rfl hk.k), (hs.pick [(2, 2)] rfl), o14, lh15⟩
  · intro a w hR0
    rw [hR24] at hR0
    obtain ⟨u17, k18, rfl, hk, hs, o19, lh20⟩ := hR0
    have H := HL23
    try dsimp only at H
    refine hK8 _ _ ?_
    apply wp_seq_k; intro K53 hK53
    apply wp_region_lit
    refine sm _ rfl hk rfl rfl rfl fun a hk => ?_
    refine sa _ rfl hk rfl rfl rfl fun a hk => ?_
    show wpList _ _ _ [] _ _
    refine wpList_nil ?_
    refine hK53 _ _ ?_
    refine wp_ret ?_
    obtain rfl := Option.some.inj H
    exact fin hk _ [(.slice (some ⟨b4, 0, none⟩) (((l0.length : Int)).toNat) (((l0.length : Int)).toNat))] rfl ⟨rfl, trivial⟩ ⟨(some ⟨b4, 0, none⟩), (((l0.length : Int)).toNat), _, (by first | (rw [lh20]; done) | (rw [lh20]; rfl)), o19, (hs.pick [(0, 2)] rfl).dnil⟩

noncomputable def laws_toIntS.s0 (l0 : List Int) (u12 : List Int) (u16 : Int) : Option (((List Int) × Int) ⊕ Ex ((List Int)) ((List Int))) :=
  (bif (decide (u16 < (l0.length : Int))) then (if 0 ≤ u16 ∧ u16 < (l0.length : Int) then (if 0 ≤ u16 ∧ u16 < ((((l0.length : Int)).toNat) : Int) then (some (.inl ((u12.set u16.toNat (l0.getD u16.toNat 0)), (w64 (u16 + 1))))) else none) else none) else (some (.inr (.out u12))))
noncomputable def laws_toIntS.f (l0 : List Int) : Option ((List Int)) :=
  (if 0 ≤ (l0.length : Int) ∧ (l0.length : Int) ≤ 1073741824 then ((loopO (fun s => laws_toIntS.s0 l0 s.1 s.2) ((List.replicate ((l0.length : Int)).toNat (0 : Int)), 0)).bind fun o => match o with | .out u17 => (some u17) | .ret r => (some r)) else none)
set_option maxRecDepth 100000 in
set_option maxHeartbeats 0 in
theorem laws_toIntS_t (w0 : World) (A0_ : Option Addr) (p0_ : Nat) (l0 : List Int) (k0_ : Chunk) (v0_ : View (Lay.int .i64) A0_ p0_ l0 k0_) (w0_ : Has w0 k0_) (r : (List Int)) (H : laws_toIntS.f l0 = some r) :
    Calls Try.prog 19 #[.slice A0_ l0.length p0_] w0 (Ret (fun v w => ∃ (A0 : Option Addr) (p0 : Nat) (k0 : Chunk), v = .slice A0 r.length p0 ∧ Own (Lay.int .i64) 3 A0 p0 r k0 ∧ Sat [] w0 w [] [(0, k0)])) := by
  have hs : Sat [] w0 w0 [(1, k0_)] [] := Sat.init w0 [(1, k0_)] [] (by simp only [List.mem_cons, List.not_mem_nil, or_false]; rintro x (rfl) <;> assumption) (by simp) List.nodup_nil (by simp [blks])
  unfold laws_toIntS.f at H
  refine enter Try.func19 rfl Try.ntmps19 rfl fun a hk => ?_
  apply wp_seq_k; intro K1 hK1
  apply wp_region_lit
  refine sa _ rfl hk rfl rfl rfl fun a hk => ?_
  show wpList _ _ _ [] _ _
  refine wpList_nil ?_
  refine hK1 _ _ ?_
  apply wp_seq_k; intro K2 hK2
  apply wp_region_lit
  refine sm _ rfl hk rfl rfl rfl fun a hk => ?_
  refine sle rfl hk rfl rfl rfl un31 fun a hk => ?_
  rcases ite_some H with ⟨c3, H⟩ | ⟨_, H⟩
  rotate_left
  · cases H
  refine smk 2 (Lay.int .i64) hs rfl hk rfl rfl rfl rfl un31 mk3 lz3 rfl rfl c3.1 c3.2 fun b4 k5 w a hk o6 hs => ?_
  have lh7 : (List.replicate ((l0.length : Int)).toNat (0 : Int)).length = ((l0.length : Int)).toNat := List.length_replicate
  refine sa _ rfl hk rfl rfl rfl fun a hk => ?_
  show wpList _ _ _ [] _ _
  refine wpList_nil ?_
  refine hK2 _ _ ?_
  apply wp_seq_k; intro K8 hK8
  apply wp_seq_k; intro K9 hK9
  apply wp_region_lit
  refine sa _ rfl hk rfl rfl rfl fun a hk => ?_
  show wpList _ _ _ [] _ _
  refine wpList_nil ?_
  refine hK9 _ _ ?_
  obtain ⟨o21, h22, HL23⟩ := bind_some H
  clear H
  obtain ⟨R24, hR24⟩ : ∃ R : Act → World → Prop, R = fun a w => ∃ (u17 : List Int) (k18 : Chunk), o21 = .out u17 ∧ Kn [(3, (.slice (some ⟨b4, 0, none⟩) (((l0.length : Int)).toNat) (((l0.length : Int)).toNat)))] 22 a ∧ Sat [] w0 w [(1, k0_)] [(2, k18)] ∧ Own (Lay.int .i64) 3 (some ⟨b4, 0, none⟩) (((l0.length : Int)).toNat) u17 k18 ∧ u17.length = (((l0.length : Int)).toNat) := ⟨_, rfl⟩
  refine wp_cutq R24 ?_ ?_
  · refine wp_block ?_
    obtain ⟨fu26, h22⟩ := loopO_some h22
    obtain ⟨I25, hI25⟩ : ∃ I : Nat → Act → World → Prop, I = fun fu a w => ∃ (u12 : List Int) (u16 : Int) (k13 : Chunk), loopN (fun s => laws_toIntS.s0 l0 s.1 s.2) fu (u12, u16) = some o21 ∧ Kn [(0, (.slice A0_ l0.length p0_)), (3, (.slice (some ⟨b4, 0, none⟩) (((l0.length : Int)).toNat) (((l0.length : Int)).toNat))), (4, (.int .i64 u16))] 22 a ∧ Sat [] w0 w [(1, k0_)] [(2, k13)] ∧ Own (Lay.int .i64) 3 (some ⟨b4, 0, none⟩) (((l0.length : Int)).toNat) u12 k13 ∧ u12.length = (((l0.length : Int)).toNat) := ⟨_, rfl⟩
    refine wp_loop_ghost I25 fu26 ?_ ?_
    · rw [hI25]
      exact ⟨(List.replicate ((l0.length : Int)).toNat (0 : Int)), 0, _, h22, (hk.c 0 rfl (hk.c 3 rfl (hk.c 4 rfl hk.k))), (hs.pick [(2, 2)] rfl), o6, lh7⟩
    · clear h22 hk hs
      intro fu26 a w hI0
      rw [hI25] at hI0
      obtain ⟨u12, u16, k13, hi, hk, hs, o14, lh15⟩ := hI0
      obtain ⟨x27, H, h28⟩ := loop_round hi
      try dsimp only at H
      unfold laws_toIntS.s0 at H
      apply wp_seq_k; intro K29 hK29
      apply wp_seq_k; intro K30 hK30
      apply wp_region_lit
      refine sm _ rfl hk rfl rfl rfl fun a hk => ?_
      refine sm _ rfl hk rfl rfl rfl fun a hk => ?_
      refine sle rfl hk rfl rfl rfl un31 fun a hk => ?_
      refine sv (.bool (decide (u16 < (l0.length : Int)))) hk rfl rfl rfl fun a hk => ?_
      show wpList _ _ _ [] _ _
      refine wpList_nil ?_
      refine hK30 _ _ ?_
      rcases cond_some H with ⟨c31, H⟩ | ⟨c31, H⟩
      · have hk := hk.lit 11 c31 rfl
        refine cnd_true hk rfl rfl ?_
        refine wp_skip ?_
        refine hK29 _ _ ?_
        apply wp_seq_k; intro K32 hK32
        refine wp_block ?_
        apply wp_region_lit
        refine sm _ rfl hk rfl rfl rfl fun a hk => ?_
        refine sm _ rfl hk rfl rfl rfl fun a hk => ?_
        refine sm _ rfl hk rfl rfl rfl fun a hk => ?_
        refine sm _ rfl hk rfl rfl rfl fun a hk => ?_
        rcases ite_some H with ⟨c33, H⟩ | ⟨_, H⟩
        rotate_left
        · cases H
        obtain ⟨b34, q35, hAc33⟩ := (v0_).some_ u16 c33.1 c33.2
        refine si rfl hk rfl rfl rfl rfl un31 sz3 c33.1 c33.2 hAc33 fun a hk => ?_
        obtain ⟨_, rfl, e36⟩ := (v0_).at_ 0 u16 c33.1 c33.2
        refine sl (v := (.int .i64 (l0.getD u16.toNat 0))) rfl hk rfl rfl rfl ag3 ((e36 0 _ rfl).cell (hs.hasD (k := 1) rfl)) fun a hk => ?_
        rcases ite_some H with ⟨c37, H⟩ | ⟨_, H⟩
        rotate_left
        · cases H
        obtain ⟨b38, q39, hAc37⟩ := (o14.view).some_ u16 c37.1 (by rw [lh15]; exact c37.2)
        refine si rfl hk rfl rfl rfl rfl un31 sz3 c37.1 c37.2 hAc37 fun a hk => ?_
        refine so (j := 0) 2 0 (l0.getD u16.toNat 0) hs rfl o14 c37.1 (by rw [lh15]; exact c37.2) rfl hk rfl rfl rfl rfl rfl sz3 (by simp [Value.cells, Value.oneCell']) (Nat.le_of_ble_eq_true rfl) (fun _ _ h => ⟨by rw [h.1]; rfl, h.2⟩) fun k40 w a hk o41 hs => ?_
        have lh42 : (u12.set u16.toNat (l0.getD u16.toNat 0)).length = (((l0.length : Int)).toNat) := by rw [List.length_set]; exact lh15
        show wpList _ _ _ [] _ _
        refine wpList_nil ?_
        refine hK32 _ _ ?_
        apply wp_region_lit
        refine sm _ rfl hk rfl rfl rfl fun a hk => ?_
        refine sv (.int .i64 (w64 (u16 + 1))) hk rfl rfl rfl fun a hk => ?_
        refine sa _ rfl hk rfl rfl rfl fun a hk => ?_
        show wpList _ _ _ [] _ _
        refine wpList_nil ?_
        obtain rfl := Option.some.inj H
        obtain ⟨m43, hmm43, h28⟩ := h28
        show ∃ n', n' < _ ∧ I25 n' _ _
        refine ⟨m43, hmm43, ?_⟩
        rw [hI25]
        exact ⟨(u12.set u16.toNat (l0.getD u16.toNat 0)), (w64 (u16 + 1)), _, h28, (hk.c 0 rfl (hk.c 3 rfl (hk.c 4 rfl hk.k))), (hs.pick [(2, 2)] rfl), o41, lh42⟩
      · have hk := hk.lit 11 c31 rfl
        refine cnd_false hk rfl rfl ?_
        refine wp_exit ?_
        obtain rfl := Option.some.inj H
        show R24 _ _
        rw [hR24]
        exact ⟨u12, _, h28.symm, (hk.c 3 rfl hk.k), (hs.pick [(2, 2)] rfl), o14, lh15⟩
  · intro a w hR0
    rw [hR24] at hR0
    obtain ⟨u17, k18, rfl, hk, hs, o19, lh20⟩ := hR0
    have H := HL23
    try dsimp only at H
    refine hK8 _ _ ?_
    apply wp_seq_k; intro K44 hK44
    apply wp_region_lit
    refine sm _ rfl hk rfl rfl rfl fun a hk => ?_
    refine sa _ rfl hk rfl rfl rfl fun a hk => ?_
    show wpList _ _ _ [] _ _
    refine wpList_nil ?_
    refine hK44 _ _ ?_
    refine wp_ret ?_
    obtain rfl := Option.some.inj H
    exact fin hk _ [(.slice (some ⟨b4, 0, none⟩) (((l0.length : Int)).toNat) (((l0.length : Int)).toNat))] rfl ⟨rfl, trivial⟩ ⟨(some ⟨b4, 0, none⟩), (((l0.length : Int)).toNat), _, (by first | (rw [lh20]; done) | (rw [lh20]; rfl)), o19, (hs.pick [(0, 2)] rfl).dnil⟩

noncomputable def impl_within.f (x0 : Int) (x1 : Int) (x2 : Int) : Option (Bool) :=
  (((bif (decide (x1 ≤ x0)) then (some (decide (x0 ≤ x2))) else (some false)) : Option (Bool)).bind fun u4 => (some u4))
set_option maxRecDepth 100000 in
set_option maxHeartbeats 0 in
theorem impl_within_t (w0 : World) (x0 : Int) (x1 : Int) (x2 : Int) (r : Bool) (H : impl_within.f x0 x1 x2 = some r) :
    Calls Try.prog 115 #[.int .i64 x0, .int .i64 x1, .int .i64 x2] w0 (Ret (fun v w => v = .bool r ∧ Sat [] w0 w [] [])) := by
  have hs : Sat [] w0 w0 [] [] := Sat.init w0 [] [] (by simp) (by simp) List.nodup_nil (by simp [blks])
  unfold impl_within.f at H
  refine enter Try.func115 rfl Try.ntmps115 rfl fun a hk => ?_
  apply wp_seq_k; intro K1 hK1
  apply wp_region_lit
  refine sa _ rfl hk rfl rfl rfl fun a hk => ?_
  show wpList _ _ _ [] _ _
  refine wpList_nil ?_
  refine hK1 _ _ ?_
  apply wp_seq_k; intro K2 hK2
  obtain ⟨o5, h6, HL7⟩ := bind_some H
  clear H
  obtain ⟨R8, hR8⟩ : ∃ R : Act → World → Prop, R = fun a w => ∃ (u4 : Bool), u4 = o5 ∧ Kn [(6, (.bool u4))] 15 a ∧ Sat [] w0 w [] [] := ⟨_, rfl⟩
  refine wp_cutq R8 ?_ ?_
  · have H := h6
    apply wp_region_lit
    refine sm _ rfl hk rfl rfl rfl fun a hk => ?_
    refine sm _ rfl hk rfl rfl rfl fun a hk => ?_
    refine sv (.bool (decide (x1 ≤ x0))) hk rfl rfl rfl fun a hk => ?_
    refine sm _ rfl hk rfl rfl rfl fun a hk => ?_
    rcases cond_some H with ⟨c9, H⟩ | ⟨c9, H⟩
    · have hk := hk.lit 10 c9 rfl
      refine sm _ rfl hk rfl rfl rfl fun a hk => ?_
      refine sm _ rfl hk rfl rfl rfl fun a hk => ?_
      refine sv (.bool (decide (x0 ≤ x2))) hk rfl rfl rfl fun a hk => ?_
      refine sv (.bool (decide (x0 ≤ x2))) hk rfl rfl rfl fun a hk => ?_
      refine sa _ rfl hk rfl rfl rfl fun a hk => ?_
      show wpList _ _ _ [] _ _
      refine wpList_nil ?_
      obtain rfl := Option.some.inj H
      show R8 _ _
      rw [hR8]
      exact ⟨(decide (x0 ≤ x2)), rfl, (hk.c 6 rfl hk.k), (hs.pick [] rfl)⟩
    · have hk := hk.lit 10 c9 rfl
      refine sk hk rfl rfl rfl fun a hk => ?_
      refine sk hk rfl rfl rfl fun a hk => ?_
      refine sk hk rfl rfl rfl fun a hk => ?_
      refine sv (.bool false) hk rfl rfl rfl fun a hk => ?_
      refine sa _ rfl hk rfl rfl rfl fun a hk => ?_
      show wpList _ _ _ [] _ _
      refine wpList_nil ?_
      obtain rfl := Option.some.inj H
      show R8 _ _
      rw [hR8]
      exact ⟨false, rfl, (hk.c 6 rfl hk.k), (hs.pick [] rfl)⟩
  · intro a w hR0
    rw [hR8] at hR0
    obtain ⟨u4, rfl, hk, hs⟩ := hR0
    have H := HL7
    try dsimp only at H
    refine hK2 _ _ ?_
    refine wp_ret ?_
    obtain rfl := Option.some.inj H
    exact fin hk _ [(.bool u4)] rfl ⟨rfl, trivial⟩ ⟨rfl, (hs.pick [] rfl).dnil⟩

noncomputable def impl_isLeaf.f (x0 : Int) : Option (Bool) :=
  ((impl_within.f x0 0 7).bind fun y3 => (some y3))
set_option maxRecDepth 100000 in
set_option maxHeartbeats 0 in
theorem impl_isLeaf_t (w0 : World) (x0 : Int) (r : Bool) (H : impl_isLeaf.f x0 = some r) :
    Calls Try.prog 106 #[.int .i64 x0] w0 (Ret (fun v w => v = .bool r ∧ Sat [] w0 w [] [])) := by
  have hs : Sat [] w0 w0 [] [] := Sat.init w0 [] [] (by simp) (by simp) List.nodup_nil (by simp [blks])
  unfold impl_isLeaf.f at H
  refine enter Try.func106 rfl Try.ntmps106 rfl fun a hk => ?_
  apply wp_seq_k; intro K1 hK1
  apply wp_region_lit
  refine sa _ rfl hk rfl rfl rfl fun a hk => ?_
  show wpList _ _ _ [] _ _
  refine wpList_nil ?_
  refine hK1 _ _ ?_
  apply wp_seq_k; intro K2 hK2
  apply wp_region_lit
  refine sm _ rfl hk rfl rfl rfl fun a hk => ?_
  obtain ⟨y3, h4, H⟩ := bind_some H
  refine sc rfl en115 hk rfl rfl rfl (impl_within_t _ x0 0 7 _ h4) ?_
  rintro _ w ⟨rfl, hG⟩ a hk
  have hs := hs.call0 hG
  refine sa _ rfl hk rfl rfl rfl fun a hk => ?_
  show wpList _ _ _ [] _ _
  refine wpList_nil ?_
  refine hK2 _ _ ?_
  refine wp_ret ?_
  obtain rfl := Option.some.inj H
  exact fin hk _ [(.bool y3)] rfl ⟨rfl, trivial⟩ ⟨rfl, (hs.pick [] rfl).dnil⟩

noncomputable def slices_IndexFunc_int_int.s0 (l0 : List Int) (q1 : Int → Option (Bool)) (u6 : Int) : Option ((Int) ⊕ Ex (Unit) (Int)) :=
  (bif (decide (u6 < (l0.length : Int))) then (if 0 ≤ u6 ∧ u6 < (l0.length : Int) then ((q1 (l0.getD u6.toNat 0)).bind fun y25 => (bif y25 then (some (.inr (.ret u6))) else (some (.inl (w64 (u6 + 1)))))) else none) else (some (.inr (.out ()))))
noncomputable def slices_IndexFunc_int_int.f (l0 : List Int) (q1 : Int → Option (Bool)) : Option (Int) :=
  ((loopO (fun s => slices_IndexFunc_int_int.s0 l0 q1 s) 0).bind fun o => match o with | .out _ => (some (-1)) | .ret r => (some r))
set_option maxRecDepth 100000 in
set_option maxHeartbeats 0 in
theorem slices_IndexFunc_int_int_t (w0 : World) (A0_ : Option Addr) (p0_ : Nat) (l0 : List Int) (k0_ : Chunk) (v0_ : View (Lay.int .i64) A0_ p0_ l0 k0_) (w0_ : Has w0 k0_) (f1_ : FuncId) (c1_ : List Value) (e1_ : Enters Try.prog f1_) (q1 : Int → Option (Bool)) (k1_ : Chunk) (t1_ : ∀ w, Has w k1_ → ∀ (z0 : Int) (r : Bool), q1 z0 = some r → Calls Try.prog f1_ (([.int .i64 z0] : List Value) ++ c1_).toArray w (Ret (fun v w2 => v = .bool r ∧ Sat [] w w2 [] []))) (w1_ : Has w0 k1_) (r : Int) (H : slices_IndexFunc_int_int.f l0 q1 = some r) :
    Calls Try.prog 180 #[.slice A0_ l0.length p0_, .func (.func f1_) #[] c1_.toArray] w0 (Ret (fun v w => v = .int .i64 r ∧ Sat [] w0 w [] [])) := by
  have hs : Sat [] w0 w0 [(1, k0_), (2, k1_)] [] := Sat.init w0 [(1, k0_), (2, k1_)] [] (by simp only [List.mem_cons, List.not_mem_nil, or_false]; rintro x (rfl | rfl) <;> assumption) (by simp) List.nodup_nil (by simp [blks])
  unfold slices_IndexFunc_int_int.f at H
  refine enter Try.func180 rfl Try.ntmps180 rfl fun a hk => ?_
  apply wp_seq_k; intro K1 hK1
  apply wp_region_lit
  refine sa _ rfl hk rfl rfl rfl fun a hk => ?_
  show wpList _ _ _ [] _ _
  refine wpList_nil ?_
  refine hK1 _ _ ?_
  apply wp_seq_k; intro K2 hK2
  apply wp_seq_k; intro K3 hK3
  apply wp_region_lit
  refine sm _ rfl hk rfl rfl rfl fun a hk => ?_
  refine sle rfl hk rfl rfl rfl un31 fun a hk => ?_
  refine sm _ rfl hk rfl rfl rfl fun a hk => ?_
  show wpList _ _ _ [] _ _
  refine wpList_nil ?_
  refine hK3 _ _ ?_
  obtain ⟨o7, h8, HL9⟩ := bind_some H
  clear H
  obtain ⟨R10, hR10⟩ : ∃ R : Act → World → Prop, R = fun a w => o7 = .out () ∧ Kn [] 19 a ∧ Sat [] w0 w [(1, k0_), (2, k1_)] [] := ⟨_, rfl⟩
  refine wp_cutq R10 ?_ ?_
  · refine wp_block ?_
    obtain ⟨fu12, h8⟩ := loopO_some h8
    obtain ⟨I11, hI11⟩ : ∃ I : Nat → Act → World → Prop, I = fun fu a w => ∃ (u6 : Int), loopN (fun s => slices_IndexFunc_int_int.s0 l0 q1 s) fu u6 = some o7 ∧ Kn [(0, (.slice A0_ l0.length p0_)), (1, (.func (.func f1_) #[] c1_.toArray)), (7, (.int .i64 (l0.length : Int))), (8, (.int .i64 u6))] 19 a ∧ Sat [] w0 w [(1, k0_), (2, k1_)] [] := ⟨_, rfl⟩
    refine wp_loop_ghost I11 fu12 ?_ ?_
    · rw [hI11]
      exact ⟨0, h8, (hk.c 0 rfl (hk.c 1 rfl (hk.c 7 rfl (hk.c 8 rfl hk.k)))), (hs.pick [] rfl)⟩
    · clear h8 hk hs
      intro fu12 a w hI0
      rw [hI11] at hI0
      obtain ⟨u6, hi, hk, hs⟩ := hI0
      obtain ⟨x13, H, h14⟩ := loop_round hi
      try dsimp only at H
      unfold slices_IndexFunc_int_int.s0 at H
      apply wp_seq_k; intro K15 hK15
      apply wp_region_lit
      refine sv (.bool (decide (u6 < (l0.length : Int)))) hk rfl rfl rfl fun a hk => ?_
      show wpList _ _ _ [] _ _
      refine wpList_nil ?_
      refine hK15 _ _ ?_
      apply wp_seq_k; intro K16 hK16
      rcases cond_some H with ⟨c17, H⟩ | ⟨c17, H⟩
      · have hk := hk.lit 9 c17 rfl
        refine cnd_true hk rfl rfl ?_
        refine wp_skip ?_
        refine hK16 _ _ ?_
        apply wp_seq_k; intro K18 hK18
        refine wp_block ?_
        apply wp_seq_k; intro K19 hK19
        apply wp_region_lit
        refine sm _ rfl hk rfl rfl rfl fun a hk => ?_
        refine sa _ rfl hk rfl rfl rfl fun a hk => ?_
        show wpList _ _ _ [] _ _
        refine wpList_nil ?_
        refine hK19 _ _ ?_
        apply wp_seq_k; intro K20 hK20
        apply wp_region_lit
        refine sm _ rfl hk rfl rfl rfl fun a hk => ?_
        refine sm _ rfl hk rfl rfl rfl fun a hk => ?_
        refine sm _ rfl hk rfl rfl rfl fun a hk => ?_
        rcases ite_some H with ⟨c21, H⟩ | ⟨_, H⟩
        rotate_left
        · cases H
        obtain ⟨b22, q23, hAc21⟩ := (v0_).some_ u6 c21.1 c21.2
        refine si rfl hk rfl rfl rfl rfl un31 sz3 c21.1 c21.2 hAc21 fun a hk => ?_
        obtain ⟨_, rfl, e24⟩ := (v0_).at_ 0 u6 c21.1 c21.2
        refine sl (v := (.int .i64 (l0.getD u6.toNat 0))) rfl hk rfl rfl rfl ag3 ((e24 0 _ rfl).cell (hs.hasD (k := 1) rfl)) fun a hk => ?_
        obtain ⟨y25, h26, H⟩ := bind_some H
        refine scv (vs := ([(.int .i64 (l0.getD u6.toNat 0))] : List Value) ++ c1_) rfl rfl e1_ hk rfl rfl rfl (t1_ _ (hs.hasD (k := 2) rfl) (l0.getD u6.toNat 0) _ h26) ?_
        rintro _ w ⟨rfl, hG⟩ a hk
        have hs := hs.call0 hG
        show wpList _ _ _ [] _ _
        refine wpList_nil ?_
        refine hK20 _ _ ?_
        rcases cond_some H with ⟨c27, H⟩ | ⟨c27, H⟩
        · have hk := hk.lit 16 c27 rfl
          refine cnd_true hk rfl rfl ?_
          apply wp_seq_k; intro K28 hK28
          apply wp_region_lit
          refine sm _ rfl hk rfl rfl rfl fun a hk => ?_
          refine sa _ rfl hk rfl rfl rfl fun a hk => ?_
          show wpList _ _ _ [] _ _
          refine wpList_nil ?_
          refine hK28 _ _ ?_
          refine wp_ret ?_
          obtain rfl := Option.some.inj H
          have ho7 := h14
          try dsimp only at ho7
          subst ho7
          have H := HL9
          try dsimp only at H
          obtain rfl := Option.some.inj H
          exact fin hk _ [(.int .i64 u6)] rfl ⟨rfl, trivial⟩ ⟨rfl, (hs.pick [] rfl).dnil⟩
        · have hk := hk.lit 16 c27 rfl
          refine cnd_false hk rfl rfl ?_
          refine wp_skip ?_
          refine hK18 _ _ ?_
          apply wp_region_lit
          refine sv (.int .i64 (w64 (u6 + 1))) hk rfl rfl rfl fun a hk => ?_
          refine sm _ rfl hk rfl rfl rfl fun a hk => ?_
          show wpList _ _ _ [] _ _
          refine wpList_nil ?_
          obtain rfl := Option.some.inj H
          obtain ⟨m29, hmm29, h14⟩ := h14
          show ∃ n', n' < _ ∧ I11 n' _ _
          refine ⟨m29, hmm29, ?_⟩
          rw [hI11]
          exact ⟨(w64 (u6 + 1)), h14, (hk.c 0 rfl (hk.c 1 rfl (hk.c 7 rfl (hk.c 8 rfl hk.k)))), (hs.pick [] rfl)⟩
      · have hk := hk.lit 9 c17 rfl
        refine cnd_false hk rfl rfl ?_
        refine wp_exit ?_
        obtain rfl := Option.some.inj H
        show R10 _ _
        rw [hR10]
        exact ⟨h14.symm, hk.k, (hs.pick [] rfl)⟩
  · intro a w hR0
    rw [hR10] at hR0
    obtain ⟨rfl, hk, hs⟩ := hR0
    have H := HL9
    try dsimp only at H
    refine hK2 _ _ ?_
    apply wp_seq_k; intro K30 hK30
    apply wp_region_lit
    refine sa _ rfl hk rfl rfl rfl fun a hk => ?_
    show wpList _ _ _ [] _ _
    refine wpList_nil ?_
    refine hK30 _ _ ?_
    refine wp_ret ?_
    obtain rfl := Option.some.inj H
    exact fin hk _ [(.int .i64 (-1))] rfl ⟨rfl, trivial⟩ ⟨rfl, (hs.pick [] rfl).dnil⟩

noncomputable def slices_ContainsFunc_int_int.f (l0 : List Int) (q1 : Int → Option (Bool)) : Option (Bool) :=
  ((slices_IndexFunc_int_int.f l0 q1).bind fun y3 => (some (decide (y3 ≥ 0))))
set_option maxRecDepth 100000 in
set_option maxHeartbeats 0 in
theorem slices_ContainsFunc_int_int_t (w0 : World) (A0_ : Option Addr) (p0_ : Nat) (l0 : List Int) (k0_ : Chunk) (v0_ : View (Lay.int .i64) A0_ p0_ l0 k0_) (w0_ : Has w0 k0_) (f1_ : FuncId) (c1_ : List Value) (e1_ : Enters Try.prog f1_) (q1 : Int → Option (Bool)) (k1_ : Chunk) (t1_ : ∀ w, Has w k1_ → ∀ (z0 : Int) (r : Bool), q1 z0 = some r → Calls Try.prog f1_ (([.int .i64 z0] : List Value) ++ c1_).toArray w (Ret (fun v w2 => v = .bool r ∧ Sat [] w w2 [] []))) (w1_ : Has w0 k1_) (r : Bool) (H : slices_ContainsFunc_int_int.f l0 q1 = some r) :
    Calls Try.prog 154 #[.slice A0_ l0.length p0_, .func (.func f1_) #[] c1_.toArray] w0 (Ret (fun v w => v = .bool r ∧ Sat [] w0 w [] [])) := by
  have hs : Sat [] w0 w0 [(1, k0_), (2, k1_)] [] := Sat.init w0 [(1, k0_), (2, k1_)] [] (by simp only [List.mem_cons, List.not_mem_nil, or_false]; rintro x (rfl | rfl) <;> assumption) (by simp) List.nodup_nil (by simp [blks])
  unfold slices_ContainsFunc_int_int.f at H
  refine enter Try.func154 rfl Try.ntmps154 rfl fun a hk => ?_
  apply wp_seq_k; intro K1 hK1
  apply wp_region_lit
  refine sa _ rfl hk rfl rfl rfl fun a hk => ?_
  show wpList _ _ _ [] _ _
  refine wpList_nil ?_
  refine hK1 _ _ ?_
  apply wp_seq_k; intro K2 hK2
  apply wp_region_lit
  refine sm _ rfl hk rfl rfl rfl fun a hk => ?_
  refine sm _ rfl hk rfl rfl rfl fun a hk => ?_
  obtain ⟨y3, h4, H⟩ := bind_some H
  refine sc rfl en180 hk rfl rfl rfl (slices_IndexFunc_int_int_t _ A0_ p0_ l0 _ v0_ (hs.hasD (k := 1) rfl) f1_ c1_ e1_ q1 k1_ t1_ (hs.hasD (k := 2) rfl) _ h4) ?_
  rintro _ w ⟨rfl, hG⟩ a hk
  have hs := hs.call0 hG
  refine sv (.bool (decide (y3 ≥ 0))) hk rfl rfl rfl fun a hk => ?_
  refine sa _ rfl hk rfl rfl rfl fun a hk => ?_
  show wpList _ _ _ [] _ _
  refine wpList_nil ?_
  refine hK2 _ _ ?_
  refine wp_ret ?_
  obtain rfl := Option.some.inj H
  exact fin hk _ [(.bool (decide (y3 ≥ 0)))] rfl ⟨rfl, trivial⟩ ⟨rfl, (hs.pick [] rfl).dnil⟩

noncomputable def impl_areAll_int__c1.f (x0 : Int) (q1 : Int → Option (Bool)) : Option (Bool) :=
  ((q1 x0).bind fun y3 => (some (!y3)))
set_option maxRecDepth 100000 in
set_option maxHeartbeats 0 in
theorem impl_areAll_int__c1_t (w0 : World) (x0 : Int) (b1_ : Nat) (f1_ : FuncId) (c1_ : List Value) (e1_ : Enters Try.prog f1_) (q1 : Int → Option (Bool)) (k1_ : Chunk) (t1_ : ∀ w, Has w k1_ → ∀ (z0 : Int) (r : Bool), q1 z0 = some r → Calls Try.prog f1_ (([.int .i64 z0] : List Value) ++ c1_).toArray w (Ret (fun v w2 => v = .bool r ∧ Sat [] w w2 [] []))) (w1_ : Has w0 k1_) (h1_ : Has w0 [(b1_, .cells #[.func (.func f1_) #[] c1_.toArray] 113 (0, 0))]) (r : Bool) (H : impl_areAll_int__c1.f x0 q1 = some r) :
    Calls Try.prog 155 #[.int .i64 x0, .pointer (some ⟨b1_, 0, none⟩)] w0 (Ret (fun v w => v = .bool r ∧ Sat [] w0 w [] [])) := by
  have hs : Sat [] w0 w0 [(2, k1_), (1, [(b1_, .cells #[.func (.func f1_) #[] c1_.toArray] 113 (0, 0))])] [] := Sat.init w0 [(2, k1_), (1, [(b1_, .cells #[.func (.func f1_) #[] c1_.toArray] 113 (0, 0))])] [] (by simp only [List.mem_cons, List.not_mem_nil, or_false]; rintro x (rfl | rfl) <;> assumption) (by simp) List.nodup_nil (by simp [blks])
  unfold impl_areAll_int__c1.f at H
  refine enter Try.func155 rfl Try.ntmps155 rfl fun a hk => ?_
  apply wp_seq_k; intro K1 hK1
  apply wp_region_lit
  refine sa _ rfl hk rfl rfl rfl fun a hk => ?_
  show wpList _ _ _ [] _ _
  refine wpList_nil ?_
  refine hK1 _ _ ?_
  apply wp_seq_k; intro K2 hK2
  apply wp_region_lit
  refine sl rfl hk rfl rfl rfl ag113 (box_cellD hs (k := 1) rfl rfl) fun a hk => ?_
  refine sm _ rfl hk rfl rfl rfl fun a hk => ?_
  obtain ⟨y3, h4, H⟩ := bind_some H
  refine scv (vs := ([(.int .i64 x0)] : List Value) ++ c1_) rfl rfl e1_ hk rfl rfl rfl (t1_ _ (hs.hasD (k := 2) rfl) x0 _ h4) ?_
  rintro _ w ⟨rfl, hG⟩ a hk
  have hs := hs.call0 hG
  refine sv (.bool (!y3)) hk rfl rfl rfl fun a hk => ?_
  refine sa _ rfl hk rfl rfl rfl fun a hk => ?_
  show wpList _ _ _ [] _ _
  refine wpList_nil ?_
  refine hK2 _ _ ?_
  refine wp_ret ?_
  obtain rfl := Option.some.inj H
  exact fin hk _ [(.bool (!y3))] rfl ⟨rfl, trivial⟩ ⟨rfl, (hs.pick [] rfl).dnil⟩

noncomputable def impl_areAll_int.f (l0 : List Int) (q1 : Int → Option (Bool)) : Option (Bool) :=
  ((slices_ContainsFunc_int_int.f l0 (fun z0 => impl_areAll_int__c1.f z0 q1)).bind fun y4 => (some (!y4)))
set_option maxRecDepth 100000 in
set_option maxHeartbeats 0 in
theorem impl_areAll_int_t (w0 : World) (A0_ : Option Addr) (p0_ : Nat) (l0 : List Int) (k0_ : Chunk) (v0_ : View (Lay.int .i64) A0_ p0_ l0 k0_) (w0_ : Has w0 k0_) (f1_ : FuncId) (c1_ : List Value) (e1_ : Enters Try.prog f1_) (q1 : Int → Option (Bool)) (k1_ : Chunk) (t1_ : ∀ w, Has w k1_ → ∀ (z0 : Int) (r : Bool), q1 z0 = some r → Calls Try.prog f1_ (([.int .i64 z0] : List Value) ++ c1_).toArray w (Ret (fun v w2 => v = .bool r ∧ Sat [] w w2 [] []))) (w1_ : Has w0 k1_) (r : Bool) (H : impl_areAll_int.f l0 q1 = some r) :
    Calls Try.prog 114 #[.slice A0_ l0.length p0_, .func (.func f1_) #[] c1_.toArray] w0 (Ret (fun v w => v = .bool r ∧ Sat [] w0 w [] [])) := by
  have hs : Sat [] w0 w0 [(1, k0_), (2, k1_)] [] := Sat.init w0 [(1, k0_), (2, k1_)] [] (by simp only [List.mem_cons, List.not_mem_nil, or_false]; rintro x (rfl | rfl) <;> assumption) (by simp) List.nodup_nil (by simp [blks])
  unfold impl_areAll_int.f at H
  refine enter Try.func114 rfl Try.ntmps114 rfl fun a hk => ?_
  apply wp_seq_k; intro K1 hK1
  apply wp_region_lit
  refine sbx 3 hs rfl hk rfl rfl rfl rfl fun b2 w a hk hs => ?_
  refine sa _ rfl hk rfl rfl rfl fun a hk => ?_
  show wpList _ _ _ [] _ _
  refine wpList_nil ?_
  refine hK1 _ _ ?_
  apply wp_seq_k; intro K3 hK3
  apply wp_region_lit
  refine sm _ rfl hk rfl rfl rfl fun a hk => ?_
  refine smf (cs := [.pointer (some ⟨b2, 0, none⟩)]) rfl hk rfl rfl rfl fun a hk => ?_
  obtain ⟨y4, h5, H⟩ := bind_some H
  refine sc rfl en154 hk rfl rfl rfl (slices_ContainsFunc_int_int_t _ A0_ p0_ l0 _ v0_ (hs.hasD (k := 1) rfl) 155 [.pointer (some ⟨b2, 0, none⟩)] en155 (fun z0 => impl_areAll_int__c1.f z0 q1) ([(b2, .cells #[.func (.func f1_) #[] c1_.toArray] 113 (0, 0))] ++ k1_) (fun w hz z0 r h => impl_areAll_int__c1_t w z0 _ f1_ c1_ e1_ q1 k1_ t1_ (Has.right hz) (Has.left hz) r h) (Has.app (hs.hasG (k := 3) rfl) (hs.hasD (k := 2) rfl)) _ h5) ?_
  rintro _ w ⟨rfl, hG⟩ a hk
  have hs := hs.call0 hG
  refine sv (.bool (!y4)) hk rfl rfl rfl fun a hk => ?_
  refine sa _ rfl hk rfl rfl rfl fun a hk => ?_
  show wpList _ _ _ [] _ _
  refine wpList_nil ?_
  refine hK3 _ _ ?_
  refine wp_ret ?_
  obtain rfl := Option.some.inj H
  exact fin hk _ [(.bool (!y4))] rfl ⟨rfl, trivial⟩ ⟨rfl, (hs.pick [] rfl).dnil⟩

noncomputable def impl_drawsCode.f (l0 : List Int) (x1 : Int) : Option (Int) :=
  (bif ((l0.length : Int) != x1) then (some 13) else ((impl_areAll_int.f l0 impl_isLeaf.f).bind fun y7 => (bif (!y7) then (some 4) else (some 0))))
set_option maxRecDepth 100000 in
set_option maxHeartbeats 0 in
theorem impl_drawsCode_t (w0 : World) (A0_ : Option Addr) (p0_ : Nat) (l0 : List Int) (k0_ : Chunk) (v0_ : View (Lay.int .i64) A0_ p0_ l0 k0_) (w0_ : Has w0 k0_) (x1 : Int) (r : Int) (H : impl_drawsCode.f l0 x1 = some r) :
    Calls Try.prog 65 #[.slice A0_ l0.length p0_, .int .i64 x1] w0 (Ret (fun v w => v = .int .i64 r ∧ Sat [] w0 w [] [])) := by
  have hs : Sat [] w0 w0 [(1, k0_)] [] := Sat.init w0 [(1, k0_)] [] (by simp only [List.mem_cons, List.not_mem_nil, or_false]; rintro x (rfl) <;> assumption) (by simp) List.nodup_nil (by simp [blks])
  unfold impl_drawsCode.f at H
  refine enter Try.func65 rfl Try.ntmps65 rfl fun a hk => ?_
  apply wp_seq_k; intro K1 hK1
  apply wp_region_lit
  refine sa _ rfl hk rfl rfl rfl fun a hk => ?_
  show wpList _ _ _ [] _ _
  refine wpList_nil ?_
  refine hK1 _ _ ?_
  apply wp_seq_k; intro K2 hK2
  refine wp_block ?_
  apply wp_seq_k; intro K3 hK3
  apply wp_region_lit
  refine sm _ rfl hk rfl rfl rfl fun a hk => ?_
  refine sle rfl hk rfl rfl rfl un31 fun a hk => ?_
  refine sm _ rfl hk rfl rfl rfl fun a hk => ?_
  refine sv (.bool ((l0.length : Int) != x1)) hk rfl rfl rfl fun a hk => ?_
  refine sa _ rfl hk rfl rfl rfl fun a hk => ?_
  show wpList _ _ _ [] _ _
  refine wpList_nil ?_
  refine hK3 _ _ ?_
  rcases cond_some H with ⟨c4, H⟩ | ⟨c4, H⟩
  · have hk := hk.lit 5 c4 rfl
    refine cnd_true hk rfl rfl ?_
    apply wp_seq_k; intro K5 hK5
    apply wp_region_lit
    refine sa _ rfl hk rfl rfl rfl fun a hk => ?_
    show wpList _ _ _ [] _ _
    refine wpList_nil ?_
    refine hK5 _ _ ?_
    refine wp_ret ?_
    obtain rfl := Option.some.inj H
    exact fin hk _ [(.int .i64 13)] rfl ⟨rfl, trivial⟩ ⟨rfl, (hs.pick [] rfl).dnil⟩
  · have hk := hk.lit 5 c4 rfl
    refine cnd_false hk rfl rfl ?_
    apply wp_seq_k; intro K6 hK6
    apply wp_region_lit
    refine sm _ rfl hk rfl rfl rfl fun a hk => ?_
    obtain ⟨y7, h8, H⟩ := bind_some H
    refine sc rfl en114 hk rfl rfl rfl (impl_areAll_int_t _ A0_ p0_ l0 _ v0_ (hs.hasD (k := 1) rfl) 106 [] en106 impl_isLeaf.f [] (fun w _ z0 r h => impl_isLeaf_t w z0 r h) (Has.nil _) _ h8) ?_
    rintro _ w ⟨rfl, hG⟩ a hk
    have hs := hs.call0 hG
    refine sv (.bool (!y7)) hk rfl rfl rfl fun a hk => ?_
    refine sa _ rfl hk rfl rfl rfl fun a hk => ?_
    show wpList _ _ _ [] _ _
    refine wpList_nil ?_
    refine hK6 _ _ ?_
    rcases cond_some H with ⟨c9, H⟩ | ⟨c9, H⟩
    · have hk := hk.lit 10 c9 rfl
      refine cnd_true hk rfl rfl ?_
      apply wp_seq_k; intro K10 hK10
      apply wp_region_lit
      refine sa _ rfl hk rfl rfl rfl fun a hk => ?_
      show wpList _ _ _ [] _ _
      refine wpList_nil ?_
      refine hK10 _ _ ?_
      refine wp_ret ?_
      obtain rfl := Option.some.inj H
      exact fin hk _ [(.int .i64 4)] rfl ⟨rfl, trivial⟩ ⟨rfl, (hs.pick [] rfl).dnil⟩
    · have hk := hk.lit 10 c9 rfl
      refine cnd_false hk rfl rfl ?_
      refine wp_skip ?_
      refine hK2 _ _ ?_
      apply wp_seq_k; intro K11 hK11
      apply wp_region_lit
      refine sa _ rfl hk rfl rfl rfl fun a hk => ?_
      show wpList _ _ _ [] _ _
      refine wpList_nil ?_
      refine hK11 _ _ ?_
      refine wp_ret ?_
      obtain rfl := Option.some.inj H
      exact fin hk _ [(.int .i64 0)] rfl ⟨rfl, trivial⟩ ⟨rfl, (hs.pick [] rfl).dnil⟩

noncomputable def slices_IndexFunc_impl_Txn_impl_Txn.s0 (l0 : List S_Txn) (q1 : S_Txn → Option (Bool)) (u6 : Int) : Option ((Int) ⊕ Ex (Unit) (Int)) :=
  (bif (decide (u6 < (l0.length : Int))) then (if 0 ≤ u6 ∧ u6 < (l0.length : Int) then ((q1 (l0.getD u6.toNat z_Txn)).bind fun y28 => (bif y28 then (some (.inr (.ret u6))) else (some (.inl (w64 (u6 + 1)))))) else none) else (some (.inr (.out ()))))
noncomputable def slices_IndexFunc_impl_Txn_impl_Txn.f (l0 : List S_Txn) (q1 : S_Txn → Option (Bool)) : Option (Int) :=
  ((loopO (fun s => slices_IndexFunc_impl_Txn_impl_Txn.s0 l0 q1 s) 0).bind fun o => match o with | .out _ => (some (-1)) | .ret r => (some r))
set_option maxRecDepth 100000 in
set_option maxHeartbeats 0 in
theorem slices_IndexFunc_impl_Txn_impl_Txn_t (w0 : World) (A0_ : Option Addr) (p0_ : Nat) (l0 : List S_Txn) (k0_ : Chunk) (v0_ : View L_impl_Txn A0_ p0_ l0 k0_) (w0_ : Has w0 k0_) (f1_ : FuncId) (c1_ : List Value) (e1_ : Enters Try.prog f1_) (q1 : S_Txn → Option (Bool)) (k1_ : Chunk) (t1_ : ∀ w, Has w k1_ → ∀ (z0 : S_Txn) (z0A0 : Option Addr) (z0p0 : Nat) (z0k0 : Chunk) (z0v0 : View L_Op z0A0 z0p0 z0.Ops z0k0) (z0w0 : Has w z0k0) (r : Bool), q1 z0 = some r → Calls Try.prog f1_ (([.agg #[.slice z0A0 z0.Ops.length z0p0]] : List Value) ++ c1_).toArray w (Ret (fun v w2 => v = .bool r ∧ Sat [] w w2 [] []))) (w1_ : Has w0 k1_) (r : Int) (H : slices_IndexFunc_impl_Txn_impl_Txn.f l0 q1 = some r) :
    Calls Try.prog 181 #[.slice A0_ l0.length p0_, .func (.func f1_) #[] c1_.toArray] w0 (Ret (fun v w => v = .int .i64 r ∧ Sat [] w0 w [] [])) := by
  have hs : Sat [] w0 w0 [(1, k0_), (2, k1_)] [] := Sat.init w0 [(1, k0_), (2, k1_)] [] (by simp only [List.mem_cons, List.not_mem_nil, or_false]; rintro x (rfl | rfl) <;> assumption) (by simp) List.nodup_nil (by simp [blks])
  unfold slices_IndexFunc_impl_Txn_impl_Txn.f at H
  refine enter Try.func181 rfl Try.ntmps181 rfl fun a hk => ?_
  apply wp_seq_k; intro K1 hK1
  apply wp_region_lit
  refine sa _ rfl hk rfl rfl rfl fun a hk => ?_
  show wpList _ _ _ [] _ _
  refine wpList_nil ?_
  refine hK1 _ _ ?_
  apply wp_seq_k; intro K2 hK2
  apply wp_seq_k; intro K3 hK3
  apply wp_region_lit
  refine sm _ rfl hk rfl rfl rfl fun a hk => ?_
  refine sle rfl hk rfl rfl rfl un34 fun a hk => ?_
  refine sm _ rfl hk rfl rfl rfl fun a hk => ?_
  show wpList _ _ _ [] _ _
  refine wpList_nil ?_
  refine hK3 _ _ ?_
  obtain ⟨o7, h8, HL9⟩ := bind_some H
  clear H
  obtain ⟨R10, hR10⟩ : ∃ R : Act → World → Prop, R = fun a w => o7 = .out () ∧ Kn [] 19 a ∧ Sat [] w0 w [(1, k0_), (2, k1_)] [] := ⟨_, rfl⟩
  refine wp_cutq R10 ?_ ?_
  · refine wp_block ?_
    obtain ⟨fu12, h8⟩ := loopO_some h8
    obtain ⟨I11, hI11⟩ : ∃ I : Nat → Act → World → Prop, I = fun fu a w => ∃ (u6 : Int), loopN (fun s => slices_IndexFunc_impl_Txn_impl_Txn.s0 l0 q1 s) fu u6 = some o7 ∧ Kn [(0, (.slice A0_ l0.length p0_)), (1, (.func (.func f1_) #[] c1_.toArray)), (7, (.int .i64 (l0.length : Int))), (8, (.int .i64 u6))] 19 a ∧ Sat [] w0 w [(1, k0_), (2, k1_)] [] := ⟨_, rfl⟩
    refine wp_loop_ghost I11 fu12 ?_ ?_
    · rw [hI11]
      exact ⟨0, h8, (hk.c 0 rfl (hk.c 1 rfl (hk.c 7 rfl (hk.c 8 rfl hk.k)))), (hs.pick [] rfl)⟩
    · clear h8 hk hs
      intro fu12 a w hI0
      rw [hI11] at hI0
      obtain ⟨u6, hi, hk, hs⟩ := hI0
      obtain ⟨x13, H, h14⟩ := loop_round hi
      try dsimp only at H
      unfold slices_IndexFunc_impl_Txn_impl_Txn.s0 at H
      apply wp_seq_k; intro K15 hK15
      apply wp_region_lit
      refine sv (.bool (decide (u6 < (l0.length : Int)))) hk rfl rfl rfl fun a hk => ?_
      show wpList _ _ _ [] _ _
      refine wpList_nil ?_
      refine hK15 _ _ ?_
      apply wp_seq_k; intro K16 hK16
      rcases cond_some H with ⟨c17, H⟩ | ⟨c17, H⟩
      · have hk := hk.lit 9 c17 rfl
        refine cnd_true hk rfl rfl ?_
        refine wp_skip ?_
        refine hK16 _ _ ?_
        apply wp_seq_k; intro K18 hK18
        refine wp_block ?_
        apply wp_seq_k; intro K19 hK19
        apply wp_region_lit
        refine sm _ rfl hk rfl rfl rfl fun a hk => ?_
        refine sa _ rfl hk rfl rfl rfl fun a hk => ?_
        show wpList _ _ _ [] _ _
        refine wpList_nil ?_
        refine hK19 _ _ ?_
        apply wp_seq_k; intro K20 hK20
        apply wp_region_lit
        refine sm _ rfl hk rfl rfl rfl fun a hk => ?_
        refine sm _ rfl hk rfl rfl rfl fun a hk => ?_
        refine sm _ rfl hk rfl rfl rfl fun a hk => ?_
        rcases ite_some H with ⟨c21, H⟩ | ⟨_, H⟩
        rotate_left
        · cases H
        obtain ⟨b22, q23, hAc21⟩ := (v0_).some_ u6 c21.1 c21.2
        refine si rfl hk rfl rfl rfl rfl un34 sz95 c21.1 c21.2 hAc21 fun a hk => ?_
        obtain ⟨_, ⟨_, rfl, A25, p26, rfl, v27⟩, e24⟩ := (v0_).at_ z_Txn u6 c21.1 c21.2
        refine sln [.slice A25 ((l0.getD u6.toNat z_Txn).Ops).length p26] rfl hk rfl rfl rfl ag95 sz95 (cells_at e24 (hs.hasD (k := 1) rfl)) fun a hk => ?_
        obtain ⟨y28, h29, H⟩ := bind_some H
        refine scv (vs := ([(.agg #[.slice A25 ((l0.getD u6.toNat z_Txn).Ops).length p26])] : List Value) ++ c1_) rfl rfl e1_ hk rfl rfl rfl (t1_ _ (hs.hasD (k := 2) rfl) (l0.getD u6.toNat z_Txn) A25 p26 _ v27 (hs.hasD (k := 1) rfl) _ h29) ?_
        rintro _ w ⟨rfl, hG⟩ a hk
        have hs := hs.call0 hG
        show wpList _ _ _ [] _ _
        refine wpList_nil ?_
        refine hK20 _ _ ?_
        rcases cond_some H with ⟨c30, H⟩ | ⟨c30, H⟩
        · have hk := hk.lit 16 c30 rfl
          refine cnd_true hk rfl rfl ?_
          apply wp_seq_k; intro K31 hK31
          apply wp_region_lit
          refine sm _ rfl hk rfl rfl rfl fun a hk => ?_
          refine sa _ rfl hk rfl rfl rfl fun a hk => ?_
          show wpList _ _ _ [] _ _
          refine wpList_nil ?_
          refine hK31 _ _ ?_
          refine wp_ret ?_
          obtain rfl := Option.some.inj H
          have ho7 := h14
          try dsimp only at ho7
          subst ho7
          have H := HL9
          try dsimp only at H
          obtain rfl := Option.some.inj H
          exact fin hk _ [(.int .i64 u6)] rfl ⟨rfl, trivial⟩ ⟨rfl, (hs.pick [] rfl).dnil⟩
        · have hk := hk.lit 16 c30 rfl
          refine cnd_false hk rfl rfl ?_
          refine wp_skip ?_
          refine hK18 _ _ ?_
          apply wp_region_lit
          refine sv (.int .i64 (w64 (u6 + 1))) hk rfl rfl rfl fun a hk => ?_
          refine sm _ rfl hk rfl rfl rfl fun a hk => ?_
          show wpList _ _ _ [] _ _
          refine wpList_nil ?_
          obtain rfl := Option.some.inj H
          obtain ⟨m32, hmm32, h14⟩ := h14
          show ∃ n', n' < _ ∧ I11 n' _ _
          refine ⟨m32, hmm32, ?_⟩
          rw [hI11]
          exact ⟨(w64 (u6 + 1)), h14, (hk.c 0 rfl (hk.c 1 rfl (hk.c 7 rfl (hk.c 8 rfl hk.k)))), (hs.pick [] rfl)⟩
      · have hk := hk.lit 9 c17 rfl
        refine cnd_false hk rfl rfl ?_
        refine wp_exit ?_
        obtain rfl := Option.some.inj H
        show R10 _ _
        rw [hR10]
        exact ⟨h14.symm, hk.k, (hs.pick [] rfl)⟩
  · intro a w hR0
    rw [hR10] at hR0
    obtain ⟨rfl, hk, hs⟩ := hR0
    have H := HL9
    try dsimp only at H
    refine hK2 _ _ ?_
    apply wp_seq_k; intro K33 hK33
    apply wp_region_lit
    refine sa _ rfl hk rfl rfl rfl fun a hk => ?_
    show wpList _ _ _ [] _ _
    refine wpList_nil ?_
    refine hK33 _ _ ?_
    refine wp_ret ?_
    obtain rfl := Option.some.inj H
    exact fin hk _ [(.int .i64 (-1))] rfl ⟨rfl, trivial⟩ ⟨rfl, (hs.pick [] rfl).dnil⟩

noncomputable def slices_ContainsFunc_impl_Txn_impl_Txn.f (l0 : List S_Txn) (q1 : S_Txn → Option (Bool)) : Option (Bool) :=
  ((slices_IndexFunc_impl_Txn_impl_Txn.f l0 q1).bind fun y3 => (some (decide (y3 ≥ 0))))
set_option maxRecDepth 100000 in
set_option maxHeartbeats 0 in
theorem slices_ContainsFunc_impl_Txn_impl_Txn_t (w0 : World) (A0_ : Option Addr) (p0_ : Nat) (l0 : List S_Txn) (k0_ : Chunk) (v0_ : View L_impl_Txn A0_ p0_ l0 k0_) (w0_ : Has w0 k0_) (f1_ : FuncId) (c1_ : List Value) (e1_ : Enters Try.prog f1_) (q1 : S_Txn → Option (Bool)) (k1_ : Chunk) (t1_ : ∀ w, Has w k1_ → ∀ (z0 : S_Txn) (z0A0 : Option Addr) (z0p0 : Nat) (z0k0 : Chunk) (z0v0 : View L_Op z0A0 z0p0 z0.Ops z0k0) (z0w0 : Has w z0k0) (r : Bool), q1 z0 = some r → Calls Try.prog f1_ (([.agg #[.slice z0A0 z0.Ops.length z0p0]] : List Value) ++ c1_).toArray w (Ret (fun v w2 => v = .bool r ∧ Sat [] w w2 [] []))) (w1_ : Has w0 k1_) (r : Bool) (H : slices_ContainsFunc_impl_Txn_impl_Txn.f l0 q1 = some r) :
    Calls Try.prog 156 #[.slice A0_ l0.length p0_, .func (.func f1_) #[] c1_.toArray] w0 (Ret (fun v w => v = .bool r ∧ Sat [] w0 w [] [])) := by
  have hs : Sat [] w0 w0 [(1, k0_), (2, k1_)] [] := Sat.init w0 [(1, k0_), (2, k1_)] [] (by simp only [List.mem_cons, List.not_mem_nil, or_false]; rintro x (rfl | rfl) <;> assumption) (by simp) List.nodup_nil (by simp [blks])
  unfold slices_ContainsFunc_impl_Txn_impl_Txn.f at H
  refine enter Try.func156 rfl Try.ntmps156 rfl fun a hk => ?_
  apply wp_seq_k; intro K1 hK1
  apply wp_region_lit
  refine sa _ rfl hk rfl rfl rfl fun a hk => ?_
  show wpList _ _ _ [] _ _
  refine wpList_nil ?_
  refine hK1 _ _ ?_
  apply wp_seq_k; intro K2 hK2
  apply wp_region_lit
  refine sm _ rfl hk rfl rfl rfl fun a hk => ?_
  refine sm _ rfl hk rfl rfl rfl fun a hk => ?_
  obtain ⟨y3, h4, H⟩ := bind_some H
  refine sc rfl en181 hk rfl rfl rfl (slices_IndexFunc_impl_Txn_impl_Txn_t _ A0_ p0_ l0 _ v0_ (hs.hasD (k := 1) rfl) f1_ c1_ e1_ q1 k1_ t1_ (hs.hasD (k := 2) rfl) _ h4) ?_
  rintro _ w ⟨rfl, hG⟩ a hk
  have hs := hs.call0 hG
  refine sv (.bool (decide (y3 ≥ 0))) hk rfl rfl rfl fun a hk => ?_
  refine sa _ rfl hk rfl rfl rfl fun a hk => ?_
  show wpList _ _ _ [] _ _
  refine wpList_nil ?_
  refine hK2 _ _ ?_
  refine wp_ret ?_
  obtain rfl := Option.some.inj H
  exact fin hk _ [(.bool (decide (y3 ≥ 0)))] rfl ⟨rfl, trivial⟩ ⟨rfl, (hs.pick [] rfl).dnil⟩

noncomputable def impl_areAll_impl_Txn__c1.f (x0 : S_Txn) (q1 : S_Txn → Option (Bool)) : Option (Bool) :=
  ((q1 x0).bind fun y4 => (some (!y4)))
set_option maxRecDepth 100000 in
set_option maxHeartbeats 0 in
theorem impl_areAll_impl_Txn__c1_t (w0 : World) (x0 : S_Txn) (A0_0 : Option Addr) (p0_0 : Nat) (k0_0 : Chunk) (v0_0 : View L_Op A0_0 p0_0 x0.Ops k0_0) (w0_0 : Has w0 k0_0) (b1_ : Nat) (f1_ : FuncId) (c1_ : List Value) (e1_ : Enters Try.prog f1_) (q1 : S_Txn → Option (Bool)) (k1_ : Chunk) (t1_ : ∀ w, Has w k1_ → ∀ (z0 : S_Txn) (z0A0 : Option Addr) (z0p0 : Nat) (z0k0 : Chunk) (z0v0 : View L_Op z0A0 z0p0 z0.Ops z0k0) (z0w0 : Has w z0k0) (r : Bool), q1 z0 = some r → Calls Try.prog f1_ (([.agg #[.slice z0A0 z0.Ops.length z0p0]] : List Value) ++ c1_).toArray w (Ret (fun v w2 => v = .bool r ∧ Sat [] w w2 [] []))) (w1_ : Has w0 k1_) (h1_ : Has w0 [(b1_, .cells #[.func (.func f1_) #[] c1_.toArray] 133 (0, 0))]) (r : Bool) (H : impl_areAll_impl_Txn__c1.f x0 q1 = some r) :
    Calls Try.prog 157 #[.agg #[.slice A0_0 x0.Ops.length p0_0], .pointer (some ⟨b1_, 0, none⟩)] w0 (Ret (fun v w => v = .bool r ∧ Sat [] w0 w [] [])) := by
  have hs : Sat [] w0 w0 [(1, k0_0), (3, k1_), (2, [(b1_, .cells #[.func (.func f1_) #[] c1_.toArray] 133 (0, 0))])] [] := Sat.init w0 [(1, k0_0), (3, k1_), (2, [(b1_, .cells #[.func (.func f1_) #[] c1_.toArray] 133 (0, 0))])] [] (by simp only [List.mem_cons, List.not_mem_nil, or_false]; rintro x (rfl | rfl | rfl) <;> assumption) (by simp) List.nodup_nil (by simp [blks])
  unfold impl_areAll_impl_Txn__c1.f at H
  refine enter Try.func157 rfl Try.ntmps157 rfl fun a hk => ?_
  apply wp_seq_k; intro K1 hK1
  apply wp_region_lit
  refine sbx 4 hs rfl hk rfl rfl rfl rfl fun b2 w a hk hs => ?_
  refine sa _ rfl hk rfl rfl rfl fun a hk => ?_
  show wpList _ _ _ [] _ _
  refine wpList_nil ?_
  refine hK1 _ _ ?_
  apply wp_seq_k; intro K3 hK3
  apply wp_region_lit
  refine sl rfl hk rfl rfl rfl ag133 (box_cellD hs (k := 2) rfl rfl) fun a hk => ?_
  refine sln [.slice A0_0 x0.Ops.length p0_0] rfl hk rfl rfl rfl ag95 sz95 (box_cells hs (k := 4) rfl) fun a hk => ?_
  obtain ⟨y4, h5, H⟩ := bind_some H
  refine scv (vs := ([(.agg #[.slice A0_0 x0.Ops.length p0_0])] : List Value) ++ c1_) rfl rfl e1_ hk rfl rfl rfl (t1_ _ (hs.hasD (k := 3) rfl) x0 A0_0 p0_0 _ v0_0 (hs.hasD (k := 1) rfl) _ h5) ?_
  rintro _ w ⟨rfl, hG⟩ a hk
  have hs := hs.call0 hG
  refine sv (.bool (!y4)) hk rfl rfl rfl fun a hk => ?_
  refine sa _ rfl hk rfl rfl rfl fun a hk => ?_
  show wpList _ _ _ [] _ _
  refine wpList_nil ?_
  refine hK3 _ _ ?_
  refine wp_ret ?_
  obtain rfl := Option.some.inj H
  exact fin hk _ [(.bool (!y4))] rfl ⟨rfl, trivial⟩ ⟨rfl, (hs.pick [] rfl).dnil⟩

noncomputable def impl_areAll_impl_Txn.f (l0 : List S_Txn) (q1 : S_Txn → Option (Bool)) : Option (Bool) :=
  ((slices_ContainsFunc_impl_Txn_impl_Txn.f l0 (fun z0 => impl_areAll_impl_Txn__c1.f z0 q1)).bind fun y4 => (some (!y4)))
set_option maxRecDepth 100000 in
set_option maxHeartbeats 0 in
theorem impl_areAll_impl_Txn_t (w0 : World) (A0_ : Option Addr) (p0_ : Nat) (l0 : List S_Txn) (k0_ : Chunk) (v0_ : View L_impl_Txn A0_ p0_ l0 k0_) (w0_ : Has w0 k0_) (f1_ : FuncId) (c1_ : List Value) (e1_ : Enters Try.prog f1_) (q1 : S_Txn → Option (Bool)) (k1_ : Chunk) (t1_ : ∀ w, Has w k1_ → ∀ (z0 : S_Txn) (z0A0 : Option Addr) (z0p0 : Nat) (z0k0 : Chunk) (z0v0 : View L_Op z0A0 z0p0 z0.Ops z0k0) (z0w0 : Has w z0k0) (r : Bool), q1 z0 = some r → Calls Try.prog f1_ (([.agg #[.slice z0A0 z0.Ops.length z0p0]] : List Value) ++ c1_).toArray w (Ret (fun v w2 => v = .bool r ∧ Sat [] w w2 [] []))) (w1_ : Has w0 k1_) (r : Bool) (H : impl_areAll_impl_Txn.f l0 q1 = some r) :
    Calls Try.prog 116 #[.slice A0_ l0.length p0_, .func (.func f1_) #[] c1_.toArray] w0 (Ret (fun v w => v = .bool r ∧ Sat [] w0 w [] [])) := by
  have hs : Sat [] w0 w0 [(1, k0_), (2, k1_)] [] := Sat.init w0 [(1, k0_), (2, k1_)] [] (by simp only [List.mem_cons, List.not_mem_nil, or_false]; rintro x (rfl | rfl) <;> assumption) (by simp) List.nodup_nil (by simp [blks])
  unfold impl_areAll_impl_Txn.f at H
  refine enter Try.func116 rfl Try.ntmps116 rfl fun a hk => ?_
  apply wp_seq_k; intro K1 hK1
  apply wp_region_lit
  refine sbx 3 hs rfl hk rfl rfl rfl rfl fun b2 w a hk hs => ?_
  refine sa _ rfl hk rfl rfl rfl fun a hk => ?_
  show wpList _ _ _ [] _ _
  refine wpList_nil ?_
  refine hK1 _ _ ?_
  apply wp_seq_k; intro K3 hK3
  apply wp_region_lit
  refine sm _ rfl hk rfl rfl rfl fun a hk => ?_
  refine smf (cs := [.pointer (some ⟨b2, 0, none⟩)]) rfl hk rfl rfl rfl fun a hk => ?_
  obtain ⟨y4, h5, H⟩ := bind_some H
  refine sc rfl en156 hk rfl rfl rfl (slices_ContainsFunc_impl_Txn_impl_Txn_t _ A0_ p0_ l0 _ v0_ (hs.hasD (k := 1) rfl) 157 [.pointer (some ⟨b2, 0, none⟩)] en157 (fun z0 => impl_areAll_impl_Txn__c1.f z0 q1) ([(b2, .cells #[.func (.func f1_) #[] c1_.toArray] 133 (0, 0))] ++ k1_) (fun w hz z0 z0A0 z0p0 z0k0 z0v0 z0w0 r h => impl_areAll_impl_Txn__c1_t w z0 z0A0 z0p0 z0k0 z0v0 z0w0 _ f1_ c1_ e1_ q1 k1_ t1_ (Has.right hz) (Has.left hz) r h) (Has.app (hs.hasG (k := 3) rfl) (hs.hasD (k := 2) rfl)) _ h5) ?_
  rintro _ w ⟨rfl, hG⟩ a hk
  have hs := hs.call0 hG
  refine sv (.bool (!y4)) hk rfl rfl rfl fun a hk => ?_
  refine sa _ rfl hk rfl rfl rfl fun a hk => ?_
  show wpList _ _ _ [] _ _
  refine wpList_nil ?_
  refine hK3 _ _ ?_
  refine wp_ret ?_
  obtain rfl := Option.some.inj H
  exact fin hk _ [(.bool (!y4))] rfl ⟨rfl, trivial⟩ ⟨rfl, (hs.pick [] rfl).dnil⟩

noncomputable def slices_IndexFunc_impl_Op_impl_Op.s0 (l0 : List S_Op) (q1 : S_Op → Option (Bool)) (u6 : Int) : Option ((Int) ⊕ Ex (Unit) (Int)) :=
  (bif (decide (u6 < (l0.length : Int))) then (if 0 ≤ u6 ∧ u6 < (l0.length : Int) then ((q1 (l0.getD u6.toNat z_Op)).bind fun y25 => (bif y25 then (some (.inr (.ret u6))) else (some (.inl (w64 (u6 + 1)))))) else none) else (some (.inr (.out ()))))
noncomputable def slices_IndexFunc_impl_Op_impl_Op.f (l0 : List S_Op) (q1 : S_Op → Option (Bool)) : Option (Int) :=
  ((loopO (fun s => slices_IndexFunc_impl_Op_impl_Op.s0 l0 q1 s) 0).bind fun o => match o with | .out _ => (some (-1)) | .ret r => (some r))
set_option maxRecDepth 100000 in
set_option maxHeartbeats 0 in
theorem slices_IndexFunc_impl_Op_impl_Op_t (w0 : World) (A0_ : Option Addr) (p0_ : Nat) (l0 : List S_Op) (k0_ : Chunk) (v0_ : View L_Op A0_ p0_ l0 k0_) (w0_ : Has w0 k0_) (f1_ : FuncId) (c1_ : List Value) (e1_ : Enters Try.prog f1_) (q1 : S_Op → Option (Bool)) (k1_ : Chunk) (t1_ : ∀ w, Has w k1_ → ∀ (z0 : S_Op) (r : Bool), q1 z0 = some r → Calls Try.prog f1_ (([.agg #[.int .i64 z0.Kind, .int .i64 z0.Key, .int .i64 z0.Value]] : List Value) ++ c1_).toArray w (Ret (fun v w2 => v = .bool r ∧ Sat [] w w2 [] []))) (w1_ : Has w0 k1_) (r : Int) (H : slices_IndexFunc_impl_Op_impl_Op.f l0 q1 = some r) :
    Calls Try.prog 193 #[.slice A0_ l0.length p0_, .func (.func f1_) #[] c1_.toArray] w0 (Ret (fun v w => v = .int .i64 r ∧ Sat [] w0 w [] [])) := by
  have hs : Sat [] w0 w0 [(1, k0_), (2, k1_)] [] := Sat.init w0 [(1, k0_), (2, k1_)] [] (by simp only [List.mem_cons, List.not_mem_nil, or_false]; rintro x (rfl | rfl) <;> assumption) (by simp) List.nodup_nil (by simp [blks])
  unfold slices_IndexFunc_impl_Op_impl_Op.f at H
  refine enter Try.func193 rfl Try.ntmps193 rfl fun a hk => ?_
  apply wp_seq_k; intro K1 hK1
  apply wp_region_lit
  refine sa _ rfl hk rfl rfl rfl fun a hk => ?_
  show wpList _ _ _ [] _ _
  refine wpList_nil ?_
  refine hK1 _ _ ?_
  apply wp_seq_k; intro K2 hK2
  apply wp_seq_k; intro K3 hK3
  apply wp_region_lit
  refine sm _ rfl hk rfl rfl rfl fun a hk => ?_
  refine sle rfl hk rfl rfl rfl un93 fun a hk => ?_
  refine sm _ rfl hk rfl rfl rfl fun a hk => ?_
  show wpList _ _ _ [] _ _
  refine wpList_nil ?_
  refine hK3 _ _ ?_
  obtain ⟨o7, h8, HL9⟩ := bind_some H
  clear H
  obtain ⟨R10, hR10⟩ : ∃ R : Act → World → Prop, R = fun a w => o7 = .out () ∧ Kn [] 19 a ∧ Sat [] w0 w [(1, k0_), (2, k1_)] [] := ⟨_, rfl⟩
  refine wp_cutq R10 ?_ ?_
  · refine wp_block ?_
    obtain ⟨fu12, h8⟩ := loopO_some h8
    obtain ⟨I11, hI11⟩ : ∃ I : Nat → Act → World → Prop, I = fun fu a w => ∃ (u6 : Int), loopN (fun s => slices_IndexFunc_impl_Op_impl_Op.s0 l0 q1 s) fu u6 = some o7 ∧ Kn [(0, (.slice A0_ l0.length p0_)), (1, (.func (.func f1_) #[] c1_.toArray)), (7, (.int .i64 (l0.length : Int))), (8, (.int .i64 u6))] 19 a ∧ Sat [] w0 w [(1, k0_), (2, k1_)] [] := ⟨_, rfl⟩
    refine wp_loop_ghost I11 fu12 ?_ ?_
    · rw [hI11]
      exact ⟨0, h8, (hk.c 0 rfl (hk.c 1 rfl (hk.c 7 rfl (hk.c 8 rfl hk.k)))), (hs.pick [] rfl)⟩
    · clear h8 hk hs
      intro fu12 a w hI0
      rw [hI11] at hI0
      obtain ⟨u6, hi, hk, hs⟩ := hI0
      obtain ⟨x13, H, h14⟩ := loop_round hi
      try dsimp only at H
      unfold slices_IndexFunc_impl_Op_impl_Op.s0 at H
      apply wp_seq_k; intro K15 hK15
      apply wp_region_lit
      refine sv (.bool (decide (u6 < (l0.length : Int)))) hk rfl rfl rfl fun a hk => ?_
      show wpList _ _ _ [] _ _
      refine wpList_nil ?_
      refine hK15 _ _ ?_
      apply wp_seq_k; intro K16 hK16
      rcases cond_some H with ⟨c17, H⟩ | ⟨c17, H⟩
      · have hk := hk.lit 9 c17 rfl
        refine cnd_true hk rfl rfl ?_
        refine wp_skip ?_
        refine hK16 _ _ ?_
        apply wp_seq_k; intro K18 hK18
        refine wp_block ?_
        apply wp_seq_k; intro K19 hK19
        apply wp_region_lit
        refine sm _ rfl hk rfl rfl rfl fun a hk => ?_
        refine sa _ rfl hk rfl rfl rfl fun a hk => ?_
        show wpList _ _ _ [] _ _
        refine wpList_nil ?_
        refine hK19 _ _ ?_
        apply wp_seq_k; intro K20 hK20
        apply wp_region_lit
        refine sm _ rfl hk rfl rfl rfl fun a hk => ?_
        refine sm _ rfl hk rfl rfl rfl fun a hk => ?_
        refine sm _ rfl hk rfl rfl rfl fun a hk => ?_
        rcases ite_some H with ⟨c21, H⟩ | ⟨_, H⟩
        rotate_left
        · cases H
        obtain ⟨b22, q23, hAc21⟩ := (v0_).some_ u6 c21.1 c21.2
        refine si rfl hk rfl rfl rfl rfl un93 sz135 c21.1 c21.2 hAc21 fun a hk => ?_
        obtain ⟨_, rfl, e24⟩ := (v0_).at_ z_Op u6 c21.1 c21.2
        refine sln [.int .i64 ((l0.getD u6.toNat z_Op).Kind), .int .i64 ((l0.getD u6.toNat z_Op).Key), .int .i64 ((l0.getD u6.toNat z_Op).Value)] rfl hk rfl rfl rfl ag135 sz135 (cells_at e24 (hs.hasD (k := 1) rfl)) fun a hk => ?_
        obtain ⟨y25, h26, H⟩ := bind_some H
        refine scv (vs := ([(.agg #[.int .i64 ((l0.getD u6.toNat z_Op).Kind), .int .i64 ((l0.getD u6.toNat z_Op).Key), .int .i64 ((l0.getD u6.toNat z_Op).Value)])] : List Value) ++ c1_) rfl rfl e1_ hk rfl rfl rfl (t1_ _ (hs.hasD (k := 2) rfl) (l0.getD u6.toNat z_Op) _ h26) ?_
        rintro _ w ⟨rfl, hG⟩ a hk
        have hs := hs.call0 hG
        show wpList _ _ _ [] _ _
        refine wpList_nil ?_
        refine hK20 _ _ ?_
        rcases cond_some H with ⟨c27, H⟩ | ⟨c27, H⟩
        · have hk := hk.lit 16 c27 rfl
          refine cnd_true hk rfl rfl ?_
          apply wp_seq_k; intro K28 hK28
          apply wp_region_lit
          refine sm _ rfl hk rfl rfl rfl fun a hk => ?_
          refine sa _ rfl hk rfl rfl rfl fun a hk => ?_
          show wpList _ _ _ [] _ _
          refine wpList_nil ?_
          refine hK28 _ _ ?_
          refine wp_ret ?_
          obtain rfl := Option.some.inj H
          have ho7 := h14
          try dsimp only at ho7
          subst ho7
          have H := HL9
          try dsimp only at H
          obtain rfl := Option.some.inj H
          exact fin hk _ [(.int .i64 u6)] rfl ⟨rfl, trivial⟩ ⟨rfl, (hs.pick [] rfl).dnil⟩
        · have hk := hk.lit 16 c27 rfl
          refine cnd_false hk rfl rfl ?_
          refine wp_skip ?_
          refine hK18 _ _ ?_
          apply wp_region_lit
          refine sv (.int .i64 (w64 (u6 + 1))) hk rfl rfl rfl fun a hk => ?_
          refine sm _ rfl hk rfl rfl rfl fun a hk => ?_
          show wpList _ _ _ [] _ _
          refine wpList_nil ?_
          obtain rfl := Option.some.inj H
          obtain ⟨m29, hmm29, h14⟩ := h14
          show ∃ n', n' < _ ∧ I11 n' _ _
          refine ⟨m29, hmm29, ?_⟩
          rw [hI11]
          exact ⟨(w64 (u6 + 1)), h14, (hk.c 0 rfl (hk.c 1 rfl (hk.c 7 rfl (hk.c 8 rfl hk.k)))), (hs.pick [] rfl)⟩
      · have hk := hk.lit 9 c17 rfl
        refine cnd_false hk rfl rfl ?_
        refine wp_exit ?_
        obtain rfl := Option.some.inj H
        show R10 _ _
        rw [hR10]
        exact ⟨h14.symm, hk.k, (hs.pick [] rfl)⟩
  · intro a w hR0
    rw [hR10] at hR0
    obtain ⟨rfl, hk, hs⟩ := hR0
    have H := HL9
    try dsimp only at H
    refine hK2 _ _ ?_
    apply wp_seq_k; intro K30 hK30
    apply wp_region_lit
    refine sa _ rfl hk rfl rfl rfl fun a hk => ?_
    show wpList _ _ _ [] _ _
    refine wpList_nil ?_
    refine hK30 _ _ ?_
    refine wp_ret ?_
    obtain rfl := Option.some.inj H
    exact fin hk _ [(.int .i64 (-1))] rfl ⟨rfl, trivial⟩ ⟨rfl, (hs.pick [] rfl).dnil⟩

noncomputable def slices_ContainsFunc_impl_Op_impl_Op.f (l0 : List S_Op) (q1 : S_Op → Option (Bool)) : Option (Bool) :=
  ((slices_IndexFunc_impl_Op_impl_Op.f l0 q1).bind fun y3 => (some (decide (y3 ≥ 0))))
set_option maxRecDepth 100000 in
set_option maxHeartbeats 0 in
theorem slices_ContainsFunc_impl_Op_impl_Op_t (w0 : World) (A0_ : Option Addr) (p0_ : Nat) (l0 : List S_Op) (k0_ : Chunk) (v0_ : View L_Op A0_ p0_ l0 k0_) (w0_ : Has w0 k0_) (f1_ : FuncId) (c1_ : List Value) (e1_ : Enters Try.prog f1_) (q1 : S_Op → Option (Bool)) (k1_ : Chunk) (t1_ : ∀ w, Has w k1_ → ∀ (z0 : S_Op) (r : Bool), q1 z0 = some r → Calls Try.prog f1_ (([.agg #[.int .i64 z0.Kind, .int .i64 z0.Key, .int .i64 z0.Value]] : List Value) ++ c1_).toArray w (Ret (fun v w2 => v = .bool r ∧ Sat [] w w2 [] []))) (w1_ : Has w0 k1_) (r : Bool) (H : slices_ContainsFunc_impl_Op_impl_Op.f l0 q1 = some r) :
    Calls Try.prog 182 #[.slice A0_ l0.length p0_, .func (.func f1_) #[] c1_.toArray] w0 (Ret (fun v w => v = .bool r ∧ Sat [] w0 w [] [])) := by
  have hs : Sat [] w0 w0 [(1, k0_), (2, k1_)] [] := Sat.init w0 [(1, k0_), (2, k1_)] [] (by simp only [List.mem_cons, List.not_mem_nil, or_false]; rintro x (rfl | rfl) <;> assumption) (by simp) List.nodup_nil (by simp [blks])
  unfold slices_ContainsFunc_impl_Op_impl_Op.f at H
  refine enter Try.func182 rfl Try.ntmps182 rfl fun a hk => ?_
  apply wp_seq_k; intro K1 hK1
  apply wp_region_lit
  refine sa _ rfl hk rfl rfl rfl fun a hk => ?_
  show wpList _ _ _ [] _ _
  refine wpList_nil ?_
  refine hK1 _ _ ?_
  apply wp_seq_k; intro K2 hK2
  apply wp_region_lit
  refine sm _ rfl hk rfl rfl rfl fun a hk => ?_
  refine sm _ rfl hk rfl rfl rfl fun a hk => ?_
  obtain ⟨y3, h4, H⟩ := bind_some H
  refine sc rfl en193 hk rfl rfl rfl (slices_IndexFunc_impl_Op_impl_Op_t _ A0_ p0_ l0 _ v0_ (hs.hasD (k := 1) rfl) f1_ c1_ e1_ q1 k1_ t1_ (hs.hasD (k := 2) rfl) _ h4) ?_
  rintro _ w ⟨rfl, hG⟩ a hk
  have hs := hs.call0 hG
  refine sv (.bool (decide (y3 ≥ 0))) hk rfl rfl rfl fun a hk => ?_
  refine sa _ rfl hk rfl rfl rfl fun a hk => ?_
  show wpList _ _ _ [] _ _
  refine wpList_nil ?_
  refine hK2 _ _ ?_
  refine wp_ret ?_
  obtain rfl := Option.some.inj H
  exact fin hk _ [(.bool (decide (y3 ≥ 0)))] rfl ⟨rfl, trivial⟩ ⟨rfl, (hs.pick [] rfl).dnil⟩

noncomputable def impl_areAll_impl_Op__c1.f (x0 : S_Op) (q1 : S_Op → Option (Bool)) : Option (Bool) :=
  ((q1 x0).bind fun y4 => (some (!y4)))
set_option maxRecDepth 100000 in
set_option maxHeartbeats 0 in
theorem impl_areAll_impl_Op__c1_t (w0 : World) (x0 : S_Op) (b1_ : Nat) (f1_ : FuncId) (c1_ : List Value) (e1_ : Enters Try.prog f1_) (q1 : S_Op → Option (Bool)) (k1_ : Chunk) (t1_ : ∀ w, Has w k1_ → ∀ (z0 : S_Op) (r : Bool), q1 z0 = some r → Calls Try.prog f1_ (([.agg #[.int .i64 z0.Kind, .int .i64 z0.Key, .int .i64 z0.Value]] : List Value) ++ c1_).toArray w (Ret (fun v w2 => v = .bool r ∧ Sat [] w w2 [] []))) (w1_ : Has w0 k1_) (h1_ : Has w0 [(b1_, .cells #[.func (.func f1_) #[] c1_.toArray] 170 (0, 0))]) (r : Bool) (H : impl_areAll_impl_Op__c1.f x0 q1 = some r) :
    Calls Try.prog 183 #[.agg #[.int .i64 x0.Kind, .int .i64 x0.Key, .int .i64 x0.Value], .pointer (some ⟨b1_, 0, none⟩)] w0 (Ret (fun v w => v = .bool r ∧ Sat [] w0 w [] [])) := by
  have hs : Sat [] w0 w0 [(2, k1_), (1, [(b1_, .cells #[.func (.func f1_) #[] c1_.toArray] 170 (0, 0))])] [] := Sat.init w0 [(2, k1_), (1, [(b1_, .cells #[.func (.func f1_) #[] c1_.toArray] 170 (0, 0))])] [] (by simp only [List.mem_cons, List.not_mem_nil, or_false]; rintro x (rfl | rfl) <;> assumption) (by simp) List.nodup_nil (by simp [blks])
  unfold impl_areAll_impl_Op__c1.f at H
  refine enter Try.func183 rfl Try.ntmps183 rfl fun a hk => ?_
  apply wp_seq_k; intro K1 hK1
  apply wp_region_lit
  refine sbx 3 hs rfl hk rfl rfl rfl rfl fun b2 w a hk hs => ?_
  refine sa _ rfl hk rfl rfl rfl fun a hk => ?_
  show wpList _ _ _ [] _ _
  refine wpList_nil ?_
  refine hK1 _ _ ?_
  apply wp_seq_k; intro K3 hK3
  apply wp_region_lit
  refine sl rfl hk rfl rfl rfl ag170 (box_cellD hs (k := 1) rfl rfl) fun a hk => ?_
  refine sln [.int .i64 x0.Kind, .int .i64 x0.Key, .int .i64 x0.Value] rfl hk rfl rfl rfl ag135 sz135 (box_cells hs (k := 3) rfl) fun a hk => ?_
  obtain ⟨y4, h5, H⟩ := bind_some H
  refine scv (vs := ([(.agg #[.int .i64 x0.Kind, .int .i64 x0.Key, .int .i64 x0.Value])] : List Value) ++ c1_) rfl rfl e1_ hk rfl rfl rfl (t1_ _ (hs.hasD (k := 2) rfl) x0 _ h5) ?_
  rintro _ w ⟨rfl, hG⟩ a hk
  have hs := hs.call0 hG
  refine sv (.bool (!y4)) hk rfl rfl rfl fun a hk => ?_
  refine sa _ rfl hk rfl rfl rfl fun a hk => ?_
  show wpList _ _ _ [] _ _
  refine wpList_nil ?_
  refine hK3 _ _ ?_
  refine wp_ret ?_
  obtain rfl := Option.some.inj H
  exact fin hk _ [(.bool (!y4))] rfl ⟨rfl, trivial⟩ ⟨rfl, (hs.pick [] rfl).dnil⟩

noncomputable def impl_areAll_impl_Op.f (l0 : List S_Op) (q1 : S_Op → Option (Bool)) : Option (Bool) :=
  ((slices_ContainsFunc_impl_Op_impl_Op.f l0 (fun z0 => impl_areAll_impl_Op__c1.f z0 q1)).bind fun y4 => (some (!y4)))
set_option maxRecDepth 100000 in
set_option maxHeartbeats 0 in
theorem impl_areAll_impl_Op_t (w0 : World) (A0_ : Option Addr) (p0_ : Nat) (l0 : List S_Op) (k0_ : Chunk) (v0_ : View L_Op A0_ p0_ l0 k0_) (w0_ : Has w0 k0_) (f1_ : FuncId) (c1_ : List Value) (e1_ : Enters Try.prog f1_) (q1 : S_Op → Option (Bool)) (k1_ : Chunk) (t1_ : ∀ w, Has w k1_ → ∀ (z0 : S_Op) (r : Bool), q1 z0 = some r → Calls Try.prog f1_ (([.agg #[.int .i64 z0.Kind, .int .i64 z0.Key, .int .i64 z0.Value]] : List Value) ++ c1_).toArray w (Ret (fun v w2 => v = .bool r ∧ Sat [] w w2 [] []))) (w1_ : Has w0 k1_) (r : Bool) (H : impl_areAll_impl_Op.f l0 q1 = some r) :
    Calls Try.prog 158 #[.slice A0_ l0.length p0_, .func (.func f1_) #[] c1_.toArray] w0 (Ret (fun v w => v = .bool r ∧ Sat [] w0 w [] [])) := by
  have hs : Sat [] w0 w0 [(1, k0_), (2, k1_)] [] := Sat.init w0 [(1, k0_), (2, k1_)] [] (by simp only [List.mem_cons, List.not_mem_nil, or_false]; rintro x (rfl | rfl) <;> assumption) (by simp) List.nodup_nil (by simp [blks])
  unfold impl_areAll_impl_Op.f at H
  refine enter Try.func158 rfl Try.ntmps158 rfl fun a hk => ?_
  apply wp_seq_k; intro K1 hK1
  apply wp_region_lit
  refine sbx 3 hs rfl hk rfl rfl rfl rfl fun b2 w a hk hs => ?_
  refine sa _ rfl hk rfl rfl rfl fun a hk => ?_
  show wpList _ _ _ [] _ _
  refine wpList_nil ?_
  refine hK1 _ _ ?_
  apply wp_seq_k; intro K3 hK3
  apply wp_region_lit
  refine sm _ rfl hk rfl rfl rfl fun a hk => ?_
  refine smf (cs := [.pointer (some ⟨b2, 0, none⟩)]) rfl hk rfl rfl rfl fun a hk => ?_
  obtain ⟨y4, h5, H⟩ := bind_some H
  refine sc rfl en182 hk rfl rfl rfl (slices_ContainsFunc_impl_Op_impl_Op_t _ A0_ p0_ l0 _ v0_ (hs.hasD (k := 1) rfl) 183 [.pointer (some ⟨b2, 0, none⟩)] en183 (fun z0 => impl_areAll_impl_Op__c1.f z0 q1) ([(b2, .cells #[.func (.func f1_) #[] c1_.toArray] 170 (0, 0))] ++ k1_) (fun w hz z0 r h => impl_areAll_impl_Op__c1_t w z0 _ f1_ c1_ e1_ q1 k1_ t1_ (Has.right hz) (Has.left hz) r h) (Has.app (hs.hasG (k := 3) rfl) (hs.hasD (k := 2) rfl)) _ h5) ?_
  rintro _ w ⟨rfl, hG⟩ a hk
  have hs := hs.call0 hG
  refine sv (.bool (!y4)) hk rfl rfl rfl fun a hk => ?_
  refine sa _ rfl hk rfl rfl rfl fun a hk => ?_
  show wpList _ _ _ [] _ _
  refine wpList_nil ?_
  refine hK3 _ _ ?_
  refine wp_ret ?_
  obtain rfl := Option.some.inj H
  exact fin hk _ [(.bool (!y4))] rfl ⟨rfl, trivial⟩ ⟨rfl, (hs.pick [] rfl).dnil⟩

noncomputable def impl_isKey.f (x0 : Int) : Option (Bool) :=
  ((impl_within.f x0 1 9999).bind fun y3 => (some y3))
set_option maxRecDepth 100000 in
set_option maxHeartbeats 0 in
theorem impl_isKey_t (w0 : World) (x0 : Int) (r : Bool) (H : impl_isKey.f x0 = some r) :
    Calls Try.prog 83 #[.int .i64 x0] w0 (Ret (fun v w => v = .bool r ∧ Sat [] w0 w [] [])) := by
  have hs : Sat [] w0 w0 [] [] := Sat.init w0 [] [] (by simp) (by simp) List.nodup_nil (by simp [blks])
  unfold impl_isKey.f at H
  refine enter Try.func83 rfl Try.ntmps83 rfl fun a hk => ?_
  apply wp_seq_k; intro K1 hK1
  apply wp_region_lit
  refine sa _ rfl hk rfl rfl rfl fun a hk => ?_
  show wpList _ _ _ [] _ _
  refine wpList_nil ?_
  refine hK1 _ _ ?_
  apply wp_seq_k; intro K2 hK2
  apply wp_region_lit
  refine sm _ rfl hk rfl rfl rfl fun a hk => ?_
  obtain ⟨y3, h4, H⟩ := bind_some H
  refine sc rfl en115 hk rfl rfl rfl (impl_within_t _ x0 1 9999 _ h4) ?_
  rintro _ w ⟨rfl, hG⟩ a hk
  have hs := hs.call0 hG
  refine sa _ rfl hk rfl rfl rfl fun a hk => ?_
  show wpList _ _ _ [] _ _
  refine wpList_nil ?_
  refine hK2 _ _ ?_
  refine wp_ret ?_
  obtain rfl := Option.some.inj H
  exact fin hk _ [(.bool y3)] rfl ⟨rfl, trivial⟩ ⟨rfl, (hs.pick [] rfl).dnil⟩

noncomputable def impl_isValue.f (x0 : Int) : Option (Bool) :=
  ((impl_within.f x0 0 999999).bind fun y3 => (some y3))
set_option maxRecDepth 100000 in
set_option maxHeartbeats 0 in
theorem impl_isValue_t (w0 : World) (x0 : Int) (r : Bool) (H : impl_isValue.f x0 = some r) :
    Calls Try.prog 107 #[.int .i64 x0] w0 (Ret (fun v w => v = .bool r ∧ Sat [] w0 w [] [])) := by
  have hs : Sat [] w0 w0 [] [] := Sat.init w0 [] [] (by simp) (by simp) List.nodup_nil (by simp [blks])
  unfold impl_isValue.f at H
  refine enter Try.func107 rfl Try.ntmps107 rfl fun a hk => ?_
  apply wp_seq_k; intro K1 hK1
  apply wp_region_lit
  refine sa _ rfl hk rfl rfl rfl fun a hk => ?_
  show wpList _ _ _ [] _ _
  refine wpList_nil ?_
  refine hK1 _ _ ?_
  apply wp_seq_k; intro K2 hK2
  apply wp_region_lit
  refine sm _ rfl hk rfl rfl rfl fun a hk => ?_
  obtain ⟨y3, h4, H⟩ := bind_some H
  refine sc rfl en115 hk rfl rfl rfl (impl_within_t _ x0 0 999999 _ h4) ?_
  rintro _ w ⟨rfl, hG⟩ a hk
  have hs := hs.call0 hG
  refine sa _ rfl hk rfl rfl rfl fun a hk => ?_
  show wpList _ _ _ [] _ _
  refine wpList_nil ?_
  refine hK2 _ _ ?_
  refine wp_ret ?_
  obtain rfl := Option.some.inj H
  exact fin hk _ [(.bool y3)] rfl ⟨rfl, trivial⟩ ⟨rfl, (hs.pick [] rfl).dnil⟩

noncomputable def impl_isBare.f (x0 : Int) : Option (Bool) :=
  (((bif (x0 == 1) then (some true) else (some (x0 == 3))) : Option (Bool)).bind fun u4 => (some u4))
set_option maxRecDepth 100000 in
set_option maxHeartbeats 0 in
theorem impl_isBare_t (w0 : World) (x0 : Int) (r : Bool) (H : impl_isBare.f x0 = some r) :
    Calls Try.prog 184 #[.int .i64 x0] w0 (Ret (fun v w => v = .bool r ∧ Sat [] w0 w [] [])) := by
  have hs : Sat [] w0 w0 [] [] := Sat.init w0 [] [] (by simp) (by simp) List.nodup_nil (by simp [blks])
  unfold impl_isBare.f at H
  refine enter Try.func184 rfl Try.ntmps184 rfl fun a hk => ?_
  apply wp_seq_k; intro K1 hK1
  apply wp_region_lit
  refine sa _ rfl hk rfl rfl rfl fun a hk => ?_
  show wpList _ _ _ [] _ _
  refine wpList_nil ?_
  refine hK1 _ _ ?_
  apply wp_seq_k; intro K2 hK2
  obtain ⟨o5, h6, HL7⟩ := bind_some H
  clear H
  obtain ⟨R8, hR8⟩ : ∃ R : Act → World → Prop, R = fun a w => ∃ (u4 : Bool), u4 = o5 ∧ Kn [(2, (.bool u4))] 9 a ∧ Sat [] w0 w [] [] := ⟨_, rfl⟩
  refine wp_cutq R8 ?_ ?_
  · have H := h6
    apply wp_region_lit
    refine sm _ rfl hk rfl rfl rfl fun a hk => ?_
    refine sv (.bool (x0 == 1)) hk rfl rfl rfl fun a hk => ?_
    refine sm _ rfl hk rfl rfl rfl fun a hk => ?_
    rcases cond_some H with ⟨c9, H⟩ | ⟨c9, H⟩
    · have hk := hk.lit 5 c9 rfl
      refine sk hk rfl rfl rfl fun a hk => ?_
      refine sk hk rfl rfl rfl fun a hk => ?_
      refine sv (.bool true) hk rfl rfl rfl fun a hk => ?_
      refine sa _ rfl hk rfl rfl rfl fun a hk => ?_
      show wpList _ _ _ [] _ _
      refine wpList_nil ?_
      obtain rfl := Option.some.inj H
      show R8 _ _
      rw [hR8]
      exact ⟨true, rfl, (hk.c 2 rfl hk.k), (hs.pick [] rfl)⟩
    · have hk := hk.lit 5 c9 rfl
      refine sm _ rfl hk rfl rfl rfl fun a hk => ?_
      refine sv (.bool (x0 == 3)) hk rfl rfl rfl fun a hk => ?_
      refine sv (.bool (x0 == 3)) hk rfl rfl rfl fun a hk => ?_
      refine sa _ rfl hk rfl rfl rfl fun a hk => ?_
      show wpList _ _ _ [] _ _
      refine wpList_nil ?_
      obtain rfl := Option.some.inj H
      show R8 _ _
      rw [hR8]
      exact ⟨(x0 == 3), rfl, (hk.c 2 rfl hk.k), (hs.pick [] rfl)⟩
  · intro a w hR0
    rw [hR8] at hR0
    obtain ⟨u4, rfl, hk, hs⟩ := hR0
    have H := HL7
    try dsimp only at H
    refine hK2 _ _ ?_
    refine wp_ret ?_
    obtain rfl := Option.some.inj H
    exact fin hk _ [(.bool u4)] rfl ⟨rfl, trivial⟩ ⟨rfl, (hs.pick [] rfl).dnil⟩

noncomputable def impl_OpOK.f (x0 : S_Op) : Option (Bool) :=
  ((((impl_within.f x0.Kind 1 6).bind fun y11 => (bif (!y11) then (some true) else ((impl_isKey.f x0.Key).bind fun y14 => (some (!y14))))) : Option (Bool)).bind fun u6 => (bif u6 then (some false) else ((impl_isBare.f x0.Kind).bind fun y20 => (bif y20 then (some (x0.Value == 0)) else (bif (x0.Kind == 6) then ((impl_within.f x0.Value 1 4).bind fun y27 => (some y27)) else ((impl_isValue.f x0.Value).bind fun y30 => (some y30)))))))
set_option maxRecDepth 100000 in
set_option maxHeartbeats 0 in
theorem impl_OpOK_t (w0 : World) (x0 : S_Op) (r : Bool) (H : impl_OpOK.f x0 = some r) :
    Calls Try.prog 159 #[.agg #[.int .i64 x0.Kind, .int .i64 x0.Key, .int .i64 x0.Value]] w0 (Ret (fun v w => v = .bool r ∧ Sat [] w0 w [] [])) := by
  have hs : Sat [] w0 w0 [] [] := Sat.init w0 [] [] (by simp) (by simp) List.nodup_nil (by simp [blks])
  unfold impl_OpOK.f at H
  refine enter Try.func159 rfl Try.ntmps159 rfl fun a hk => ?_
  apply wp_seq_k; intro K1 hK1
  apply wp_region_lit
  refine sbx 1 hs rfl hk rfl rfl rfl rfl fun b2 w a hk hs => ?_
  refine sa _ rfl hk rfl rfl rfl fun a hk => ?_
  show wpList _ _ _ [] _ _
  refine wpList_nil ?_
  refine hK1 _ _ ?_
  apply wp_seq_k; intro K3 hK3
  apply wp_seq_k; intro K4 hK4
  obtain ⟨o7, h8, HL9⟩ := bind_some H
  clear H
  obtain ⟨R10, hR10⟩ : ∃ R : Act → World → Prop, R = fun a w => ∃ (u6 : Bool), u6 = o7 ∧ Kn [(1, (.pointer (some ⟨b2, 0, none⟩))), (12, (.bool u6))] 30 a ∧ Sat [] w0 w [] [(1, [(b2, .cells #[.int .i64 x0.Kind, .int .i64 x0.Key, .int .i64 x0.Value] 135 (0, 0))])] := ⟨_, rfl⟩
  refine wp_cutq R10 ?_ ?_
  · have H := h8
    apply wp_region_lit
    refine sf ⟨b2, 0, none⟩ rfl hk rfl rfl rfl fd135_0 rfl fun a hk => ?_
    refine sl rfl hk rfl rfl rfl ag3 (box_cell hs (k := 1) rfl rfl) fun a hk => ?_
    obtain ⟨y11, h12, H⟩ := bind_some H
    refine sc rfl en115 hk rfl rfl rfl (impl_within_t _ x0.Kind 1 6 _ h12) ?_
    rintro _ w ⟨rfl, hG⟩ a hk
    have hs := hs.call0 hG
    refine sv (.bool (!y11)) hk rfl rfl rfl fun a hk => ?_
    refine sm _ rfl hk rfl rfl rfl fun a hk => ?_
    rcases cond_some H with ⟨c13, H⟩ | ⟨c13, H⟩
    · have hk := hk.lit 7 c13 rfl
      refine sk hk rfl rfl rfl fun a hk => ?_
      refine sk hk rfl rfl rfl fun a hk => ?_
      refine sk hk rfl rfl rfl fun a hk => ?_
      refine sk hk rfl rfl rfl fun a hk => ?_
      refine sv (.bool true) hk rfl rfl rfl fun a hk => ?_
      show wpList _ _ _ [] _ _
      refine wpList_nil ?_
      obtain rfl := Option.some.inj H
      show R10 _ _
      rw [hR10]
      exact ⟨true, rfl, (hk.c 1 rfl (hk.c 12 rfl hk.k)), (hs.pick [(1, 1)] rfl)⟩
    · have hk := hk.lit 7 c13 rfl
      refine sf ⟨b2, 1, none⟩ rfl hk rfl rfl rfl fd135_1 rfl fun a hk => ?_
      refine sl rfl hk rfl rfl rfl ag3 (box_cell hs (k := 1) rfl rfl) fun a hk => ?_
      obtain ⟨y14, h15, H⟩ := bind_some H
      refine sc rfl en83 hk rfl rfl rfl (impl_isKey_t _ x0.Key _ h15) ?_
      rintro _ w ⟨rfl, hG⟩ a hk
      have hs := hs.call0 hG
      refine sv (.bool (!y14)) hk rfl rfl rfl fun a hk => ?_
      refine sv (.bool (!y14)) hk rfl rfl rfl fun a hk => ?_
      show wpList _ _ _ [] _ _
      refine wpList_nil ?_
      obtain rfl := Option.some.inj H
      show R10 _ _
      rw [hR10]
      exact ⟨(!y14), rfl, (hk.c 1 rfl (hk.c 12 rfl hk.k)), (hs.pick [(1, 1)] rfl)⟩
  · intro a w hR0
    rw [hR10] at hR0
    obtain ⟨u6, rfl, hk, hs⟩ := hR0
    have H := HL9
    try dsimp only at H
    refine hK4 _ _ ?_
    rcases cond_some H with ⟨c16, H⟩ | ⟨c16, H⟩
    · have hk := hk.lit 12 c16 rfl
      refine cnd_true hk rfl rfl ?_
      apply wp_seq_k; intro K17 hK17
      apply wp_region_lit
      refine sa _ rfl hk rfl rfl rfl fun a hk => ?_
      show wpList _ _ _ [] _ _
      refine wpList_nil ?_
      refine hK17 _ _ ?_
      refine wp_ret ?_
      obtain rfl := Option.some.inj H
      exact fin hk _ [(.bool false)] rfl ⟨rfl, trivial⟩ ⟨rfl, (hs.pick [] rfl).dnil⟩
    · have hk := hk.lit 12 c16 rfl
      refine cnd_false hk rfl rfl ?_
      refine wp_skip ?_
      refine hK3 _ _ ?_
      apply wp_seq_k; intro K18 hK18
      refine wp_block ?_
      apply wp_seq_k; intro K19 hK19
      apply wp_region_lit
      refine sf ⟨b2, 0, none⟩ rfl hk rfl rfl rfl fd135_0 rfl fun a hk => ?_
      refine sl rfl hk rfl rfl rfl ag3 (box_cell hs (k := 1) rfl rfl) fun a hk => ?_
      obtain ⟨y20, h21, H⟩ := bind_some H
      refine sc rfl en184 hk rfl rfl rfl (impl_isBare_t _ x0.Kind _ h21) ?_
      rintro _ w ⟨rfl, hG⟩ a hk
      have hs := hs.call0 hG
      refine sa _ rfl hk rfl rfl rfl fun a hk => ?_
      show wpList _ _ _ [] _ _
      refine wpList_nil ?_
      refine hK19 _ _ ?_
      rcases cond_some H with ⟨c22, H⟩ | ⟨c22, H⟩
      · have hk := hk.lit 13 c22 rfl
        refine cnd_true hk rfl rfl ?_
        apply wp_seq_k; intro K23 hK23
        apply wp_region_lit
        refine sf ⟨b2, 2, none⟩ rfl hk rfl rfl rfl fd135_2 rfl fun a hk => ?_
        refine sl rfl hk rfl rfl rfl ag3 (box_cell hs (k := 1) rfl rfl) fun a hk => ?_
        refine sv (.bool (x0.Value == 0)) hk rfl rfl rfl fun a hk => ?_
        refine sa _ rfl hk rfl rfl rfl fun a hk => ?_
        show wpList _ _ _ [] _ _
        refine wpList_nil ?_
        refine hK23 _ _ ?_
        refine wp_ret ?_
        obtain rfl := Option.some.inj H
        exact fin hk _ [(.bool (x0.Value == 0))] rfl ⟨rfl, trivial⟩ ⟨rfl, (hs.pick [] rfl).dnil⟩
      · have hk := hk.lit 13 c22 rfl
        refine cnd_false hk rfl rfl ?_
        apply wp_seq_k; intro K24 hK24
        apply wp_region_lit
        refine sf ⟨b2, 0, none⟩ rfl hk rfl rfl rfl fd135_0 rfl fun a hk => ?_
        refine sl rfl hk rfl rfl rfl ag3 (box_cell hs (k := 1) rfl rfl) fun a hk => ?_
        refine sv (.bool (x0.Kind == 6)) hk rfl rfl rfl fun a hk => ?_
        refine sa _ rfl hk rfl rfl rfl fun a hk => ?_
        show wpList _ _ _ [] _ _
        refine wpList_nil ?_
        refine hK24 _ _ ?_
        rcases cond_some H with ⟨c25, H⟩ | ⟨c25, H⟩
        · have hk := hk.lit 20 c25 rfl
          refine cnd_true hk rfl rfl ?_
          apply wp_seq_k; intro K26 hK26
          apply wp_region_lit
          refine sf ⟨b2, 2, none⟩ rfl hk rfl rfl rfl fd135_2 rfl fun a hk => ?_
          refine sl rfl hk rfl rfl rfl ag3 (box_cell hs (k := 1) rfl rfl) fun a hk => ?_
          obtain ⟨y27, h28, H⟩ := bind_some H
          refine sc rfl en115 hk rfl rfl rfl (impl_within_t _ x0.Value 1 4 _ h28) ?_
          rintro _ w ⟨rfl, hG⟩ a hk
          have hs := hs.call0 hG
          refine sa _ rfl hk rfl rfl rfl fun a hk => ?_
          show wpList _ _ _ [] _ _
          refine wpList_nil ?_
          refine hK26 _ _ ?_
          refine wp_ret ?_
          obtain rfl := Option.some.inj H
          exact fin hk _ [(.bool y27)] rfl ⟨rfl, trivial⟩ ⟨rfl, (hs.pick [] rfl).dnil⟩
        · have hk := hk.lit 20 c25 rfl
          refine cnd_false hk rfl rfl ?_
          refine wp_skip ?_
          refine hK18 _ _ ?_
          apply wp_seq_k; intro K29 hK29
          apply wp_region_lit
          refine sf ⟨b2, 2, none⟩ rfl hk rfl rfl rfl fd135_2 rfl fun a hk => ?_
          refine sl rfl hk rfl rfl rfl ag3 (box_cell hs (k := 1) rfl rfl) fun a hk => ?_
          obtain ⟨y30, h31, H⟩ := bind_some H
          refine sc rfl en107 hk rfl rfl rfl (impl_isValue_t _ x0.Value _ h31) ?_
          rintro _ w ⟨rfl, hG⟩ a hk
          have hs := hs.call0 hG
          refine sa _ rfl hk rfl rfl rfl fun a hk => ?_
          show wpList _ _ _ [] _ _
          refine wpList_nil ?_
          refine hK29 _ _ ?_
          refine wp_ret ?_
          obtain rfl := Option.some.inj H
          exact fin hk _ [(.bool y30)] rfl ⟨rfl, trivial⟩ ⟨rfl, (hs.pick [] rfl).dnil⟩

noncomputable def impl_isTxn.f (x0 : S_Txn) : Option (Bool) :=
  ((((impl_within.f (x0.Ops.length : Int) 1 4).bind fun y10 => (bif y10 then ((impl_areAll_impl_Op.f x0.Ops impl_OpOK.f).bind fun y13 => (some y13)) else (some false))) : Option (Bool)).bind fun u5 => (some u5))
set_option maxRecDepth 100000 in
set_option maxHeartbeats 0 in
theorem impl_isTxn_t (w0 : World) (x0 : S_Txn) (A0_0 : Option Addr) (p0_0 : Nat) (k0_0 : Chunk) (v0_0 : View L_Op A0_0 p0_0 x0.Ops k0_0) (w0_0 : Has w0 k0_0) (r : Bool) (H : impl_isTxn.f x0 = some r) :
    Calls Try.prog 117 #[.agg #[.slice A0_0 x0.Ops.length p0_0]] w0 (Ret (fun v w => v = .bool r ∧ Sat [] w0 w [] [])) := by
  have hs : Sat [] w0 w0 [(1, k0_0)] [] := Sat.init w0 [(1, k0_0)] [] (by simp only [List.mem_cons, List.not_mem_nil, or_false]; rintro x (rfl) <;> assumption) (by simp) List.nodup_nil (by simp [blks])
  unfold impl_isTxn.f at H
  refine enter Try.func117 rfl Try.ntmps117 rfl fun a hk => ?_
  apply wp_seq_k; intro K1 hK1
  apply wp_region_lit
  refine sbx 2 hs rfl hk rfl rfl rfl rfl fun b2 w a hk hs => ?_
  refine sa _ rfl hk rfl rfl rfl fun a hk => ?_
  show wpList _ _ _ [] _ _
  refine wpList_nil ?_
  refine hK1 _ _ ?_
  apply wp_seq_k; intro K3 hK3
  obtain ⟨o6, h7, HL8⟩ := bind_some H
  clear H
  obtain ⟨R9, hR9⟩ : ∃ R : Act → World → Prop, R = fun a w => ∃ (u5 : Bool), u5 = o6 ∧ Kn [(2, (.bool u5))] 12 a ∧ Sat [] w0 w [(1, k0_0)] [] := ⟨_, rfl⟩
  refine wp_cutq R9 ?_ ?_
  · have H := h7
    apply wp_region_lit
    refine sf ⟨b2, 0, none⟩ rfl hk rfl rfl rfl fd95_0 rfl fun a hk => ?_
    refine sl rfl hk rfl rfl rfl ag93 (box_cell hs (k := 2) rfl rfl) fun a hk => ?_
    refine sle rfl hk rfl rfl rfl un93 fun a hk => ?_
    obtain ⟨y10, h11, H⟩ := bind_some H
    refine sc rfl en115 hk rfl rfl rfl (impl_within_t _ (x0.Ops.length : Int) 1 4 _ h11) ?_
    rintro _ w ⟨rfl, hG⟩ a hk
    have hs := hs.call0 hG
    refine sm _ rfl hk rfl rfl rfl fun a hk => ?_
    rcases cond_some H with ⟨c12, H⟩ | ⟨c12, H⟩
    · have hk := hk.lit 7 c12 rfl
      refine sf ⟨b2, 0, none⟩ rfl hk rfl rfl rfl fd95_0 rfl fun a hk => ?_
      refine sl rfl hk rfl rfl rfl ag93 (box_cell hs (k := 2) rfl rfl) fun a hk => ?_
      obtain ⟨y13, h14, H⟩ := bind_some H
      refine sc rfl en158 hk rfl rfl rfl (impl_areAll_impl_Op_t _ A0_0 p0_0 x0.Ops _ v0_0 (hs.hasD (k := 1) rfl) 159 [] en159 impl_OpOK.f [] (fun w _ z0 r h => impl_OpOK_t w z0 r h) (Has.nil _) _ h14) ?_
      rintro _ w ⟨rfl, hG⟩ a hk
      have hs := hs.call0 hG
      refine sv (.bool y13) hk rfl rfl rfl fun a hk => ?_
      refine sa _ rfl hk rfl rfl rfl fun a hk => ?_
      show wpList _ _ _ [] _ _
      refine wpList_nil ?_
      obtain rfl := Option.some.inj H
      show R9 _ _
      rw [hR9]
      exact ⟨y13, rfl, (hk.c 2 rfl hk.k), (hs.pick [] rfl)⟩
    · have hk := hk.lit 7 c12 rfl
      refine sk hk rfl rfl rfl fun a hk => ?_
      refine sk hk rfl rfl rfl fun a hk => ?_
      refine sk hk rfl rfl rfl fun a hk => ?_
      refine sv (.bool false) hk rfl rfl rfl fun a hk => ?_
      refine sa _ rfl hk rfl rfl rfl fun a hk => ?_
      show wpList _ _ _ [] _ _
      refine wpList_nil ?_
      obtain rfl := Option.some.inj H
      show R9 _ _
      rw [hR9]
      exact ⟨false, rfl, (hk.c 2 rfl hk.k), (hs.pick [] rfl)⟩
  · intro a w hR0
    rw [hR9] at hR0
    obtain ⟨u5, rfl, hk, hs⟩ := hR0
    have H := HL8
    try dsimp only at H
    refine hK3 _ _ ?_
    refine wp_ret ?_
    obtain rfl := Option.some.inj H
    exact fin hk _ [(.bool u5)] rfl ⟨rfl, trivial⟩ ⟨rfl, (hs.pick [] rfl).dnil⟩

noncomputable def impl_BatchOK.f (l0 : List S_Txn) : Option (Bool) :=
  ((((impl_within.f (l0.length : Int) 1 2).bind fun y9 => (bif y9 then ((impl_areAll_impl_Txn.f l0 impl_isTxn.f).bind fun y12 => (some y12)) else (some false))) : Option (Bool)).bind fun u4 => (some u4))
set_option maxRecDepth 100000 in
set_option maxHeartbeats 0 in
theorem impl_BatchOK_t (w0 : World) (A0_ : Option Addr) (p0_ : Nat) (l0 : List S_Txn) (k0_ : Chunk) (v0_ : View L_impl_Txn A0_ p0_ l0 k0_) (w0_ : Has w0 k0_) (r : Bool) (H : impl_BatchOK.f l0 = some r) :
    Calls Try.prog 66 #[.slice A0_ l0.length p0_] w0 (Ret (fun v w => v = .bool r ∧ Sat [] w0 w [] [])) := by
  have hs : Sat [] w0 w0 [(1, k0_)] [] := Sat.init w0 [(1, k0_)] [] (by simp only [List.mem_cons, List.not_mem_nil, or_false]; rintro x (rfl) <;> assumption) (by simp) List.nodup_nil (by simp [blks])
  unfold impl_BatchOK.f at H
  refine enter Try.func66 rfl Try.ntmps66 rfl fun a hk => ?_
  apply wp_seq_k; intro K1 hK1
  apply wp_region_lit
  refine sa _ rfl hk rfl rfl rfl fun a hk => ?_
  show wpList _ _ _ [] _ _
  refine wpList_nil ?_
  refine hK1 _ _ ?_
  apply wp_seq_k; intro K2 hK2
  obtain ⟨o5, h6, HL7⟩ := bind_some H
  clear H
  obtain ⟨R8, hR8⟩ : ∃ R : Act → World → Prop, R = fun a w => ∃ (u4 : Bool), u4 = o5 ∧ Kn [(2, (.bool u4))] 10 a ∧ Sat [] w0 w [(1, k0_)] [] := ⟨_, rfl⟩
  refine wp_cutq R8 ?_ ?_
  · have H := h6
    apply wp_region_lit
    refine sm _ rfl hk rfl rfl rfl fun a hk => ?_
    refine sle rfl hk rfl rfl rfl un34 fun a hk => ?_
    obtain ⟨y9, h10, H⟩ := bind_some H
    refine sc rfl en115 hk rfl rfl rfl (impl_within_t _ (l0.length : Int) 1 2 _ h10) ?_
    rintro _ w ⟨rfl, hG⟩ a hk
    have hs := hs.call0 hG
    refine sm _ rfl hk rfl rfl rfl fun a hk => ?_
    rcases cond_some H with ⟨c11, H⟩ | ⟨c11, H⟩
    · have hk := hk.lit 6 c11 rfl
      refine sm _ rfl hk rfl rfl rfl fun a hk => ?_
      obtain ⟨y12, h13, H⟩ := bind_some H
      refine sc rfl en116 hk rfl rfl rfl (impl_areAll_impl_Txn_t _ A0_ p0_ l0 _ v0_ (hs.hasD (k := 1) rfl) 117 [] en117 impl_isTxn.f [] (fun w _ z0 z0A0 z0p0 z0k0 z0v0 z0w0 r h => impl_isTxn_t w z0 z0A0 z0p0 z0k0 z0v0 z0w0 r h) (Has.nil _) _ h13) ?_
      rintro _ w ⟨rfl, hG⟩ a hk
      have hs := hs.call0 hG
      refine sv (.bool y12) hk rfl rfl rfl fun a hk => ?_
      refine sa _ rfl hk rfl rfl rfl fun a hk => ?_
      show wpList _ _ _ [] _ _
      refine wpList_nil ?_
      obtain rfl := Option.some.inj H
      show R8 _ _
      rw [hR8]
      exact ⟨y12, rfl, (hk.c 2 rfl hk.k), (hs.pick [] rfl)⟩
    · have hk := hk.lit 6 c11 rfl
      refine sk hk rfl rfl rfl fun a hk => ?_
      refine sk hk rfl rfl rfl fun a hk => ?_
      refine sv (.bool false) hk rfl rfl rfl fun a hk => ?_
      refine sa _ rfl hk rfl rfl rfl fun a hk => ?_
      show wpList _ _ _ [] _ _
      refine wpList_nil ?_
      obtain rfl := Option.some.inj H
      show R8 _ _
      rw [hR8]
      exact ⟨false, rfl, (hk.c 2 rfl hk.k), (hs.pick [] rfl)⟩
  · intro a w hR0
    rw [hR8] at hR0
    obtain ⟨u4, rfl, hk, hs⟩ := hR0
    have H := HL7
    try dsimp only at H
    refine hK2 _ _ ?_
    refine wp_ret ?_
    obtain rfl := Option.some.inj H
    exact fin hk _ [(.bool u4)] rfl ⟨rfl, trivial⟩ ⟨rfl, (hs.pick [] rfl).dnil⟩

noncomputable def impl_little.s0 (x0 : Int) (x1 : Int) (u13 : List Int) (u12 : Int) : Option (((List Int) × Int) ⊕ Ex ((List Int)) (ByteArray)) :=
  (bif (decide (u12 < x1)) then (if 0 ≤ (w64 (8 * u12)) then (if u13.length + ([(IntKind.wrap .u8 (Int.fdiv x0 (2 ^ min (w64 (8 * u12)).toNat 64)))]).length ≤ 1073741824 then (some (.inl ((u13 ++ ([(IntKind.wrap .u8 (Int.fdiv x0 (2 ^ min (w64 (8 * u12)).toNat 64)))])), (w64 (u12 + 1))))) else none) else none) else (some (.inr (.out u13))))
noncomputable def impl_little.f (x0 : Int) (x1 : Int) : Option (ByteArray) :=
  ((loopO (fun s => impl_little.s0 x0 x1 s.1 s.2) (([] : List Int), 0)).bind fun o => match o with | .out u18 => (some (strOfNums u18)) | .ret r => (some r))
set_option maxRecDepth 100000 in
set_option maxHeartbeats 0 in
theorem impl_little_t (w0 : World) (x0 : Int) (x1 : Int) (r : ByteArray) (H : impl_little.f x0 x1 = some r) :
    Calls Try.prog 178 #[.int .i64 x0, .int .i64 x1] w0 (Ret (fun v w => v = .string r ∧ Sat [] w0 w [] [])) := by
  have hs : Sat [] w0 w0 [] [] := Sat.init w0 [] [] (by simp) (by simp) List.nodup_nil (by simp [blks])
  unfold impl_little.f at H
  refine enter Try.func178 rfl Try.ntmps178 rfl fun a hk => ?_
  apply wp_seq_k; intro K1 hK1
  apply wp_region_lit
  refine sa _ rfl hk rfl rfl rfl fun a hk => ?_
  show wpList _ _ _ [] _ _
  refine wpList_nil ?_
  refine hK1 _ _ ?_
  apply wp_seq_k; intro K2 hK2
  apply wp_region_lit
  refine sa _ rfl hk rfl rfl rfl fun a hk => ?_
  show wpList _ _ _ [] _ _
  refine wpList_nil ?_
  refine hK2 _ _ ?_
  apply wp_seq_k; intro K3 hK3
  apply wp_seq_k; intro K4 hK4
  apply wp_region_lit
  refine sm _ rfl hk rfl rfl rfl fun a hk => ?_
  refine sm _ rfl hk rfl rfl rfl fun a hk => ?_
  show wpList _ _ _ [] _ _
  refine wpList_nil ?_
  refine hK4 _ _ ?_
  obtain ⟨o23, h24, HL25⟩ := bind_some H
  clear H
  obtain ⟨R26, hR26⟩ : ∃ R : Act → World → Prop, R = fun a w => ∃ (u18 : List Int) (A21 : Option Addr) (p22 : Nat) (k19 : Chunk), o23 = .out u18 ∧ Kn [(5, (.slice A21 u18.length p22))] 22 a ∧ Sat [] w0 w [] [(3, k19)] ∧ Own (Lay.int .u8) 5 A21 p22 u18 k19 := ⟨_, rfl⟩
  refine wp_cutq R26 ?_ ?_
  · refine wp_block ?_
    obtain ⟨fu28, h24⟩ := loopO_some h24
    obtain ⟨I27, hI27⟩ : ∃ I : Nat → Act → World → Prop, I = fun fu a w => ∃ (u13 : List Int) (u12 : Int) (A16 : Option Addr) (p17 : Nat) (k14 : Chunk), loopN (fun s => impl_little.s0 x0 x1 s.1 s.2) fu (u13, u12) = some o23 ∧ Kn [(0, (.int .i64 x0)), (5, (.slice A16 u13.length p17)), (7, (.int .i64 x1)), (8, (.int .i64 u12))] 22 a ∧ Sat [] w0 w [] [(3, k14)] ∧ Own (Lay.int .u8) 5 A16 p17 u13 k14 := ⟨_, rfl⟩
    refine wp_loop_ghost I27 fu28 ?_ ?_
    · rw [hI27]
      exact ⟨([] : List Int), 0, none, 0, _, h24, (hk.c 0 rfl (hk.c 5 rfl (hk.c 7 rfl (hk.c 8 rfl hk.k)))), ((hs.addNil 1003).pick [(3, 1003)] rfl), Own.nil _ _⟩
    · clear h24 hk hs
      intro fu28 a w hI0
      rw [hI27] at hI0
      obtain ⟨u13, u12, A16, p17, k14, hi, hk, hs, o15⟩ := hI0
      obtain ⟨x29, H, h30⟩ := loop_round hi
      try dsimp only at H
      unfold impl_little.s0 at H
      apply wp_seq_k; intro K31 hK31
      apply wp_region_lit
      refine sv (.bool (decide (u12 < x1))) hk rfl rfl rfl fun a hk => ?_
      show wpList _ _ _ [] _ _
      refine wpList_nil ?_
      refine hK31 _ _ ?_
      apply wp_seq_k; intro K32 hK32
      rcases cond_some H with ⟨c33, H⟩ | ⟨c33, H⟩
      · have hk := hk.lit 9 c33 rfl
        refine cnd_true hk rfl rfl ?_
        refine wp_skip ?_
        refine hK32 _ _ ?_
        apply wp_seq_k; intro K34 hK34
        refine wp_block ?_
        apply wp_seq_k; intro K35 hK35
        apply wp_region_lit
        refine sm _ rfl hk rfl rfl rfl fun a hk => ?_
        refine sa _ rfl hk rfl rfl rfl fun a hk => ?_
        show wpList _ _ _ [] _ _
        refine wpList_nil ?_
        refine hK35 _ _ ?_
        apply wp_region_lit
        refine sm _ rfl hk rfl rfl rfl fun a hk => ?_
        refine sm _ rfl hk rfl rfl rfl fun a hk => ?_
        refine sm _ rfl hk rfl rfl rfl fun a hk => ?_
        refine sv (.int .i64 (w64 (8 * u12))) hk rfl rfl rfl fun a hk => ?_
        rcases ite_some H with ⟨c36, H⟩ | ⟨_, H⟩
        rotate_left
        · cases H
        refine ssr rfl hk rfl rfl rfl rfl c36 fun a hk => ?_
        refine scn rfl hk rfl rfl rfl un5 un3 fun a hk => ?_
        refine sbs (L := (Lay.int .u8)) (pv := [(0, (.int .u8 (IntKind.wrap .u8 (Int.fdiv x0 (2 ^ min (w64 (8 * u12)).toNat 64)))))]) (xs := [(IntKind.wrap .u8 (Int.fdiv x0 (2 ^ min (w64 (8 * u12)).toNat 64)))]) (ess := [[.int .u8 (IntKind.wrap .u8 (Int.fdiv x0 (2 ^ min (w64 (8 * u12)).toNat 64)))]]) 4 hs rfl hk rfl rfl rfl un74 (bs5_3 (IntKind.wrap .u8 (Int.fdiv x0 (2 ^ min (w64 (8 * u12)).toNat 64)))) (AllOwn.cons0 ⟨rfl, rfl⟩ AllOwn.nil) rfl rfl rfl fun b37 k38 w a hk o39 hs => ?_
        rcases ite_some H with ⟨c40, H⟩ | ⟨_, H⟩
        rotate_left
        · cases H
        refine sap 3 (xs := u13) (ys := [(IntKind.wrap .u8 (Int.fdiv x0 (2 ^ min (w64 (8 * u12)).toNat 64)))]) (flat_flat : ((Lay.int .u8)).Flat) hs rfl o15 o39.view (hs.hasG (k := 4) rfl) rfl hk rfl rfl rfl rfl rfl rfl un74 mk5 rfl rfl rfl c40 fun A41 p42 k43 w a hk o44 hs => ?_
        refine sa _ rfl hk rfl rfl rfl fun a hk => ?_
        show wpList _ _ _ [] _ _
        refine wpList_nil ?_
        refine hK34 _ _ ?_
        apply wp_region_lit
        refine sv (.int .i64 (w64 (u12 + 1))) hk rfl rfl rfl fun a hk => ?_
        refine sm _ rfl hk rfl rfl rfl fun a hk => ?_
        show wpList _ _ _ [] _ _
        refine wpList_nil ?_
        obtain rfl := Option.some.inj H
        obtain ⟨m45, hmm45, h30⟩ := h30
        show ∃ n', n' < _ ∧ I27 n' _ _
        refine ⟨m45, hmm45, ?_⟩
        rw [hI27]
        exact ⟨(u13 ++ ([(IntKind.wrap .u8 (Int.fdiv x0 (2 ^ min (w64 (8 * u12)).toNat 64)))])), (w64 (u12 + 1)), A41, p42, _, h30, (hk.c 0 rfl (hk.c 5 rfl (hk.c 7 rfl (hk.c 8 rfl hk.k)))), (hs.pick [(3, 3)] rfl), o44⟩
      · have hk := hk.lit 9 c33 rfl
        refine cnd_false hk rfl rfl ?_
        refine wp_exit ?_
        obtain rfl := Option.some.inj H
        show R26 _ _
        rw [hR26]
        exact ⟨u13, A16, p17, _, h30.symm, (hk.c 5 rfl hk.k), (hs.pick [(3, 3)] rfl), o15⟩
  · intro a w hR0
    rw [hR26] at hR0
    obtain ⟨u18, A21, p22, k19, rfl, hk, hs, o20⟩ := hR0
    have H := HL25
    try dsimp only at H
    refine hK3 _ _ ?_
    apply wp_seq_k; intro K46 hK46
    apply wp_region_lit
    refine sm _ rfl hk rfl rfl rfl fun a hk => ?_
    refine sbt (xs := u18) rfl hk rfl rfl rfl rfl un74 un5 un9 o20.view (hs.hasG (k := 3) rfl) fun a hk => ?_
    refine sa _ rfl hk rfl rfl rfl fun a hk => ?_
    show wpList _ _ _ [] _ _
    refine wpList_nil ?_
    refine hK46 _ _ ?_
    refine wp_ret ?_
    obtain rfl := Option.some.inj H
    exact fin hk _ [(.string (strOfNums u18))] rfl ⟨rfl, trivial⟩ ⟨rfl, (hs.pick [] rfl).dnil⟩

noncomputable def impl_intsText.s0 (l0 : List Int) (u1 : Int) (u2 : ByteArray) : Option ((Int × ByteArray) ⊕ Ex (ByteArray) (ByteArray)) :=
  (bif (decide (u1 < (l0.length : Int))) then (if 0 ≤ u1 ∧ u1 < (l0.length : Int) then ((impl_little.f (l0.getD u1.toNat 0) 4).bind fun y => (if u2.size + y.size ≤ 1073741824 then (some (.inl ((w64 (u1 + 1)), (u2 ++ y)))) else none)) else none) else (some (.inr (.out u2))))
noncomputable def impl_intsText.f (l0 : List Int) : Option (ByteArray) :=
  ((loopO (fun s => impl_intsText.s0 l0 s.1 s.2) (0, (⟨#[]⟩ : ByteArray))).bind fun o => match o with | .out u => (some u) | .ret r => (some r))
set_option maxRecDepth 100000 in
set_option maxHeartbeats 0 in
theorem impl_intsText_n : True := trivial
section
open Go.Shelf
theorem bsz : (Try.prog.info? 188).map (·.size) = some 2 := by kernel_rfl
theorem bli : liesAt Try.prog Try.prog.depth 188 (2 / Try.prog.cellsOf 188) 0 188 1 = true := by kernel_rfl
set_option maxHeartbeats 1000000 in
set_option maxRecDepth 100000 in
theorem cc_used (b : Nat) (w : World) (h0 : w.cell? ⟨b, 0, none⟩ = some (.pointer (some ⟨b, 0, none⟩))) :
    Calls Try.prog 192 #[.pointer (some ⟨b, 0, none⟩)] w fun e w' => e = .returned (.tuple #[]) ∧ w' = w := by
  obtain ⟨j, hj, _⟩ := Option.map_eq_some_iff.1 bsz
  go_enter Try.func192, Try.ntmps192
  go_wp2
  rw [Lib.run_neq_ptr_same w _ Try.underlying186 hj]
  go_wp2
  go_end0
  exact ⟨rfl, rfl⟩
set_option maxHeartbeats 1000000 in
set_option maxRecDepth 100000 in
theorem cc_fresh (b : Nat) (w : World) (h0 : w.cell? ⟨b, 0, none⟩ = some (.pointer none)) (hsh : w.shape? b = some (188, 2)) (hfz : w.frozen? ⟨b, 0, none⟩ = false) :
    Calls Try.prog 192 #[.pointer (some ⟨b, 0, none⟩)] w fun e w' => e = .returned (.tuple #[]) ∧ w' = w.setCell ⟨b, 0, none⟩ (.pointer (some ⟨b, 0, none⟩)) := by
  obtain ⟨j, hj, hjs⟩ := Option.map_eq_some_iff.1 bsz
  go_enter Try.func192, Try.ntmps192
  go_wp2
  rw [Lib.run_to_unsafe w ⟨b, 0, none⟩ Try.underlying186 Try.underlying205 hj (by rw [hjs]; decide) hsh (Nat.zero_lt_succ 1)]
  simp only [Result.andThen]
  rw [Oper.upon_value]
  go_wp2
  rw [run_callFunc_extern Try.func194 (by kernel_rfl) (by kernel_rfl) (by kernel_rfl) (e := Extern.AbiNoEscape.same) (by kernel_rfl)]
  rw [Lib.run_noEscape]
  simp only [Result.andThen]
  rw [Oper.upon_value]
  go_wp2
  rw [Lib.run_from_unsafe w ⟨b, 0, none⟩ Try.underlying205 Try.underlying186 hj hsh bli]
  simp only [Result.andThen]
  rw [Oper.upon_value]
  go_wp2
  go_end0
  exact ⟨rfl, rfl⟩
theorem cc (B b : Nat) (bs : List Value) (w : World) (h : Lib.IsBuilder 188 5 B b bs w) :
    Calls Try.prog 192 #[.pointer (some ⟨b, 0, none⟩)] w fun e w' => e = .returned (.tuple #[]) ∧ (Lib.BuilderAt 188 5 B b (.pointer (some ⟨b, 0, none⟩)) bs w' ∧ Below B w w') := by
  rcases h with h | h
  · refine (cc_fresh b w h.cell0 h.shape h.frozen0).mono ?_
    rintro e w' ⟨rfl, rfl⟩
    exact ⟨rfl, h.used _, (Below.refl B w).setCell (p := ⟨b, 0, none⟩) h.1 _⟩
  · refine (cc_used b w h.cell0).mono ?_
    rintro e w' ⟨rfl, rfl⟩
    exact ⟨rfl, h, Below.refl B _⟩
set_option maxHeartbeats 2000000 in
set_option maxRecDepth 100000 in
theorem ws (B b : Nat) (bs : List Value) (s : ByteArray) (w : World) (h : Lib.IsBuilder 188 5 B b bs w) (hlen : bs.length + s.size ≤ 140737488355328) (hBw : B ≤ w.heap.size) :
    Calls Try.prog 177 #[.pointer (some ⟨b, 0, none⟩), .string s] w fun e w' => e = .returned (.tuple #[.int .i64 s.size, .nilIface]) ∧ (Lib.BuilderAt 188 5 B b (.pointer (some ⟨b, 0, none⟩)) (bs ++ Lib.strCells s) w' ∧ Below B w w') := by
  obtain ⟨i0, hi, hz0, hz1, hz2⟩ := info_parts (by kernel_rfl : (Try.prog.info? 5).map (fun i => (i.zero, i.size, i.bytes)) = some (some (.int .u8 0), 1, 1))
  have e240 : ∀ args w, (callFunc 192 args).run Try.prog w = .ok (.enter 192 args) w := enters_of Try.func192 (by kernel_rfl) rfl
  go_enter Try.func177, Try.ntmps177
  go_wp2_with (go_at_fn 192; refine (cc B b bs _ h).mono ?_)
  rintro e w1 ⟨rfl, h1, hb1⟩
  obtain ⟨hB, v, hbk, hown, hne⟩ := h1
  have c0 : w1.cell? ⟨b, 0, none⟩ = some (.pointer (some ⟨b, 0, none⟩)) := by rw [Lib.cell_of_heap hbk]; rfl
  have c1 : w1.cell? ⟨b, 1, none⟩ = some v := by rw [Lib.cell_of_heap hbk]; rfl
  go_wp2_with (at_builtin; refine Lib.wpList_append_own_string _ rfl _ _ 74 9 rfl B 5 i0 Try.underlying74 Try.underlying9 hi hz0 hz1 hz2 _ _ _ rfl hown s rfl ?c3 ?c4 ?c5 ?_)
  case c3 => unfold maxLen; omega
  case c4 => omega
  case c5 => have := hb1.size; omega
  intro v' w2 hown' hgrow _
  have hlt : b < w1.heap.size := by
    rcases Nat.lt_or_ge b w1.heap.size with h' | h'
    · exact h'
    · simp [Array.getElem?_eq_none h'] at hbk
  have hb2 : w2.heap[b]? = some (.cells #[.pointer (some ⟨b, 0, none⟩), v] 188 (0, 0)) := by
    rw [hgrow.block b hlt (fun e => hne e.symm)]
    exact hbk
  have d0 : w2.cell? ⟨b, 0, none⟩ = some (.pointer (some ⟨b, 0, none⟩)) := by rw [Lib.cell_of_heap hb2]; rfl
  have d1 : w2.cell? ⟨b, 1, none⟩ = some v := by rw [Lib.cell_of_heap hb2]; rfl
  have f1 : w2.frozen? ⟨b, 1, none⟩ = false := Lib.frozen_of_heap hb2 1
  obtain ⟨ao, n', cap, rfl⟩ : ∃ ao n' cap, v' = .slice ao n' cap := by
    rcases hown'.2 with ⟨hv, _⟩ | ⟨g, cap, cur, hv, _⟩
    · exact ⟨_, _, _, hv⟩
    · exact ⟨_, _, _, hv⟩
  go_wp2
  go_ret2
  refine ⟨rfl, ?_, ?_⟩
  · exact Lib.BuilderAt.put (T := 188) (e := 5) hB hb2 (bs' := bs ++ Lib.strCells s) (by simpa [Lib.strCells_length] using hown') (by decide)
  · exact (hb1.grown hgrow (by have := hb1.size; omega) (fun k hk => (hown.lt k hk).1)).setCell (p := ⟨b, 1, none⟩) hB _
def lays169_ren : Go.Shelf.Ren := ⟨fun | 169 => 179 | n => n, fun | 70 => 186 | 9 => 9 | 0 => 0 | 72 => 188 | 37 => 74 | 127 => 203 | 3 => 3 | 5 => 5 | n => n, fun | n => n⟩
theorem lays169 : Go.Proofs.Lays.n169 Try.prog lays169_ren := {
  mixed := by kernel_rfl
  f169 := Try.func179.trans (congrArg some (by kernel_rfl))
  t0 := Try.underlying0
  a0 := Try.isAgg0
  z0 := Try.sizeOf0
  v0 := Try.zeroValue0
  t3 := Try.underlying3
  a3 := Try.isAgg3
  z3 := Try.sizeOf3
  v3 := Try.zeroValue3
  t9 := Try.underlying9
  a9 := Try.isAgg9
  z9 := Try.sizeOf9
  v9 := Try.zeroValue9
  t37 := Try.underlying74
  a37 := Try.isAgg74
  z37 := Try.sizeOf74
  v37 := Try.zeroValue74
  t70 := Try.underlying186
  a70 := Try.isAgg186
  z70 := Try.sizeOf186
  v70 := Try.zeroValue186
  t72 := Try.underlying188
  a72 := Try.isAgg188
  z72 := Try.sizeOf188
  v72 := Try.zeroValue188
  t127 := Try.underlying203
  a127 := Try.isAgg203
  z127 := Try.sizeOf203
  v127 := Try.zeroValue203 }
theorem Builder_Extra_169 : Builder.Extra Try.prog lays169_ren := {
  sizeBuilder := by kernel_rfl
  liesBuilder := by kernel_rfl
  t5 := Try.underlying5
  a5 := Try.isAgg5
  z5 := Try.sizeOf5
  v5 := Try.zeroValue5
  infoByte := by kernel_rfl
  cellsByte := by kernel_rfl
  sizeByte := by kernel_rfl
  neB5 := by decide }
open Go.RowKit in
theorem Builder_String (B b : Nat) (l : List UInt8) (w : World) (h : Lib.IsBuilder 188 5 B b (Lib.byteCells l) w) (h0 : l ≠ []) :
    Calls Try.prog 179 #[.pointer (some ⟨b, 0, none⟩)] w fun e w' => e = .returned (.string ⟨l.toArray⟩) ∧ Below B w w' := Any.Builder_String lays169 Builder_Extra_169 B b l w h h0
open Go.RowKit in
theorem Builder_String_empty (B b : Nat) (w : World) (h : Lib.IsBuilder 188 5 B b [] w) (hBw : B ≤ w.heap.size) :
    Calls Try.prog 179 #[.pointer (some ⟨b, 0, none⟩)] w fun e w' => e = .returned (.string ⟨#[]⟩) ∧ Below B w w' := Any.Builder_String_empty lays169 Builder_Extra_169 B b w h hBw
open Go.RowKit in
theorem Builder_String_any (B b : Nat) (l : List UInt8) (w : World) (h : Lib.IsBuilder 188 5 B b (Lib.byteCells l) w) (hBw : B ≤ w.heap.size) :
    Calls Try.prog 179 #[.pointer (some ⟨b, 0, none⟩)] w fun e w' => e = .returned (.string ⟨l.toArray⟩) ∧ Below B w w' := Any.Builder_String_any lays169 Builder_Extra_169 B b l w h hBw
end
set_option maxRecDepth 100000 in
set_option maxHeartbeats 1000000 in
theorem impl_intsText_t (w0 : World) (A0_ : Option Addr) (p0_ : Nat) (l0 : List Int) (k0_ : Chunk) (v0_ : View (Lay.int .i64) A0_ p0_ l0 k0_) (w0_ : Has w0 k0_) (r : ByteArray) (H : impl_intsText.f l0 = some r) :
    Calls Try.prog 151 #[.slice A0_ l0.length p0_] w0 (Ret (fun v w => v = .string r ∧ Sat [] w0 w [] [])) := by
  unfold impl_intsText.f at H
  refine enter Try.func151 rfl Try.ntmps151 rfl fun a hk => ?_
  apply wp_seq_k; intro K1 hK1
  apply wp_region_lit
  refine sa _ rfl hk rfl rfl rfl fun a hk => ?_
  show wpList _ _ _ [] _ _
  refine wpList_nil ?_
  refine hK1 _ _ ?_
  apply wp_seq_k; intro K2 hK2
  apply wp_region_lit
  refine sal rfl hk rfl rfl (by kernel_rfl : zeroB Try.prog 188 = some (.agg #[.pointer none, .slice none 0 0])) fun a hk => ?_
  show wpList _ _ _ [] _ _
  refine wpList_nil ?_
  refine hK2 _ _ ?_
  have hgen : ∃ w b, w = (w0.alloc (.cells (Value.cells (.agg #[.pointer none, .slice none 0 0])) 188)) ∧ b = w0.heap.size ∧ Lib.IsBuilder 188 5 w0.heap.size b (Lib.byteCells (⟨#[]⟩ : ByteArray).data.toList) w ∧ Below w0.heap.size w0 w :=
    ⟨_, _, rfl, rfl, Lib.fresh_isBuilder 188 5 w0, (Below.refl _ w0).alloc (Nat.le_refl _) _⟩
  obtain ⟨w, b, ew, eb, hb, hbel⟩ := hgen
  rw [← eb] at hk
  rw [← ew]
  clear ew eb
  apply wp_seq_k; intro K3 hK3
  apply wp_seq_k; intro K4 hK4
  apply wp_region_lit
  refine sm _ rfl hk rfl rfl rfl fun a hk => ?_
  refine sle rfl hk rfl rfl rfl un31 fun a hk => ?_
  refine sm _ rfl hk rfl rfl rfl fun a hk => ?_
  show wpList _ _ _ [] _ _
  refine wpList_nil ?_
  refine hK4 _ _ ?_
  obtain ⟨o, h, HL⟩ := bind_some H
  clear H
  obtain ⟨R, hR⟩ : ∃ R : Act → World → Prop, R = fun a w => ∃ u : ByteArray, o = .out u ∧ Kn [(3, .pointer (some ⟨b, 0, none⟩))] 17 a ∧ Lib.IsBuilder 188 5 w0.heap.size b (Lib.byteCells u.data.toList) w ∧ Below w0.heap.size w0 w := ⟨_, rfl⟩
  refine wp_cutq R ?_ ?_
  · refine wp_block ?_
    obtain ⟨fu, h⟩ := loopO_some h
    obtain ⟨I, hI⟩ : ∃ I : Nat → Act → World → Prop, I = fun fu a w => ∃ (u1 : Int) (u2 : ByteArray), loopN (fun s => impl_intsText.s0 l0 s.1 s.2) fu (u1, u2) = some o ∧ Kn [(3, .pointer (some ⟨b, 0, none⟩)), (6, (.slice A0_ l0.length p0_)), (7, (.int .i64 (l0.length : Int))), (8, (.int .i64 u1))] 17 a ∧ Lib.IsBuilder 188 5 w0.heap.size b (Lib.byteCells u2.data.toList) w ∧ Below w0.heap.size w0 w := ⟨_, rfl⟩
    refine wp_loop_ghost I fu ?_ ?_
    · rw [hI]
      exact ⟨0, _, h, (hk.c 3 rfl (hk.c 6 rfl (hk.c 7 rfl (hk.c 8 rfl hk.k)))), hb, hbel⟩
    · clear h hk hb hbel
      intro fu a w hI0
      rw [hI] at hI0
      obtain ⟨u1, u2, hi, hk, hb, hbel⟩ := hI0
      obtain ⟨x13, H, h14⟩ := loop_round hi
      try dsimp only at H
      unfold impl_intsText.s0 at H
      apply wp_seq_k; intro K15 hK15
      apply wp_region_lit
      refine sv (.bool (decide (u1 < (l0.length : Int)))) hk rfl rfl rfl fun a hk => ?_
      show wpList _ _ _ [] _ _
      refine wpList_nil ?_
      refine hK15 _ _ ?_
      apply wp_seq_k; intro K16 hK16
      rcases cond_some H with ⟨c17, H⟩ | ⟨c17, H⟩
      · have hk := hk.lit 9 c17 rfl
        refine cnd_true hk rfl rfl ?_
        refine wp_skip ?_
        refine hK16 _ _ ?_
        apply wp_seq_k; intro K18 hK18
        refine wp_block ?_
        apply wp_seq_k; intro K19 hK19
        apply wp_region_lit
        rcases ite_some H with ⟨c21, H⟩ | ⟨_, H⟩
        rotate_left
        · cases H
        obtain ⟨b22, q23, hAc21⟩ := (v0_).some_ u1 c21.1 c21.2
        refine si rfl hk rfl rfl rfl rfl un31 sz3 c21.1 c21.2 hAc21 fun a hk => ?_
        obtain ⟨_, rfl, e24⟩ := (v0_).at_ 0 u1 c21.1 c21.2
        refine sl (v := (.int .i64 (l0.getD u1.toNat 0))) rfl hk rfl rfl rfl ag3 ((e24 0 _ rfl).cell (has_bel w0_ hbel)) fun a hk => ?_
        refine sa _ rfl hk rfl rfl rfl fun a hk => ?_
        show wpList _ _ _ [] _ _
        refine wpList_nil ?_
        refine hK19 _ _ ?_
        apply wp_region_lit
        refine sm _ rfl hk rfl rfl rfl fun a hk => ?_
        obtain ⟨y25, h26, H⟩ := bind_some H
        refine sc rfl en178 hk rfl rfl rfl (impl_little_t _ (l0.getD u1.toNat 0) 4 y25 h26) ?_
        rintro _ w2 ⟨rfl, hG⟩ a hk
        have hb2 : Lib.IsBuilder 188 5 w0.heap.size b (Lib.byteCells u2.data.toList) w2 := by
          rcases hb with hb | hb
          · exact .inl (bld_F hb hG.below)
          · exact .inr (bld_F hb hG.below)
        have hbel2 : Below w0.heap.size w0 w2 := hbel.trans (hG.below.mono hbel.size)
        rcases ite_some H with ⟨c27, H⟩ | ⟨_, H⟩
        rotate_left
        · cases H
        refine sc rfl en177 hk rfl rfl rfl ((ws w0.heap.size b _ y25 w2 hb2 (by rw [Lib.byteCells_length, ba_len]; omega) hbel2.size).mono (R' := Ret (fun v w' => v = .tuple #[.int .i64 y25.size, .nilIface] ∧ (Lib.BuilderAt 188 5 w0.heap.size b (.pointer (some ⟨b, 0, none⟩)) (Lib.byteCells u2.data.toList ++ Lib.strCells y25) w' ∧ Below w0.heap.size w2 w'))) (fun e w' h => ⟨_, h.1, rfl, h.2⟩)) ?_
        rintro _ w3 ⟨rfl, hb3, hbel3⟩ a hk
        show wpList _ _ _ [] _ _
        refine wpList_nil ?_
        refine hK18 _ _ ?_
        apply wp_region_lit
        refine sv (.int .i64 (w64 (u1 + 1))) hk rfl rfl rfl fun a hk => ?_
        refine sm _ rfl hk rfl rfl rfl fun a hk => ?_
        show wpList _ _ _ [] _ _
        refine wpList_nil ?_
        obtain rfl := Option.some.inj H
        obtain ⟨m, hmm, h14⟩ := h14
        show ∃ n', n' < _ ∧ I n' _ _
        refine ⟨m, hmm, ?_⟩
        rw [hI]
        exact ⟨_, _, h14, (hk.c 3 rfl (hk.c 6 rfl (hk.c 7 rfl (hk.c 8 rfl hk.k)))), .inr (by rw [bc_app]; exact hb3), hbel2.trans hbel3⟩
      · have hk := hk.lit 9 c17 rfl
        refine cnd_false hk rfl rfl ?_
        refine wp_exit ?_
        obtain rfl := Option.some.inj H
        show R _ _
        rw [hR]
        exact ⟨_, h14.symm, (hk.c 3 rfl hk.k), hb, hbel⟩
  · intro a w hR0
    rw [hR] at hR0
    obtain ⟨u, rfl, hk, hb, hbel⟩ := hR0
    have H := HL
    try dsimp only at H
    obtain rfl := Option.some.inj H
    refine hK3 _ _ ?_
    apply wp_seq_k; intro K5 hK5
    apply wp_region_lit
    refine sc rfl en179 hk rfl rfl rfl ((Builder_String_any w0.heap.size b _ w hb hbel.size).mono (R' := Ret (fun v w' => v = .string u ∧ Below w0.heap.size w w')) (fun e w' h => ⟨_, h.1, rfl, h.2⟩)) ?_
    rintro _ w4 ⟨rfl, hbel4⟩ a hk
    refine sa _ rfl hk rfl rfl rfl fun a hk => ?_
    show wpList _ _ _ [] _ _
    refine wpList_nil ?_
    refine hK5 _ _ ?_
    refine wp_ret ?_
    exact fin hk _ [(.string u)] rfl ⟨rfl, trivial⟩ ⟨rfl, Sat.ofBelow (hbel.trans hbel4)⟩

noncomputable def impl_textOf.f (l0 : List Int) (x1 : Int) : Option (ByteArray) :=
  (if 0 ≤ (w64 (x1 - (l0.length : Int))) ∧ l0.length + (w64 (x1 - (l0.length : Int))).toNat ≤ 1073741824 then ((impl_intsText.f (l0 ++ List.replicate (w64 (x1 - (l0.length : Int))).toNat 0)).bind fun y8 => (some y8)) else none)
set_option maxRecDepth 100000 in
set_option maxHeartbeats 0 in
theorem impl_textOf_t (w0 : World) (A0_ : Option Addr) (p0_ : Nat) (l0 : List Int) (k0_ : Chunk) (v0_ : Own (Lay.int .i64) 3 A0_ p0_ l0 k0_) (x1 : Int) (hs0 : Sat (blks [(1, k0_)]) w0 w0 [] [(1, k0_)]) (r : ByteArray) (H : impl_textOf.f l0 x1 = some r) :
    Calls Try.prog 108 #[.slice A0_ l0.length p0_, .int .i64 x1] w0 (Ret (fun v w => v = .string r ∧ Sat (blks [(1, k0_)]) w0 w [] [])) := by
  have hs := hs0
  unfold impl_textOf.f at H
  refine enter Try.func108 rfl Try.ntmps108 rfl fun a hk => ?_
  apply wp_seq_k; intro K1 hK1
  apply wp_region_lit
  refine sa _ rfl hk rfl rfl rfl fun a hk => ?_
  show wpList _ _ _ [] _ _
  refine wpList_nil ?_
  refine hK1 _ _ ?_
  apply wp_seq_k; intro K2 hK2
  apply wp_region_lit
  refine sm _ rfl hk rfl rfl rfl fun a hk => ?_
  refine sm _ rfl hk rfl rfl rfl fun a hk => ?_
  refine sm _ rfl hk rfl rfl rfl fun a hk => ?_
  refine sle rfl hk rfl rfl rfl un31 fun a hk => ?_
  refine sv (.int .i64 (w64 (x1 - (l0.length : Int)))) hk rfl rfl rfl fun a hk => ?_
  rcases ite_some H with ⟨c3, H⟩ | ⟨_, H⟩
  rotate_left
  · cases H
  refine sapn 1 (xs := l0) (z := 0) hs rfl v0_ (by first | exact ⟨rfl, rfl⟩ | exact lz3) rfl hk rfl rfl rfl rfl rfl un31 un3 mk3 rfl rfl rfl c3 fun A4 p5 k6 w a hk o7 hs => ?_
  obtain ⟨y8, h9, H⟩ := bind_some H
  refine sc rfl en151 hk rfl rfl rfl (impl_intsText_t _ A4 p5 (l0 ++ List.replicate (w64 (x1 - (l0.length : Int))).toNat 0) _ o7.view (hs.hasG (k := 1) rfl) _ h9) ?_
  rintro _ w ⟨rfl, hG⟩ a hk
  have hs := hs.call0 hG
  refine sa _ rfl hk rfl rfl rfl fun a hk => ?_
  show wpList _ _ _ [] _ _
  refine wpList_nil ?_
  refine hK2 _ _ ?_
  refine wp_ret ?_
  obtain rfl := Option.some.inj H
  exact fin hk _ [(.string y8)] rfl ⟨rfl, trivial⟩ ⟨rfl, (hs.pick [] rfl).dnil⟩

noncomputable def slices_Clone_int_int.f (l0 : List Int) : Option (List Int) :=
  (if l0.length ≤ 1073741824 then (some l0) else none)
set_option maxRecDepth 100000 in
set_option maxHeartbeats 0 in
theorem slices_Clone_int_int_t (w0 : World) (A0_ : Option Addr) (p0_ : Nat) (l0 : List Int) (k0_ : Chunk) (v0_ : View (Lay.int .i64) A0_ p0_ l0 k0_) (w0_ : Has w0 k0_) (r : List Int) (H : slices_Clone_int_int.f l0 = some r) :
    Calls Try.prog 118 #[.slice A0_ l0.length p0_] w0 (Ret (fun v w => ∃ (A0 : Option Addr) (p0 : Nat) (k0 : Chunk), v = .slice A0 r.length p0 ∧ Own (Lay.int .i64) 3 A0 p0 r k0 ∧ Sat [] w0 w [] [(0, k0)])) := by
  have hs : Sat [] w0 w0 [(1, k0_)] [] := Sat.init w0 [(1, k0_)] [] (by simp only [List.mem_cons, List.not_mem_nil, or_false]; rintro x (rfl) <;> assumption) (by simp) List.nodup_nil (by simp [blks])
  unfold slices_Clone_int_int.f at H
  rcases ite_some H with ⟨c, H⟩ | ⟨_, H⟩
  rotate_left
  · cases H
  obtain rfl := Option.some.inj H
  refine enter Try.func118 rfl Try.ntmps118 rfl fun a hk => ?_
  apply wp_seq_k; intro K1 hK1
  apply wp_region_lit
  refine sa _ rfl hk rfl rfl rfl fun a hk => ?_
  refine wpList_nil ?_
  refine hK1 _ _ ?_
  apply wp_seq_k; intro K3 hK3
  apply wp_seq_k; intro K2 hK2
  apply wp_region_lit
  refine sm _ rfl hk rfl rfl rfl fun a hk => ?_
  refine snl rfl hk rfl rfl rfl un31 fun a hk => ?_
  refine wpList_nil ?_
  refine hK2 _ _ ?_
  cases A0_ with
  | none =>
    obtain rfl := v0_.none_nil
    refine cnd_true hk rfl rfl ?_
    apply wp_seq_k; intro K4 hK4
    apply wp_region_lit
    refine sa _ rfl hk rfl rfl rfl fun a hk => ?_
    refine wpList_nil ?_
    refine hK4 _ _ ?_
    refine wp_ret ?_
    have hs := hs.addNil 9
    exact fin hk _ [(.slice none 0 0)] rfl ⟨rfl, trivial⟩ ⟨none, 0, [], rfl, Own.nil _ _, (hs.pick [(0, 9)] rfl).dnil⟩
  | some A0_ =>
    refine cnd_false hk rfl rfl ?_
    refine wp_skip ?_
    refine hK3 _ _ ?_
    apply wp_seq_k; intro K5 hK5
    apply wp_region_lit
    refine sbs0 2 (Lay.int .i64) hs rfl hk rfl rfl un31 sz3 fun b k w a hk o hs => ?_
    refine sm _ rfl hk rfl rfl rfl fun a hk => ?_
    refine sap 2 (xs := ([] : List Int)) (ys := l0) (flat_flat : ((Lay.int .i64)).Flat) hs rfl o v0_ (hs.hasD (k := 1) rfl) rfl hk rfl rfl rfl rfl rfl rfl un31 mk3 rfl rfl rfl (by simpa using c) fun A p k w a hk o hs => ?_
    refine sa _ rfl hk rfl rfl rfl fun a hk => ?_
    refine wpList_nil ?_
    refine hK5 _ _ ?_
    refine wp_ret ?_
    exact fin hk _ [(.slice A ([] ++ l0).length p)] rfl ⟨rfl, trivial⟩ ⟨A, p, _, rfl, o, (hs.pick [(0, 2)] rfl).dnil⟩

noncomputable def impl_entryText.s1 (l0 : List S_Txn) (u25 : Int) (u74 : List Int) (u73 : Int) : Option (((List Int) × Int) ⊕ Ex ((List Int)) (ByteArray)) :=
  (bif (decide (u73 < (((l0.getD u25.toNat z_Txn).Ops).length : Int))) then (if 0 ≤ u73 ∧ u73 < (((l0.getD u25.toNat z_Txn).Ops).length : Int) then (if u74.length + ([(((l0.getD u25.toNat z_Txn).Ops).getD u73.toNat z_Op).Kind, (((l0.getD u25.toNat z_Txn).Ops).getD u73.toNat z_Op).Key, (((l0.getD u25.toNat z_Txn).Ops).getD u73.toNat z_Op).Value]).length ≤ 1073741824 then (some (.inl ((u74 ++ ([(((l0.getD u25.toNat z_Txn).Ops).getD u73.toNat z_Op).Kind, (((l0.getD u25.toNat z_Txn).Ops).getD u73.toNat z_Op).Key, (((l0.getD u25.toNat z_Txn).Ops).getD u73.toNat z_Op).Value])), (w64 (u73 + 1))))) else none) else none) else (some (.inr (.out u74))))
noncomputable def impl_entryText.s0 (l0 : List S_Txn) (u26 : List Int) (u25 : Int) : Option (((List Int) × Int) ⊕ Ex ((List Int)) (ByteArray)) :=
  (bif (decide (u25 < (l0.length : Int))) then (if 0 ≤ u25 ∧ u25 < (l0.length : Int) then (if u26.length + ([(((l0.getD u25.toNat z_Txn).Ops).length : Int)]).length ≤ 1073741824 then ((loopO (fun s => impl_entryText.s1 l0 u25 s.1 s.2) ((u26 ++ ([(((l0.getD u25.toNat z_Txn).Ops).length : Int)])), 0)).bind fun o => match o with | .out u79 => (some (.inl (u79, (w64 (u25 + 1))))) | .ret r => (some (.inr (.ret r)))) else none) else none) else (some (.inr (.out u26))))
noncomputable def impl_entryText.f (l0 : List S_Txn) (l1 : List Int) : Option (ByteArray) :=
  ((slices_Clone_int_int.f l1).bind fun y3 => (if y3.length + ([(l0.length : Int)]).length ≤ 1073741824 then ((loopO (fun s => impl_entryText.s0 l0 s.1 s.2) ((y3 ++ ([(l0.length : Int)])), 0)).bind fun o => match o with | .out u31 => ((impl_textOf.f u31 68).bind fun y113 => (some y113)) | .ret r => (some r)) else none))
set_option maxRecDepth 100000 in
set_option maxHeartbeats 0 in
theorem impl_entryText_t (w0 : World) (A0_ : Option Addr) (p0_ : Nat) (l0 : List S_Txn) (k0_ : Chunk) (v0_ : View L_impl_Txn A0_ p0_ l0 k0_) (w0_ : Has w0 k0_) (A1_ : Option Addr) (p1_ : Nat) (l1 : List Int) (k1_ : Chunk) (v1_ : View (Lay.int .i64) A1_ p1_ l1 k1_) (w1_ : Has w0 k1_) (r : ByteArray) (H : impl_entryText.f l0 l1 = some r) :
    Calls Try.prog 67 #[.slice A0_ l0.length p0_, .slice A1_ l1.length p1_] w0 (Ret (fun v w => v = .string r ∧ Sat [] w0 w [] [])) := by
  have hs : Sat [] w0 w0 [(1, k0_), (2, k1_)] [] := Sat.init w0 [(1, k0_), (2, k1_)] [] (by simp only [List.mem_cons, List.not_mem_nil, or_false]; rintro x (rfl | rfl) <;> assumption) (by simp) List.nodup_nil (by simp [blks])
  unfold impl_entryText.f at H
  refine enter Try.func67 rfl Try.ntmps67 rfl fun a hk => ?_
  apply wp_seq_k; intro K1 hK1
  apply wp_region_lit
  refine sa _ rfl hk rfl rfl rfl fun a hk => ?_
  show wpList _ _ _ [] _ _
  refine wpList_nil ?_
  refine hK1 _ _ ?_
  apply wp_seq_k; intro K2 hK2
  apply wp_region_lit
  refine sm _ rfl hk rfl rfl rfl fun a hk => ?_
  obtain ⟨y3, h4, H⟩ := bind_some H
  refine sc rfl en118 hk rfl rfl rfl (slices_Clone_int_int_t _ A1_ p1_ l1 _ v1_ (hs.hasD (k := 2) rfl) _ h4) ?_
  rintro _ w ⟨A5, p6, k7, rfl, o8, hG⟩ a hk
  have hs := hs.call0k hG [3] rfl
  refine sm _ rfl hk rfl rfl rfl fun a hk => ?_
  refine sle rfl hk rfl rfl rfl un34 fun a hk => ?_
  refine sbs (L := (Lay.int .i64)) (pv := [(0, (.int .i64 (l0.length : Int)))]) (xs := [(l0.length : Int)]) (ess := [[.int .i64 (l0.length : Int)]]) 4 hs rfl hk rfl rfl rfl un31 (bs3_1 (l0.length : Int)) (AllOwn.cons0 ⟨rfl, rfl⟩ AllOwn.nil) rfl rfl rfl fun b9 k10 w a hk o11 hs => ?_
  rcases ite_some H with ⟨c12, H⟩ | ⟨_, H⟩
  rotate_left
  · cases H
  refine sap 3 (xs := y3) (ys := [(l0.length : Int)]) (flat_flat : ((Lay.int .i64)).Flat) hs rfl o8 o11.view (hs.hasG (k := 4) rfl) rfl hk rfl rfl rfl rfl rfl rfl un31 mk3 rfl rfl rfl c12 fun A13 p14 k15 w a hk o16 hs => ?_
  refine sa _ rfl hk rfl rfl rfl fun a hk => ?_
  show wpList _ _ _ [] _ _
  refine wpList_nil ?_
  refine hK2 _ _ ?_
  apply wp_seq_k; intro K17 hK17
  apply wp_seq_k; intro K18 hK18
  apply wp_region_lit
  refine sm _ rfl hk rfl rfl rfl fun a hk => ?_
  refine sle rfl hk rfl rfl rfl un34 fun a hk => ?_
  refine sm _ rfl hk rfl rfl rfl fun a hk => ?_
  show wpList _ _ _ [] _ _
  refine wpList_nil ?_
  refine hK18 _ _ ?_
  obtain ⟨o36, h37, HL38⟩ := bind_some H
  clear H
  obtain ⟨R39, hR39⟩ : ∃ R : Act → World → Prop, R = fun a w => ∃ (u31 : List Int) (A34 : Option Addr) (p35 : Nat) (k32 : Chunk), o36 = .out u31 ∧ Kn [(5, (.slice A34 u31.length p35))] 48 a ∧ Sat [] w0 w [(1, k0_), (2, k1_)] [(3, k32)] ∧ Own (Lay.int .i64) 3 A34 p35 u31 k32 := ⟨_, rfl⟩
  refine wp_cutq R39 ?_ ?_
  · refine wp_block ?_
    obtain ⟨fu41, h37⟩ := loopO_some h37
    obtain ⟨I40, hI40⟩ : ∃ I : Nat → Act → World → Prop, I = fun fu a w => ∃ (u26 : List Int) (u25 : Int) (A29 : Option Addr) (p30 : Nat) (k27 : Chunk), loopN (fun s => impl_entryText.s0 l0 s.1 s.2) fu (u26, u25) = some o36 ∧ Kn [(5, (.slice A29 u26.length p30)), (16, (.slice A0_ l0.length p0_)), (17, (.int .i64 (l0.length : Int))), (18, (.int .i64 u25))] 48 a ∧ Sat [] w0 w [(1, k0_), (2, k1_)] [(3, k27)] ∧ Own (Lay.int .i64) 3 A29 p30 u26 k27 := ⟨_, rfl⟩
    refine wp_loop_ghost I40 fu41 ?_ ?_
    · rw [hI40]
      exact ⟨(y3 ++ ([(l0.length : Int)])), 0, A13, p14, _, h37, (hk.c 5 rfl (hk.c 16 rfl (hk.c 17 rfl (hk.c 18 rfl hk.k)))), (hs.pick [(3, 3)] rfl), o16⟩
    · clear h37 hk hs
      intro fu41 a w hI0
      rw [hI40] at hI0
      obtain ⟨u26, u25, A29, p30, k27, hi, hk, hs, o28⟩ := hI0
      obtain ⟨x42, H, h43⟩ := loop_round hi
      try dsimp only at H
      unfold impl_entryText.s0 at H
      apply wp_seq_k; intro K44 hK44
      apply wp_region_lit
      refine sv (.bool (decide (u25 < (l0.length : Int)))) hk rfl rfl rfl fun a hk => ?_
      show wpList _ _ _ [] _ _
      refine wpList_nil ?_
      refine hK44 _ _ ?_
      apply wp_seq_k; intro K45 hK45
      rcases cond_some H with ⟨c46, H⟩ | ⟨c46, H⟩
      · have hk := hk.lit 19 c46 rfl
        refine cnd_true hk rfl rfl ?_
        refine wp_skip ?_
        refine hK45 _ _ ?_
        apply wp_seq_k; intro K47 hK47
        refine wp_block ?_
        apply wp_seq_k; intro K48 hK48
        apply wp_region_lit
        rcases ite_some H with ⟨c49, H⟩ | ⟨_, H⟩
        rotate_left
        · cases H
        obtain ⟨b50, q51, hAc49⟩ := (v0_).some_ u25 c49.1 c49.2
        refine si rfl hk rfl rfl rfl rfl un34 sz95 c49.1 c49.2 hAc49 fun a hk => ?_
        obtain ⟨_, ⟨_, rfl, A53, p54, rfl, v55⟩, e52⟩ := (v0_).at_ z_Txn u25 c49.1 c49.2
        refine sln [.slice A53 ((l0.getD u25.toNat z_Txn).Ops).length p54] rfl hk rfl rfl rfl ag95 sz95 (cells_at e52 (hs.hasD (k := 1) rfl)) fun a hk => ?_
        refine salx 6 hs rfl hk rfl rfl ze95 rfl fun b56 w a hk hs => ?_
        refine ssw 6 hs rfl rfl hk rfl rfl rfl rfl sz95 (by simp [Value.oneCell']) rfl fun w a hk hs => ?_
        show wpList _ _ _ [] _ _
        refine wpList_nil ?_
        refine hK48 _ _ ?_
        apply wp_seq_k; intro K57 hK57
        apply wp_region_lit
        refine sm _ rfl hk rfl rfl rfl fun a hk => ?_
        refine sf ⟨b56, 0, none⟩ rfl hk rfl rfl rfl fd95_0 rfl fun a hk => ?_
        refine sl rfl hk rfl rfl rfl ag93 (box_cell hs (k := 6) rfl rfl) fun a hk => ?_
        refine sle rfl hk rfl rfl rfl un93 fun a hk => ?_
        refine sbs (L := (Lay.int .i64)) (pv := [(0, (.int .i64 (((l0.getD u25.toNat z_Txn).Ops).length : Int)))]) (xs := [(((l0.getD u25.toNat z_Txn).Ops).length : Int)]) (ess := [[.int .i64 (((l0.getD u25.toNat z_Txn).Ops).length : Int)]]) 7 hs rfl hk rfl rfl rfl un31 (bs3_1 (((l0.getD u25.toNat z_Txn).Ops).length : Int)) (AllOwn.cons0 ⟨rfl, rfl⟩ AllOwn.nil) rfl rfl rfl fun b58 k59 w a hk o60 hs => ?_
        rcases ite_some H with ⟨c61, H⟩ | ⟨_, H⟩
        rotate_left
        · cases H
        refine sap 3 (xs := u26) (ys := [(((l0.getD u25.toNat z_Txn).Ops).length : Int)]) (flat_flat : ((Lay.int .i64)).Flat) hs rfl o28 o60.view (hs.hasG (k := 7) rfl) rfl hk rfl rfl rfl rfl rfl rfl un31 mk3 rfl rfl rfl c61 fun A62 p63 k64 w a hk o65 hs => ?_
        refine sa _ rfl hk rfl rfl rfl fun a hk => ?_
        show wpList _ _ _ [] _ _
        refine wpList_nil ?_
        refine hK57 _ _ ?_
        apply wp_seq_k; intro K66 hK66
        apply wp_region_lit
        refine sf ⟨b56, 0, none⟩ rfl hk rfl rfl rfl fd95_0 rfl fun a hk => ?_
        refine sl rfl hk rfl rfl rfl ag93 (box_cell hs (k := 6) rfl rfl) fun a hk => ?_
        refine sle rfl hk rfl rfl rfl un93 fun a hk => ?_
        refine sm _ rfl hk rfl rfl rfl fun a hk => ?_
        show wpList _ _ _ [] _ _
        refine wpList_nil ?_
        refine hK66 _ _ ?_
        obtain ⟨o84, h85, HL86⟩ := bind_some H
        clear H
        obtain ⟨R87, hR87⟩ : ∃ R : Act → World → Prop, R = fun a w => ∃ (u79 : List Int) (A82 : Option Addr) (p83 : Nat) (k80 : Chunk), o84 = .out u79 ∧ Kn [(5, (.slice A82 u79.length p83)), (16, (.slice A0_ l0.length p0_)), (17, (.int .i64 (l0.length : Int))), (18, (.int .i64 u25))] 48 a ∧ Sat [] w0 w [(1, k0_), (2, k1_)] [(3, k80)] ∧ Own (Lay.int .i64) 3 A82 p83 u79 k80 := ⟨_, rfl⟩
        refine wp_cutq R87 ?_ ?_
        · refine wp_block ?_
          obtain ⟨fu89, h85⟩ := loopO_some h85
          obtain ⟨I88, hI88⟩ : ∃ I : Nat → Act → World → Prop, I = fun fu a w => ∃ (u74 : List Int) (u73 : Int) (A77 : Option Addr) (p78 : Nat) (k75 : Chunk), loopN (fun s => impl_entryText.s1 l0 u25 s.1 s.2) fu (u74, u73) = some o84 ∧ Kn [(5, (.slice A77 u74.length p78)), (16, (.slice A0_ l0.length p0_)), (17, (.int .i64 (l0.length : Int))), (18, (.int .i64 u25)), (29, (.slice A53 ((l0.getD u25.toNat z_Txn).Ops).length p54)), (30, (.int .i64 (((l0.getD u25.toNat z_Txn).Ops).length : Int))), (31, (.int .i64 u73))] 48 a ∧ Sat [] w0 w [(1, k0_), (2, k1_)] [(3, k75)] ∧ Own (Lay.int .i64) 3 A77 p78 u74 k75 := ⟨_, rfl⟩
          refine wp_loop_ghost I88 fu89 ?_ ?_
          · rw [hI88]
            exact ⟨(u26 ++ ([(((l0.getD u25.toNat z_Txn).Ops).length : Int)])), 0, A62, p63, _, h85, (hk.c 5 rfl (hk.c 16 rfl (hk.c 17 rfl (hk.c 18 rfl (hk.c 29 rfl (hk.c 30 rfl (hk.c 31 rfl hk.k))))))), (hs.pick [(3, 3)] rfl), o65⟩
          · clear h85 hk hs
            intro fu89 a w hI0
            rw [hI88] at hI0
            obtain ⟨u74, u73, A77, p78, k75, hi, hk, hs, o76⟩ := hI0
            obtain ⟨x90, H, h91⟩ := loop_round hi
            try dsimp only at H
            unfold impl_entryText.s1 at H
            apply wp_seq_k; intro K92 hK92
            apply wp_region_lit
            refine sv (.bool (decide (u73 < (((l0.getD u25.toNat z_Txn).Ops).length : Int)))) hk rfl rfl rfl fun a hk => ?_
            show wpList _ _ _ [] _ _
            refine wpList_nil ?_
            refine hK92 _ _ ?_
            apply wp_seq_k; intro K93 hK93
            rcases cond_some H with ⟨c94, H⟩ | ⟨c94, H⟩
            · have hk := hk.lit 32 c94 rfl
              refine cnd_true hk rfl rfl ?_
              refine wp_skip ?_
              refine hK93 _ _ ?_
              apply wp_seq_k; intro K95 hK95
              refine wp_block ?_
              apply wp_seq_k; intro K96 hK96
              apply wp_region_lit
              rcases ite_some H with ⟨c97, H⟩ | ⟨_, H⟩
              rotate_left
              · cases H
              obtain ⟨b98, q99, hAc97⟩ := (v55).some_ u73 c97.1 c97.2
              refine si rfl hk rfl rfl rfl rfl un93 sz135 c97.1 c97.2 hAc97 fun a hk => ?_
              obtain ⟨_, rfl, e100⟩ := (v55).at_ z_Op u73 c97.1 c97.2
              refine sln [.int .i64 ((((l0.getD u25.toNat z_Txn).Ops).getD u73.toNat z_Op).Kind), .int .i64 ((((l0.getD u25.toNat z_Txn).Ops).getD u73.toNat z_Op).Key), .int .i64 ((((l0.getD u25.toNat z_Txn).Ops).getD u73.toNat z_Op).Value)] rfl hk rfl rfl rfl ag135 sz135 (cells_at e100 (hs.hasD (k := 1) rfl)) fun a hk => ?_
              refine salx 9 hs rfl hk rfl rfl ze135 rfl fun b101 w a hk hs => ?_
              refine ssw 9 hs rfl rfl hk rfl rfl rfl rfl sz135 (by simp [Value.oneCell']) rfl fun w a hk hs => ?_
              show wpList _ _ _ [] _ _
              refine wpList_nil ?_
              refine hK96 _ _ ?_
              apply wp_region_lit
              refine sm _ rfl hk rfl rfl rfl fun a hk => ?_
              refine sf ⟨b101, 0, none⟩ rfl hk rfl rfl rfl fd135_0 rfl fun a hk => ?_
              refine sl rfl hk rfl rfl rfl ag3 (box_cell hs (k := 9) rfl rfl) fun a hk => ?_
              refine sf ⟨b101, 1, none⟩ rfl hk rfl rfl rfl fd135_1 rfl fun a hk => ?_
              refine sl rfl hk rfl rfl rfl ag3 (box_cell hs (k := 9) rfl rfl) fun a hk => ?_
              refine sf ⟨b101, 2, none⟩ rfl hk rfl rfl rfl fd135_2 rfl fun a hk => ?_
              refine sl rfl hk rfl rfl rfl ag3 (box_cell hs (k := 9) rfl rfl) fun a hk => ?_
              refine sbs (L := (Lay.int .i64)) (pv := [(0, (.int .i64 ((((l0.getD u25.toNat z_Txn).Ops).getD u73.toNat z_Op).Kind))), (1, (.int .i64 ((((l0.getD u25.toNat z_Txn).Ops).getD u73.toNat z_Op).Key))), (2, (.int .i64 ((((l0.getD u25.toNat z_Txn).Ops).getD u73.toNat z_Op).Value)))]) (xs := [(((l0.getD u25.toNat z_Txn).Ops).getD u73.toNat z_Op).Kind, (((l0.getD u25.toNat z_Txn).Ops).getD u73.toNat z_Op).Key, (((l0.getD u25.toNat z_Txn).Ops).getD u73.toNat z_Op).Value]) (ess := [[.int .i64 ((((l0.getD u25.toNat z_Txn).Ops).getD u73.toNat z_Op).Kind)], [.int .i64 ((((l0.getD u25.toNat z_Txn).Ops).getD u73.toNat z_Op).Key)], [.int .i64 ((((l0.getD u25.toNat z_Txn).Ops).getD u73.toNat z_Op).Value)]]) 10 hs rfl hk rfl rfl rfl un31 (bs3_2 ((((l0.getD u25.toNat z_Txn).Ops).getD u73.toNat z_Op).Kind) ((((l0.getD u25.toNat z_Txn).Ops).getD u73.toNat z_Op).Key) ((((l0.getD u25.toNat z_Txn).Ops).getD u73.toNat z_Op).Value)) (AllOwn.cons0 ⟨rfl, rfl⟩ (AllOwn.cons0 ⟨rfl, rfl⟩ (AllOwn.cons0 ⟨rfl, rfl⟩ AllOwn.nil))) rfl rfl rfl fun b102 k103 w a hk o104 hs => ?_
              rcases ite_some H with ⟨c105, H⟩ | ⟨_, H⟩
              rotate_left
              · cases H
              refine sap 3 (xs := u74) (ys := [(((l0.getD u25.toNat z_Txn).Ops).getD u73.toNat z_Op).Kind, (((l0.getD u25.toNat z_Txn).Ops).getD u73.toNat z_Op).Key, (((l0.getD u25.toNat z_Txn).Ops).getD u73.toNat z_Op).Value]) (flat_flat : ((Lay.int .i64)).Flat) hs rfl o76 o104.view (hs.hasG (k := 10) rfl) rfl hk rfl rfl rfl rfl rfl rfl un31 mk3 rfl rfl rfl c105 fun A106 p107 k108 w a hk o109 hs => ?_
              refine sa _ rfl hk rfl rfl rfl fun a hk => ?_
              show wpList _ _ _ [] _ _
              refine wpList_nil ?_
              refine hK95 _ _ ?_
              apply wp_region_lit
              refine sv (.int .i64 (w64 (u73 + 1))) hk rfl rfl rfl fun a hk => ?_
              refine sm _ rfl hk rfl rfl rfl fun a hk => ?_
              show wpList _ _ _ [] _ _
              refine wpList_nil ?_
              obtain rfl := Option.some.inj H
              obtain ⟨m110, hmm110, h91⟩ := h91
              show ∃ n', n' < _ ∧ I88 n' _ _
              refine ⟨m110, hmm110, ?_⟩
              rw [hI88]
              exact ⟨(u74 ++ ([(((l0.getD u25.toNat z_Txn).Ops).getD u73.toNat z_Op).Kind, (((l0.getD u25.toNat z_Txn).Ops).getD u73.toNat z_Op).Key, (((l0.getD u25.toNat z_Txn).Ops).getD u73.toNat z_Op).Value])), (w64 (u73 + 1)), A106, p107, _, h91, (hk.c 5 rfl (hk.c 16 rfl (hk.c 17 rfl (hk.c 18 rfl (hk.c 29 rfl (hk.c 30 rfl (hk.c 31 rfl hk.k))))))), (hs.pick [(3, 3)] rfl), o109⟩
            · have hk := hk.lit 32 c94 rfl
              refine cnd_false hk rfl rfl ?_
              refine wp_exit ?_
              obtain rfl := Option.some.inj H
              show R87 _ _
              rw [hR87]
              exact ⟨u74, A77, p78, _, h91.symm, (hk.c 5 rfl (hk.c 16 rfl (hk.c 17 rfl (hk.c 18 rfl hk.k)))), (hs.pick [(3, 3)] rfl), o76⟩
        · intro a w hR0
          rw [hR87] at hR0
          obtain ⟨u79, A82, p83, k80, rfl, hk, hs, o81⟩ := hR0
          have H := HL86
          try dsimp only at H
          refine hK47 _ _ ?_
          apply wp_region_lit
          refine sv (.int .i64 (w64 (u25 + 1))) hk rfl rfl rfl fun a hk => ?_
          refine sm _ rfl hk rfl rfl rfl fun a hk => ?_
          show wpList _ _ _ [] _ _
          refine wpList_nil ?_
          obtain rfl := Option.some.inj H
          obtain ⟨m111, hmm111, h43⟩ := h43
          show ∃ n', n' < _ ∧ I40 n' _ _
          refine ⟨m111, hmm111, ?_⟩
          rw [hI40]
          exact ⟨u79, (w64 (u25 + 1)), A82, p83, _, h43, (hk.c 5 rfl (hk.c 16 rfl (hk.c 17 rfl (hk.c 18 rfl hk.k)))), (hs.pick [(3, 3)] rfl), o81⟩
      · have hk := hk.lit 19 c46 rfl
        refine cnd_false hk rfl rfl ?_
        refine wp_exit ?_
        obtain rfl := Option.some.inj H
        show R39 _ _
        rw [hR39]
        exact ⟨u26, A29, p30, _, h43.symm, (hk.c 5 rfl hk.k), (hs.pick [(3, 3)] rfl), o28⟩
  · intro a w hR0
    rw [hR39] at hR0
    obtain ⟨u31, A34, p35, k32, rfl, hk, hs, o33⟩ := hR0
    have H := HL38
    try dsimp only at H
    refine hK17 _ _ ?_
    apply wp_seq_k; intro K112 hK112
    apply wp_region_lit
    refine sm _ rfl hk rfl rfl rfl fun a hk => ?_
    obtain ⟨y113, h114, H⟩ := bind_some H
    refine sc rfl en108 hk rfl rfl rfl (impl_textOf_t _ A34 p35 u31 _ o33 68 ((hs.hand [(1, 3)] rfl).dpick [] rfl) _ h114) ?_
    rintro _ w ⟨rfl, hG⟩ a hk
    have hs := hs.back [(1, 3)] rfl hG [] rfl
    refine sa _ rfl hk rfl rfl rfl fun a hk => ?_
    show wpList _ _ _ [] _ _
    refine wpList_nil ?_
    refine hK112 _ _ ?_
    refine wp_ret ?_
    obtain rfl := Option.some.inj H
    exact fin hk _ [(.string y113)] rfl ⟨rfl, trivial⟩ ⟨rfl, (hs.pick [] rfl).dnil⟩

end Go.Proofs.Ytmgfkpfacdlfbaa
