/- The functions that FnExactActOK reaches: for each a model and the walk that shows that the Go code comes to it. -/
import Derived.Test.YtmafglodgnbajaaGXStoreOK
namespace Go.Proofs.Ytmafglodgnbajaa
open Go Go.Z Go.Proofs Go.MuLone Go.ChangeShapes Go.WideShapes Go.ChangeAt Go.RowKit
set_option linter.unusedVariables false
set_option linter.unusedSimpArgs false
noncomputable def laws_szOpS.f (l0 : List S_Op) (x1 : Int) : Option (Int) :=
  (bif (decide ((w64 (x1 - (l0.length : Int))) < 0)) then (some (-1)) else (some (w64 (x1 - (l0.length : Int)))))
set_option maxRecDepth 100000 in
set_option maxHeartbeats 0 in
theorem laws_szOpS_t (w0 : World) (A0_ : Option Addr) (p0_ : Nat) (l0 : List S_Op) (k0_ : Chunk) (v0_ : View L_Op A0_ p0_ l0 k0_) (w0_ : Has w0 k0_) (x1 : Int) (r : Int) (H : laws_szOpS.f l0 x1 = some r) :
    Calls Try.prog 103 #[.slice A0_ l0.length p0_, .int .i64 x1] w0 (Ret (fun v w => v = .int .i64 r ∧ Sat [] w0 w [] [])) := by
  have hs : Sat [] w0 w0 [(1, k0_)] [] := Sat.init w0 [(1, k0_)] [] (by simp only [List.mem_cons, List.not_mem_nil, or_false]; rintro x (rfl) <;> assumption) (by simp) List.nodup_nil (by simp [blks])
  unfold laws_szOpS.f at H
  refine enter Try.func103 rfl Try.ntmps103 rfl fun a hk => ?_
  apply wp_seq_k; intro K1 hK1
  apply wp_region_lit
  refine sa _ rfl hk rfl rfl rfl fun a hk => ?_
  show wpList _ _ _ [] _ _
  refine wpList_nil ?_
  refine hK1 _ _ ?_
  apply wp_seq_k; intro K2 hK2
  apply wp_region_lit
  refine sm _ rfl hk rfl rfl rfl fun a hk => ?_
  refine sm _ rfl hk rfl rfl rfl fun a hk => ?_
  refine sle rfl hk rfl rfl rfl un86 fun a hk => ?_
  refine sv (.int .i64 (w64 (x1 - (l0.length : Int)))) hk rfl rfl rfl fun a hk => ?_
  refine sa _ rfl hk rfl rfl rfl fun a hk => ?_
  show wpList _ _ _ [] _ _
  refine wpList_nil ?_
  refine hK2 _ _ ?_
  apply wp_seq_k; intro K3 hK3
  apply wp_seq_k; intro K4 hK4
  apply wp_region_lit
  refine sm _ rfl hk rfl rfl rfl fun a hk => ?_
  refine sv (.bool (decide ((w64 (x1 - (l0.length : Int))) < 0))) hk rfl rfl rfl fun a hk => ?_
  show wpList _ _ _ [] _ _
  refine wpList_nil ?_
  refine hK4 _ _ ?_
  rcases cond_some H with ⟨c5, H⟩ | ⟨c5, H⟩
  · have hk := hk.lit 10 c5 rfl
    refine cnd_true hk rfl rfl ?_
    apply wp_seq_k; intro K6 hK6
    apply wp_region_lit
    refine sa _ rfl hk rfl rfl rfl fun a hk => ?_
    show wpList _ _ _ [] _ _
    refine wpList_nil ?_
    refine hK6 _ _ ?_
    refine wp_ret ?_
    obtain rfl := Option.some.inj H
    exact fin hk _ [(.int .i64 (-1))] rfl ⟨rfl, trivial⟩ ⟨rfl, (hs.pick [] rfl).dnil⟩
  · have hk := hk.lit 10 c5 rfl
    refine cnd_false hk rfl rfl ?_
    refine wp_skip ?_
    refine hK3 _ _ ?_
    apply wp_seq_k; intro K7 hK7
    apply wp_region_lit
    refine sm _ rfl hk rfl rfl rfl fun a hk => ?_
    refine sa _ rfl hk rfl rfl rfl fun a hk => ?_
    show wpList _ _ _ [] _ _
    refine wpList_nil ?_
    refine hK7 _ _ ?_
    refine wp_ret ?_
    obtain rfl := Option.some.inj H
    exact fin hk _ [(.int .i64 (w64 (x1 - (l0.length : Int))))] rfl ⟨rfl, trivial⟩ ⟨rfl, (hs.pick [] rfl).dnil⟩

noncomputable def laws_szTxn.f (x0 : S_Txn) (x1 : Int) : Option (Int) :=
  ((laws_szOpS.f x0.Ops x1).bind fun y4 => (bif (decide (y4 < 0)) then (some (-1)) else (some y4)))
set_option maxRecDepth 100000 in
set_option maxHeartbeats 0 in
theorem laws_szTxn_t (w0 : World) (x0 : S_Txn) (A0_0 : Option Addr) (p0_0 : Nat) (k0_0 : Chunk) (v0_0 : View L_Op A0_0 p0_0 x0.Ops k0_0) (w0_0 : Has w0 k0_0) (x1 : Int) (r : Int) (H : laws_szTxn.f x0 x1 = some r) :
    Calls Try.prog 67 #[.agg #[.slice A0_0 x0.Ops.length p0_0], .int .i64 x1] w0 (Ret (fun v w => v = .int .i64 r ∧ Sat [] w0 w [] [])) := by
  have hs : Sat [] w0 w0 [(1, k0_0)] [] := Sat.init w0 [(1, k0_0)] [] (by simp only [List.mem_cons, List.not_mem_nil, or_false]; rintro x (rfl) <;> assumption) (by simp) List.nodup_nil (by simp [blks])
  unfold laws_szTxn.f at H
  refine enter Try.func67 rfl Try.ntmps67 rfl fun a hk => ?_
  apply wp_seq_k; intro K1 hK1
  apply wp_region_lit
  refine sbx 2 hs rfl hk rfl rfl rfl rfl fun b2 w a hk hs => ?_
  refine sa _ rfl hk rfl rfl rfl fun a hk => ?_
  show wpList _ _ _ [] _ _
  refine wpList_nil ?_
  refine hK1 _ _ ?_
  apply wp_seq_k; intro K3 hK3
  apply wp_region_lit
  refine sf ⟨b2, 0, none⟩ rfl hk rfl rfl rfl fd88_0 rfl fun a hk => ?_
  refine sl rfl hk rfl rfl rfl ag86 (box_cell hs (k := 2) rfl rfl) fun a hk => ?_
  refine sm _ rfl hk rfl rfl rfl fun a hk => ?_
  obtain ⟨y4, h5, H⟩ := bind_some H
  refine sc rfl en103 hk rfl rfl rfl (laws_szOpS_t _ A0_0 p0_0 x0.Ops _ v0_0 (hs.hasD (k := 1) rfl) x1 _ h5) ?_
  rintro _ w ⟨rfl, hG⟩ a hk
  have hs := hs.call0 hG
  refine sa _ rfl hk rfl rfl rfl fun a hk => ?_
  show wpList _ _ _ [] _ _
  refine wpList_nil ?_
  refine hK3 _ _ ?_
  apply wp_seq_k; intro K6 hK6
  apply wp_seq_k; intro K7 hK7
  apply wp_region_lit
  refine sm _ rfl hk rfl rfl rfl fun a hk => ?_
  refine sv (.bool (decide (y4 < 0))) hk rfl rfl rfl fun a hk => ?_
  show wpList _ _ _ [] _ _
  refine wpList_nil ?_
  refine hK7 _ _ ?_
  rcases cond_some H with ⟨c8, H⟩ | ⟨c8, H⟩
  · have hk := hk.lit 10 c8 rfl
    refine cnd_true hk rfl rfl ?_
    apply wp_seq_k; intro K9 hK9
    apply wp_region_lit
    refine sa _ rfl hk rfl rfl rfl fun a hk => ?_
    show wpList _ _ _ [] _ _
    refine wpList_nil ?_
    refine hK9 _ _ ?_
    refine wp_ret ?_
    obtain rfl := Option.some.inj H
    exact fin hk _ [(.int .i64 (-1))] rfl ⟨rfl, trivial⟩ ⟨rfl, (hs.pick [] rfl).dnil⟩
  · have hk := hk.lit 10 c8 rfl
    refine cnd_false hk rfl rfl ?_
    refine wp_skip ?_
    refine hK6 _ _ ?_
    apply wp_seq_k; intro K10 hK10
    apply wp_region_lit
    refine sm _ rfl hk rfl rfl rfl fun a hk => ?_
    refine sa _ rfl hk rfl rfl rfl fun a hk => ?_
    show wpList _ _ _ [] _ _
    refine wpList_nil ?_
    refine hK10 _ _ ?_
    refine wp_ret ?_
    obtain rfl := Option.some.inj H
    exact fin hk _ [(.int .i64 y4)] rfl ⟨rfl, trivial⟩ ⟨rfl, (hs.pick [] rfl).dnil⟩

noncomputable def laws_szTxnS.s0 (l0 : List S_Txn) (u9 : Int) (u10 : Int) : Option ((Int × Int) ⊕ Ex (Int) (Int)) :=
  (bif (decide (u10 < (l0.length : Int))) then (if 0 ≤ u10 ∧ u10 < (l0.length : Int) then ((laws_szTxn.f (l0.getD u10.toNat z_Txn) u9).bind fun y32 => (bif (decide (y32 < 0)) then (some (.inr (.ret (-1)))) else (some (.inl (y32, (w64 (u10 + 1))))))) else none) else (some (.inr (.out u9))))
noncomputable def laws_szTxnS.f (l0 : List S_Txn) (x1 : Int) : Option (Int) :=
  (bif (decide ((w64 (x1 - (l0.length : Int))) < 0)) then (some (-1)) else ((loopO (fun s => laws_szTxnS.s0 l0 s.1 s.2) ((w64 (x1 - (l0.length : Int))), 0)).bind fun o => match o with | .out u11 => (some u11) | .ret r => (some r)))
set_option maxRecDepth 100000 in
set_option maxHeartbeats 0 in
theorem laws_szTxnS_t (w0 : World) (A0_ : Option Addr) (p0_ : Nat) (l0 : List S_Txn) (k0_ : Chunk) (v0_ : View L_laws_Txn A0_ p0_ l0 k0_) (w0_ : Has w0 k0_) (x1 : Int) (r : Int) (H : laws_szTxnS.f l0 x1 = some r) :
    Calls Try.prog 23 #[.slice A0_ l0.length p0_, .int .i64 x1] w0 (Ret (fun v w => v = .int .i64 r ∧ Sat [] w0 w [] [])) := by
  have hs : Sat [] w0 w0 [(1, k0_)] [] := Sat.init w0 [(1, k0_)] [] (by simp only [List.mem_cons, List.not_mem_nil, or_false]; rintro x (rfl) <;> assumption) (by simp) List.nodup_nil (by simp [blks])
  unfold laws_szTxnS.f at H
  refine enter Try.func23 rfl Try.ntmps23 rfl fun a hk => ?_
  apply wp_seq_k; intro K1 hK1
  apply wp_region_lit
  refine sa _ rfl hk rfl rfl rfl fun a hk => ?_
  show wpList _ _ _ [] _ _
  refine wpList_nil ?_
  refine hK1 _ _ ?_
  apply wp_seq_k; intro K2 hK2
  apply wp_region_lit
  refine sm _ rfl hk rfl rfl rfl fun a hk => ?_
  refine sm _ rfl hk rfl rfl rfl fun a hk => ?_
  refine sle rfl hk rfl rfl rfl un42 fun a hk => ?_
  refine sv (.int .i64 (w64 (x1 - (l0.length : Int)))) hk rfl rfl rfl fun a hk => ?_
  refine sa _ rfl hk rfl rfl rfl fun a hk => ?_
  show wpList _ _ _ [] _ _
  refine wpList_nil ?_
  refine hK2 _ _ ?_
  apply wp_seq_k; intro K3 hK3
  apply wp_seq_k; intro K4 hK4
  apply wp_region_lit
  refine sm _ rfl hk rfl rfl rfl fun a hk => ?_
  refine sv (.bool (decide ((w64 (x1 - (l0.length : Int))) < 0))) hk rfl rfl rfl fun a hk => ?_
  show wpList _ _ _ [] _ _
  refine wpList_nil ?_
  refine hK4 _ _ ?_
  rcases cond_some H with ⟨c5, H⟩ | ⟨c5, H⟩
  · have hk := hk.lit 11 c5 rfl
    refine cnd_true hk rfl rfl ?_
    apply wp_seq_k; intro K6 hK6
    apply wp_region_lit
    refine sa _ rfl hk rfl rfl rfl fun a hk => ?_
    show wpList _ _ _ [] _ _
    refine wpList_nil ?_
    refine hK6 _ _ ?_
    refine wp_ret ?_
    obtain rfl := Option.some.inj H
    exact fin hk _ [(.int .i64 (-1))] rfl ⟨rfl, trivial⟩ ⟨rfl, (hs.pick [] rfl).dnil⟩
  · have hk := hk.lit 11 c5 rfl
    refine cnd_false hk rfl rfl ?_
    refine wp_skip ?_
    refine hK3 _ _ ?_
    apply wp_seq_k; intro K7 hK7
    apply wp_seq_k; intro K8 hK8
    apply wp_region_lit
    refine sa _ rfl hk rfl rfl rfl fun a hk => ?_
    show wpList _ _ _ [] _ _
    refine wpList_nil ?_
    refine hK8 _ _ ?_
    obtain ⟨o12, h13, HL14⟩ := bind_some H
    clear H
    obtain ⟨R15, hR15⟩ : ∃ R : Act → World → Prop, R = fun a w => ∃ (u11 : Int), o12 = .out u11 ∧ Kn [(1, (.int .i64 u11))] 27 a ∧ Sat [] w0 w [(1, k0_)] [] := ⟨_, rfl⟩
    refine wp_cutq R15 ?_ ?_
    · refine wp_block ?_
      obtain ⟨fu17, h13⟩ := loopO_some h13
      obtain ⟨I16, hI16⟩ : ∃ I : Nat → Act → World → Prop, I = fun fu a w => ∃ (u9 : Int) (u10 : Int), loopN (fun s => laws_szTxnS.s0 l0 s.1 s.2) fu (u9, u10) = some o12 ∧ Kn [(0, (.slice A0_ l0.length p0_)), (1, (.int .i64 u9)), (5, (.int .i64 u10))] 27 a ∧ Sat [] w0 w [(1, k0_)] [] := ⟨_, rfl⟩
      refine wp_loop_ghost I16 fu17 ?_ ?_
      · rw [hI16]
        exact ⟨(w64 (x1 - (l0.length : Int))), 0, h13, (hk.c 0 rfl (hk.c 1 rfl (hk.c 5 rfl hk.k))), (hs.pick [] rfl)⟩
      · clear h13 hk hs
        intro fu17 a w hI0
        rw [hI16] at hI0
        obtain ⟨u9, u10, hi, hk, hs⟩ := hI0
        obtain ⟨x18, H, h19⟩ := loop_round hi
        try dsimp only at H
        unfold laws_szTxnS.s0 at H
        apply wp_seq_k; intro K20 hK20
        apply wp_seq_k; intro K21 hK21
        apply wp_region_lit
        refine sm _ rfl hk rfl rfl rfl fun a hk => ?_
        refine sm _ rfl hk rfl rfl rfl fun a hk => ?_
        refine sle rfl hk rfl rfl rfl un42 fun a hk => ?_
        refine sv (.bool (decide (u10 < (l0.length : Int)))) hk rfl rfl rfl fun a hk => ?_
        show wpList _ _ _ [] _ _
        refine wpList_nil ?_
        refine hK21 _ _ ?_
        rcases cond_some H with ⟨c22, H⟩ | ⟨c22, H⟩
        · have hk := hk.lit 15 c22 rfl
          refine cnd_true hk rfl rfl ?_
          refine wp_skip ?_
          refine hK20 _ _ ?_
          apply wp_seq_k; intro K23 hK23
          refine wp_block ?_
          apply wp_seq_k; intro K24 hK24
          apply wp_region_lit
          refine sm _ rfl hk rfl rfl rfl fun a hk => ?_
          refine sm _ rfl hk rfl rfl rfl fun a hk => ?_
          rcases ite_some H with ⟨c25, H⟩ | ⟨_, H⟩
          rotate_left
          · cases H
          obtain ⟨b26, q27, hAc25⟩ := (v0_).some_ u10 c25.1 c25.2
          refine si rfl hk rfl rfl rfl rfl un42 sz88 c25.1 c25.2 hAc25 fun a hk => ?_
          obtain ⟨_, ⟨_, rfl, A29, p30, rfl, v31⟩, e28⟩ := (v0_).at_ z_Txn u10 c25.1 c25.2
          refine sln [.slice A29 ((l0.getD u10.toNat z_Txn).Ops).length p30] rfl hk rfl rfl rfl ag88 sz88 (cells_at e28 (hs.hasD (k := 1) rfl)) fun a hk => ?_
          refine sm _ rfl hk rfl rfl rfl fun a hk => ?_
          obtain ⟨y32, h33, H⟩ := bind_some H
          refine sc rfl en67 hk rfl rfl rfl (laws_szTxn_t _ (l0.getD u10.toNat z_Txn) A29 p30 _ v31 (hs.hasD (k := 1) rfl) u9 _ h33) ?_
          rintro _ w ⟨rfl, hG⟩ a hk
          have hs := hs.call0 hG
          refine sa _ rfl hk rfl rfl rfl fun a hk => ?_
          show wpList _ _ _ [] _ _
          refine wpList_nil ?_
          refine hK24 _ _ ?_
          apply wp_seq_k; intro K34 hK34
          apply wp_region_lit
          refine sm _ rfl hk rfl rfl rfl fun a hk => ?_
          refine sv (.bool (decide (y32 < 0))) hk rfl rfl rfl fun a hk => ?_
          show wpList _ _ _ [] _ _
          refine wpList_nil ?_
          refine hK34 _ _ ?_
          rcases cond_some H with ⟨c35, H⟩ | ⟨c35, H⟩
          · have hk := hk.lit 25 c35 rfl
            refine cnd_true hk rfl rfl ?_
            apply wp_seq_k; intro K36 hK36
            apply wp_region_lit
            refine sa _ rfl hk rfl rfl rfl fun a hk => ?_
            show wpList _ _ _ [] _ _
            refine wpList_nil ?_
            refine hK36 _ _ ?_
            refine wp_ret ?_
            obtain rfl := Option.some.inj H
            have ho12 := h19
            try dsimp only at ho12
            subst ho12
            have H := HL14
            try dsimp only at H
            obtain rfl := Option.some.inj H
            exact fin hk _ [(.int .i64 (-1))] rfl ⟨rfl, trivial⟩ ⟨rfl, (hs.pick [] rfl).dnil⟩
          · have hk := hk.lit 25 c35 rfl
            refine cnd_false hk rfl rfl ?_
            refine wp_skip ?_
            refine hK23 _ _ ?_
            apply wp_region_lit
            refine sm _ rfl hk rfl rfl rfl fun a hk => ?_
            refine sv (.int .i64 (w64 (u10 + 1))) hk rfl rfl rfl fun a hk => ?_
            refine sa _ rfl hk rfl rfl rfl fun a hk => ?_
            show wpList _ _ _ [] _ _
            refine wpList_nil ?_
            obtain rfl := Option.some.inj H
            obtain ⟨m37, hmm37, h19⟩ := h19
            show ∃ n', n' < _ ∧ I16 n' _ _
            refine ⟨m37, hmm37, ?_⟩
            rw [hI16]
            exact ⟨y32, (w64 (u10 + 1)), h19, (hk.c 0 rfl (hk.c 1 rfl (hk.c 5 rfl hk.k))), (hs.pick [] rfl)⟩
        · have hk := hk.lit 15 c22 rfl
          refine cnd_false hk rfl rfl ?_
          refine wp_exit ?_
          obtain rfl := Option.some.inj H
          show R15 _ _
          rw [hR15]
          exact ⟨u9, h19.symm, (hk.c 1 rfl hk.k), (hs.pick [] rfl)⟩
    · intro a w hR0
      rw [hR15] at hR0
      obtain ⟨u11, rfl, hk, hs⟩ := hR0
      have H := HL14
      try dsimp only at H
      refine hK7 _ _ ?_
      apply wp_seq_k; intro K38 hK38
      apply wp_region_lit
      refine sm _ rfl hk rfl rfl rfl fun a hk => ?_
      refine sa _ rfl hk rfl rfl rfl fun a hk => ?_
      show wpList _ _ _ [] _ _
      refine wpList_nil ?_
      refine hK38 _ _ ?_
      refine wp_ret ?_
      obtain rfl := Option.some.inj H
      exact fin hk _ [(.int .i64 u11)] rfl ⟨rfl, trivial⟩ ⟨rfl, (hs.pick [] rfl).dnil⟩

noncomputable def laws_szIntS.f (l0 : List Int) (x1 : Int) : Option (Int) :=
  (bif (decide ((w64 (x1 - (l0.length : Int))) < 0)) then (some (-1)) else (some (w64 (x1 - (l0.length : Int)))))
set_option maxRecDepth 100000 in
set_option maxHeartbeats 0 in
theorem laws_szIntS_t (w0 : World) (A0_ : Option Addr) (p0_ : Nat) (l0 : List Int) (k0_ : Chunk) (v0_ : View (Lay.int .i64) A0_ p0_ l0 k0_) (w0_ : Has w0 k0_) (x1 : Int) (r : Int) (H : laws_szIntS.f l0 x1 = some r) :
    Calls Try.prog 52 #[.slice A0_ l0.length p0_, .int .i64 x1] w0 (Ret (fun v w => v = .int .i64 r ∧ Sat [] w0 w [] [])) := by
  have hs : Sat [] w0 w0 [(1, k0_)] [] := Sat.init w0 [(1, k0_)] [] (by simp only [List.mem_cons, List.not_mem_nil, or_false]; rintro x (rfl) <;> assumption) (by simp) List.nodup_nil (by simp [blks])
  unfold laws_szIntS.f at H
  refine enter Try.func52 rfl Try.ntmps52 rfl fun a hk => ?_
  apply wp_seq_k; intro K1 hK1
  apply wp_region_lit
  refine sa _ rfl hk rfl rfl rfl fun a hk => ?_
  show wpList _ _ _ [] _ _
  refine wpList_nil ?_
  refine hK1 _ _ ?_
  apply wp_seq_k; intro K2 hK2
  apply wp_region_lit
  refine sm _ rfl hk rfl rfl rfl fun a hk => ?_
  refine sm _ rfl hk rfl rfl rfl fun a hk => ?_
  refine sle rfl hk rfl rfl rfl un43 fun a hk => ?_
  refine sv (.int .i64 (w64 (x1 - (l0.length : Int)))) hk rfl rfl rfl fun a hk => ?_
  refine sa _ rfl hk rfl rfl rfl fun a hk => ?_
  show wpList _ _ _ [] _ _
  refine wpList_nil ?_
  refine hK2 _ _ ?_
  apply wp_seq_k; intro K3 hK3
  apply wp_seq_k; intro K4 hK4
  apply wp_region_lit
  refine sm _ rfl hk rfl rfl rfl fun a hk => ?_
  refine sv (.bool (decide ((w64 (x1 - (l0.length : Int))) < 0))) hk rfl rfl rfl fun a hk => ?_
  show wpList _ _ _ [] _ _
  refine wpList_nil ?_
  refine hK4 _ _ ?_
  rcases cond_some H with ⟨c5, H⟩ | ⟨c5, H⟩
  · have hk := hk.lit 10 c5 rfl
    refine cnd_true hk rfl rfl ?_
    apply wp_seq_k; intro K6 hK6
    apply wp_region_lit
    refine sa _ rfl hk rfl rfl rfl fun a hk => ?_
    show wpList _ _ _ [] _ _
    refine wpList_nil ?_
    refine hK6 _ _ ?_
    refine wp_ret ?_
    obtain rfl := Option.some.inj H
    exact fin hk _ [(.int .i64 (-1))] rfl ⟨rfl, trivial⟩ ⟨rfl, (hs.pick [] rfl).dnil⟩
  · have hk := hk.lit 10 c5 rfl
    refine cnd_false hk rfl rfl ?_
    refine wp_skip ?_
    refine hK3 _ _ ?_
    apply wp_seq_k; intro K7 hK7
    apply wp_region_lit
    refine sm _ rfl hk rfl rfl rfl fun a hk => ?_
    refine sa _ rfl hk rfl rfl rfl fun a hk => ?_
    show wpList _ _ _ [] _ _
    refine wpList_nil ?_
    refine hK7 _ _ ?_
    refine wp_ret ?_
    obtain rfl := Option.some.inj H
    exact fin hk _ [(.int .i64 (w64 (x1 - (l0.length : Int))))] rfl ⟨rfl, trivial⟩ ⟨rfl, (hs.pick [] rfl).dnil⟩

noncomputable def laws_szAct.f (x0 : S_Act) (x1 : Int) : Option (Int) :=
  ((laws_szTxnS.f x0.Batch x1).bind fun y4 => (bif (decide (y4 < 0)) then (some (-1)) else ((laws_szIntS.f x0.Draws y4).bind fun y11 => (bif (decide (y11 < 0)) then (some (-1)) else ((laws_szIntS.f x0.Fates y11).bind fun y18 => (bif (decide (y18 < 0)) then (some (-1)) else (some y18)))))))
set_option maxRecDepth 100000 in
set_option maxHeartbeats 0 in
theorem laws_szAct_t (w0 : World) (x0 : S_Act) (A0_0 : Option Addr) (p0_0 : Nat) (k0_0 : Chunk) (v0_0 : View L_laws_Txn A0_0 p0_0 x0.Batch k0_0) (w0_0 : Has w0 k0_0) (A0_1 : Option Addr) (p0_1 : Nat) (k0_1 : Chunk) (v0_1 : View (Lay.int .i64) A0_1 p0_1 x0.Draws k0_1) (w0_1 : Has w0 k0_1) (A0_2 : Option Addr) (p0_2 : Nat) (k0_2 : Chunk) (v0_2 : View (Lay.int .i64) A0_2 p0_2 x0.Fates k0_2) (w0_2 : Has w0 k0_2) (x1 : Int) (r : Int) (H : laws_szAct.f x0 x1 = some r) :
    Calls Try.prog 18 #[.agg #[.int .i64 x0.Kind, .int .i64 x0.Phase, .int .i64 x0.At, .int .i64 x0.Place, .int .i64 x0.By, .slice A0_0 x0.Batch.length p0_0, .slice A0_1 x0.Draws.length p0_1, .slice A0_2 x0.Fates.length p0_2], .int .i64 x1] w0 (Ret (fun v w => v = .int .i64 r ∧ Sat [] w0 w [] [])) := by
  have hs : Sat [] w0 w0 [(1, k0_0), (2, k0_1), (3, k0_2)] [] := Sat.init w0 [(1, k0_0), (2, k0_1), (3, k0_2)] [] (by simp only [List.mem_cons, List.not_mem_nil, or_false]; rintro x (rfl | rfl | rfl) <;> assumption) (by simp) List.nodup_nil (by simp [blks])
  unfold laws_szAct.f at H
  refine enter Try.func18 rfl Try.ntmps18 rfl fun a hk => ?_
  apply wp_seq_k; intro K1 hK1
  apply wp_region_lit
  refine sbx 4 hs rfl hk rfl rfl rfl rfl fun b2 w a hk hs => ?_
  refine sa _ rfl hk rfl rfl rfl fun a hk => ?_
  show wpList _ _ _ [] _ _
  refine wpList_nil ?_
  refine hK1 _ _ ?_
  apply wp_seq_k; intro K3 hK3
  apply wp_region_lit
  refine sf ⟨b2, 5, none⟩ rfl hk rfl rfl rfl fd45_5 rfl fun a hk => ?_
  refine sl rfl hk rfl rfl rfl ag42 (box_cell hs (k := 4) rfl rfl) fun a hk => ?_
  refine sm _ rfl hk rfl rfl rfl fun a hk => ?_
  obtain ⟨y4, h5, H⟩ := bind_some H
  refine sc rfl en23 hk rfl rfl rfl (laws_szTxnS_t _ A0_0 p0_0 x0.Batch _ v0_0 (hs.hasD (k := 1) rfl) x1 _ h5) ?_
  rintro _ w ⟨rfl, hG⟩ a hk
  have hs := hs.call0 hG
  refine sa _ rfl hk rfl rfl rfl fun a hk => ?_
  show wpList _ _ _ [] _ _
  refine wpList_nil ?_
  refine hK3 _ _ ?_
  apply wp_seq_k; intro K6 hK6
  apply wp_seq_k; intro K7 hK7
  apply wp_region_lit
  refine sm _ rfl hk rfl rfl rfl fun a hk => ?_
  refine sv (.bool (decide (y4 < 0))) hk rfl rfl rfl fun a hk => ?_
  show wpList _ _ _ [] _ _
  refine wpList_nil ?_
  refine hK7 _ _ ?_
  rcases cond_some H with ⟨c8, H⟩ | ⟨c8, H⟩
  · have hk := hk.lit 10 c8 rfl
    refine cnd_true hk rfl rfl ?_
    apply wp_seq_k; intro K9 hK9
    apply wp_region_lit
    refine sa _ rfl hk rfl rfl rfl fun a hk => ?_
    show wpList _ _ _ [] _ _
    refine wpList_nil ?_
    refine hK9 _ _ ?_
    refine wp_ret ?_
    obtain rfl := Option.some.inj H
    exact fin hk _ [(.int .i64 (-1))] rfl ⟨rfl, trivial⟩ ⟨rfl, (hs.pick [] rfl).dnil⟩
  · have hk := hk.lit 10 c8 rfl
    refine cnd_false hk rfl rfl ?_
    refine wp_skip ?_
    refine hK6 _ _ ?_
    apply wp_seq_k; intro K10 hK10
    apply wp_region_lit
    refine sf ⟨b2, 6, none⟩ rfl hk rfl rfl rfl fd45_6 rfl fun a hk => ?_
    refine sl rfl hk rfl rfl rfl ag43 (box_cell hs (k := 4) rfl rfl) fun a hk => ?_
    refine sm _ rfl hk rfl rfl rfl fun a hk => ?_
    obtain ⟨y11, h12, H⟩ := bind_some H
    refine sc rfl en52 hk rfl rfl rfl (laws_szIntS_t _ A0_1 p0_1 x0.Draws _ v0_1 (hs.hasD (k := 2) rfl) y4 _ h12) ?_
    rintro _ w ⟨rfl, hG⟩ a hk
    have hs := hs.call0 hG
    refine sa _ rfl hk rfl rfl rfl fun a hk => ?_
    show wpList _ _ _ [] _ _
    refine wpList_nil ?_
    refine hK10 _ _ ?_
    apply wp_seq_k; intro K13 hK13
    apply wp_seq_k; intro K14 hK14
    apply wp_region_lit
    refine sm _ rfl hk rfl rfl rfl fun a hk => ?_
    refine sv (.bool (decide (y11 < 0))) hk rfl rfl rfl fun a hk => ?_
    show wpList _ _ _ [] _ _
    refine wpList_nil ?_
    refine hK14 _ _ ?_
    rcases cond_some H with ⟨c15, H⟩ | ⟨c15, H⟩
    · have hk := hk.lit 16 c15 rfl
      refine cnd_true hk rfl rfl ?_
      apply wp_seq_k; intro K16 hK16
      apply wp_region_lit
      refine sa _ rfl hk rfl rfl rfl fun a hk => ?_
      show wpList _ _ _ [] _ _
      refine wpList_nil ?_
      refine hK16 _ _ ?_
      refine wp_ret ?_
      obtain rfl := Option.some.inj H
      exact fin hk _ [(.int .i64 (-1))] rfl ⟨rfl, trivial⟩ ⟨rfl, (hs.pick [] rfl).dnil⟩
    · have hk := hk.lit 16 c15 rfl
      refine cnd_false hk rfl rfl ?_
      refine wp_skip ?_
      refine hK13 _ _ ?_
      apply wp_seq_k; intro K17 hK17
      apply wp_region_lit
      refine sf ⟨b2, 7, none⟩ rfl hk rfl rfl rfl fd45_7 rfl fun a hk => ?_
      refine sl rfl hk rfl rfl rfl ag43 (box_cell hs (k := 4) rfl rfl) fun a hk => ?_
      refine sm _ rfl hk rfl rfl rfl fun a hk => ?_
      obtain ⟨y18, h19, H⟩ := bind_some H
      refine sc rfl en52 hk rfl rfl rfl (laws_szIntS_t _ A0_2 p0_2 x0.Fates _ v0_2 (hs.hasD (k := 3) rfl) y11 _ h19) ?_
      rintro _ w ⟨rfl, hG⟩ a hk
      have hs := hs.call0 hG
      refine sa _ rfl hk rfl rfl rfl fun a hk => ?_
      show wpList _ _ _ [] _ _
      refine wpList_nil ?_
      refine hK17 _ _ ?_
      apply wp_seq_k; intro K20 hK20
      apply wp_seq_k; intro K21 hK21
      apply wp_region_lit
      refine sm _ rfl hk rfl rfl rfl fun a hk => ?_
      refine sv (.bool (decide (y18 < 0))) hk rfl rfl rfl fun a hk => ?_
      show wpList _ _ _ [] _ _
      refine wpList_nil ?_
      refine hK21 _ _ ?_
      rcases cond_some H with ⟨c22, H⟩ | ⟨c22, H⟩
      · have hk := hk.lit 22 c22 rfl
        refine cnd_true hk rfl rfl ?_
        apply wp_seq_k; intro K23 hK23
        apply wp_region_lit
        refine sa _ rfl hk rfl rfl rfl fun a hk => ?_
        show wpList _ _ _ [] _ _
        refine wpList_nil ?_
        refine hK23 _ _ ?_
        refine wp_ret ?_
        obtain rfl := Option.some.inj H
        exact fin hk _ [(.int .i64 (-1))] rfl ⟨rfl, trivial⟩ ⟨rfl, (hs.pick [] rfl).dnil⟩
      · have hk := hk.lit 22 c22 rfl
        refine cnd_false hk rfl rfl ?_
        refine wp_skip ?_
        refine hK20 _ _ ?_
        apply wp_seq_k; intro K24 hK24
        apply wp_region_lit
        refine sm _ rfl hk rfl rfl rfl fun a hk => ?_
        refine sa _ rfl hk rfl rfl rfl fun a hk => ?_
        show wpList _ _ _ [] _ _
        refine wpList_nil ?_
        refine hK24 _ _ ?_
        refine wp_ret ?_
        obtain rfl := Option.some.inj H
        exact fin hk _ [(.int .i64 y18)] rfl ⟨rfl, trivial⟩ ⟨rfl, (hs.pick [] rfl).dnil⟩

noncomputable def spec_OpOK.f (x0 : S_Op) : Option (Bool) :=
  ((((spec_l01In.f x0.Kind 1 6).bind fun y10 => (bif (!y10) then (some true) else ((spec_l01In.f x0.Key 1 9999).bind fun y13 => (some (!y13))))) : Option (Bool)).bind fun u5 => (bif u5 then (some false) else (((bif (x0.Kind == 1) then (some true) else (some (x0.Kind == 3))) : Option (Bool)).bind fun u21 => (bif u21 then (some (x0.Value == 0)) else (bif (x0.Kind == 6) then ((spec_l01In.f x0.Value 1 4).bind fun y32 => (some y32)) else ((spec_l01In.f x0.Value 0 999999).bind fun y35 => (some y35)))))))
set_option maxRecDepth 100000 in
set_option maxHeartbeats 0 in
theorem spec_OpOK_t (w0 : World) (x0 : S_Op) (r : Bool) (H : spec_OpOK.f x0 = some r) :
    Calls Try.prog 124 #[.agg #[.int .i64 x0.Kind, .int .i64 x0.Key, .int .i64 x0.Value]] w0 (Ret (fun v w => v = .bool r ∧ Sat [] w0 w [] [])) := by
  have hs : Sat [] w0 w0 [] [] := Sat.init w0 [] [] (by simp) (by simp) List.nodup_nil (by simp [blks])
  unfold spec_OpOK.f at H
  refine enter Try.func124 rfl Try.ntmps124 rfl fun a hk => ?_
  apply wp_seq_k; intro K1 hK1
  apply wp_region_lit
  refine sbx 1 hs rfl hk rfl rfl rfl rfl fun b2 w a hk hs => ?_
  refine sa _ rfl hk rfl rfl rfl fun a hk => ?_
  show wpList _ _ _ [] _ _
  refine wpList_nil ?_
  refine hK1 _ _ ?_
  apply wp_seq_k; intro K3 hK3
  apply wp_seq_k; intro K4 hK4
  obtain ⟨o6, h7, HL8⟩ := bind_some H
  clear H
  obtain ⟨R9, hR9⟩ : ∃ R : Act → World → Prop, R = fun a w => ∃ (u5 : Bool), u5 = o6 ∧ Kn [(1, (.pointer (some ⟨b2, 0, none⟩))), (12, (.bool u5))] 29 a ∧ Sat [] w0 w [] [(1, [(b2, .cells #[.int .i64 x0.Kind, .int .i64 x0.Key, .int .i64 x0.Value] 120 (0, 0))])] := ⟨_, rfl⟩
  refine wp_cutq R9 ?_ ?_
  · have H := h7
    apply wp_region_lit
    refine sf ⟨b2, 0, none⟩ rfl hk rfl rfl rfl fd120_0 rfl fun a hk => ?_
    refine sl rfl hk rfl rfl rfl ag3 (box_cell hs (k := 1) rfl rfl) fun a hk => ?_
    obtain ⟨y10, h11, H⟩ := bind_some H
    refine sc rfl en53 hk rfl rfl rfl (spec_l01In_t _ x0.Kind 1 6 _ h11) ?_
    rintro _ w ⟨rfl, hG⟩ a hk
    have hs := hs.call0 hG
    refine sv (.bool (!y10)) hk rfl rfl rfl fun a hk => ?_
    refine sm _ rfl hk rfl rfl rfl fun a hk => ?_
    rcases cond_some H with ⟨c12, H⟩ | ⟨c12, H⟩
    · have hk := hk.lit 7 c12 rfl
      refine sk hk rfl rfl rfl fun a hk => ?_
      refine sk hk rfl rfl rfl fun a hk => ?_
      refine sk hk rfl rfl rfl fun a hk => ?_
      refine sk hk rfl rfl rfl fun a hk => ?_
      refine sv (.bool true) hk rfl rfl rfl fun a hk => ?_
      show wpList _ _ _ [] _ _
      refine wpList_nil ?_
      obtain rfl := Option.some.inj H
      show R9 _ _
      rw [hR9]
      exact ⟨true, rfl, (hk.c 1 rfl (hk.c 12 rfl hk.k)), (hs.pick [(1, 1)] rfl)⟩
    · have hk := hk.lit 7 c12 rfl
      refine sf ⟨b2, 1, none⟩ rfl hk rfl rfl rfl fd120_1 rfl fun a hk => ?_
      refine sl rfl hk rfl rfl rfl ag3 (box_cell hs (k := 1) rfl rfl) fun a hk => ?_
      obtain ⟨y13, h14, H⟩ := bind_some H
      refine sc rfl en53 hk rfl rfl rfl (spec_l01In_t _ x0.Key 1 9999 _ h14) ?_
      rintro _ w ⟨rfl, hG⟩ a hk
      have hs := hs.call0 hG
      refine sv (.bool (!y13)) hk rfl rfl rfl fun a hk => ?_
      refine sv (.bool (!y13)) hk rfl rfl rfl fun a hk => ?_
      show wpList _ _ _ [] _ _
      refine wpList_nil ?_
      obtain rfl := Option.some.inj H
      show R9 _ _
      rw [hR9]
      exact ⟨(!y13), rfl, (hk.c 1 rfl (hk.c 12 rfl hk.k)), (hs.pick [(1, 1)] rfl)⟩
  · intro a w hR0
    rw [hR9] at hR0
    obtain ⟨u5, rfl, hk, hs⟩ := hR0
    have H := HL8
    try dsimp only at H
    refine hK4 _ _ ?_
    rcases cond_some H with ⟨c15, H⟩ | ⟨c15, H⟩
    · have hk := hk.lit 12 c15 rfl
      refine cnd_true hk rfl rfl ?_
      apply wp_seq_k; intro K16 hK16
      apply wp_region_lit
      refine sa _ rfl hk rfl rfl rfl fun a hk => ?_
      show wpList _ _ _ [] _ _
      refine wpList_nil ?_
      refine hK16 _ _ ?_
      refine wp_ret ?_
      obtain rfl := Option.some.inj H
      exact fin hk _ [(.bool false)] rfl ⟨rfl, trivial⟩ ⟨rfl, (hs.pick [] rfl).dnil⟩
    · have hk := hk.lit 12 c15 rfl
      refine cnd_false hk rfl rfl ?_
      refine wp_skip ?_
      refine hK3 _ _ ?_
      apply wp_seq_k; intro K17 hK17
      apply wp_seq_k; intro K18 hK18
      apply wp_region_lit
      refine sf ⟨b2, 0, none⟩ rfl hk rfl rfl rfl fd120_0 rfl fun a hk => ?_
      refine sl rfl hk rfl rfl rfl ag3 (box_cell hs (k := 1) rfl rfl) fun a hk => ?_
      show wpList _ _ _ [] _ _
      refine wpList_nil ?_
      refine hK18 _ _ ?_
      refine wp_block ?_
      apply wp_seq_k; intro K19 hK19
      apply wp_seq_k; intro K20 hK20
      apply wp_region_lit
      refine sv (.bool (x0.Kind == 1)) hk rfl rfl rfl fun a hk => ?_
      refine sa _ rfl hk rfl rfl rfl fun a hk => ?_
      show wpList _ _ _ [] _ _
      refine wpList_nil ?_
      refine hK20 _ _ ?_
      obtain ⟨o22, h23, HL24⟩ := bind_some H
      clear H
      obtain ⟨R25, hR25⟩ : ∃ R : Act → World → Prop, R = fun a w => ∃ (u21 : Bool), u21 = o22 ∧ Kn [(1, (.pointer (some ⟨b2, 0, none⟩))), (14, (.int .i64 x0.Kind)), (15, (.bool u21))] 29 a ∧ Sat [] w0 w [] [(1, [(b2, .cells #[.int .i64 x0.Kind, .int .i64 x0.Key, .int .i64 x0.Value] 120 (0, 0))])] := ⟨_, rfl⟩
      refine wp_cutq R25 ?_ ?_
      · have H := h23
        rcases cond_some H with ⟨c26, H⟩ | ⟨c26, H⟩
        · have hk := hk.lit 15 c26 rfl
          refine cnd_true hk rfl rfl ?_
          refine wp_skip ?_
          obtain rfl := Option.some.inj H
          show R25 _ _
          rw [hR25]
          exact ⟨true, rfl, (hk.c 1 rfl (hk.c 14 rfl (hk.c 15 rfl hk.k))), (hs.pick [(1, 1)] rfl)⟩
        · have hk := hk.lit 15 c26 rfl
          refine cnd_false hk rfl rfl ?_
          apply wp_region_lit
          refine sv (.bool (x0.Kind == 3)) hk rfl rfl rfl fun a hk => ?_
          refine sa _ rfl hk rfl rfl rfl fun a hk => ?_
          show wpList _ _ _ [] _ _
          refine wpList_nil ?_
          obtain rfl := Option.some.inj H
          show R25 _ _
          rw [hR25]
          exact ⟨(x0.Kind == 3), rfl, (hk.c 1 rfl (hk.c 14 rfl (hk.c 15 rfl hk.k))), (hs.pick [(1, 1)] rfl)⟩
      · intro a w hR0
        rw [hR25] at hR0
        obtain ⟨u21, rfl, hk, hs⟩ := hR0
        have H := HL24
        try dsimp only at H
        refine hK19 _ _ ?_
        rcases cond_some H with ⟨c27, H⟩ | ⟨c27, H⟩
        · have hk := hk.lit 15 c27 rfl
          refine cnd_true hk rfl rfl ?_
          apply wp_seq_k; intro K28 hK28
          apply wp_region_lit
          refine sf ⟨b2, 2, none⟩ rfl hk rfl rfl rfl fd120_2 rfl fun a hk => ?_
          refine sl rfl hk rfl rfl rfl ag3 (box_cell hs (k := 1) rfl rfl) fun a hk => ?_
          refine sv (.bool (x0.Value == 0)) hk rfl rfl rfl fun a hk => ?_
          refine sa _ rfl hk rfl rfl rfl fun a hk => ?_
          show wpList _ _ _ [] _ _
          refine wpList_nil ?_
          refine hK28 _ _ ?_
          refine wp_ret ?_
          obtain rfl := Option.some.inj H
          exact fin hk _ [(.bool (x0.Value == 0))] rfl ⟨rfl, trivial⟩ ⟨rfl, (hs.pick [] rfl).dnil⟩
        · have hk := hk.lit 15 c27 rfl
          refine cnd_false hk rfl rfl ?_
          apply wp_seq_k; intro K29 hK29
          apply wp_region_lit
          refine sv (.bool (x0.Kind == 6)) hk rfl rfl rfl fun a hk => ?_
          refine sa _ rfl hk rfl rfl rfl fun a hk => ?_
          show wpList _ _ _ [] _ _
          refine wpList_nil ?_
          refine hK29 _ _ ?_
          rcases cond_some H with ⟨c30, H⟩ | ⟨c30, H⟩
          · have hk := hk.lit 21 c30 rfl
            refine cnd_true hk rfl rfl ?_
            apply wp_seq_k; intro K31 hK31
            apply wp_region_lit
            refine sf ⟨b2, 2, none⟩ rfl hk rfl rfl rfl fd120_2 rfl fun a hk => ?_
            refine sl rfl hk rfl rfl rfl ag3 (box_cell hs (k := 1) rfl rfl) fun a hk => ?_
            obtain ⟨y32, h33, H⟩ := bind_some H
            refine sc rfl en53 hk rfl rfl rfl (spec_l01In_t _ x0.Value 1 4 _ h33) ?_
            rintro _ w ⟨rfl, hG⟩ a hk
            have hs := hs.call0 hG
            refine sa _ rfl hk rfl rfl rfl fun a hk => ?_
            show wpList _ _ _ [] _ _
            refine wpList_nil ?_
            refine hK31 _ _ ?_
            refine wp_ret ?_
            obtain rfl := Option.some.inj H
            exact fin hk _ [(.bool y32)] rfl ⟨rfl, trivial⟩ ⟨rfl, (hs.pick [] rfl).dnil⟩
          · have hk := hk.lit 21 c30 rfl
            refine cnd_false hk rfl rfl ?_
            refine wp_skip ?_
            refine hK17 _ _ ?_
            apply wp_seq_k; intro K34 hK34
            apply wp_region_lit
            refine sf ⟨b2, 2, none⟩ rfl hk rfl rfl rfl fd120_2 rfl fun a hk => ?_
            refine sl rfl hk rfl rfl rfl ag3 (box_cell hs (k := 1) rfl rfl) fun a hk => ?_
            obtain ⟨y35, h36, H⟩ := bind_some H
            refine sc rfl en53 hk rfl rfl rfl (spec_l01In_t _ x0.Value 0 999999 _ h36) ?_
            rintro _ w ⟨rfl, hG⟩ a hk
            have hs := hs.call0 hG
            refine sa _ rfl hk rfl rfl rfl fun a hk => ?_
            show wpList _ _ _ [] _ _
            refine wpList_nil ?_
            refine hK34 _ _ ?_
            refine wp_ret ?_
            obtain rfl := Option.some.inj H
            exact fin hk _ [(.bool y35)] rfl ⟨rfl, trivial⟩ ⟨rfl, (hs.pick [] rfl).dnil⟩

noncomputable def spec_l09Txn.s0 (x0 : S_Txn) (u5 : Int) : Option ((Int) ⊕ Ex (Unit) (Bool)) :=
  (bif (decide (u5 < (x0.Ops.length : Int))) then (if 0 ≤ u5 ∧ u5 < (x0.Ops.length : Int) then ((spec_OpOK.f (x0.Ops.getD u5.toNat z_Op)).bind fun y23 => (bif (!y23) then (some (.inr (.ret false))) else (some (.inl (w64 (u5 + 1)))))) else none) else (some (.inr (.out ()))))
noncomputable def spec_l09Txn.f (x0 : S_Txn) : Option (Bool) :=
  ((loopO (fun s => spec_l09Txn.s0 x0 s) 0).bind fun o => match o with | .out _ => ((spec_l01In.f (x0.Ops.length : Int) 1 4).bind fun y29 => (some y29)) | .ret r => (some r))
set_option maxRecDepth 100000 in
set_option maxHeartbeats 0 in
theorem spec_l09Txn_t (w0 : World) (x0 : S_Txn) (A0_0 : Option Addr) (p0_0 : Nat) (k0_0 : Chunk) (v0_0 : View L_Op A0_0 p0_0 x0.Ops k0_0) (w0_0 : Has w0 k0_0) (r : Bool) (H : spec_l09Txn.f x0 = some r) :
    Calls Try.prog 99 #[.agg #[.slice A0_0 x0.Ops.length p0_0]] w0 (Ret (fun v w => v = .bool r ∧ Sat [] w0 w [] [])) := by
  have hs : Sat [] w0 w0 [(1, k0_0)] [] := Sat.init w0 [(1, k0_0)] [] (by simp only [List.mem_cons, List.not_mem_nil, or_false]; rintro x (rfl) <;> assumption) (by simp) List.nodup_nil (by simp [blks])
  unfold spec_l09Txn.f at H
  refine enter Try.func99 rfl Try.ntmps99 rfl fun a hk => ?_
  apply wp_seq_k; intro K1 hK1
  apply wp_region_lit
  refine sbx 2 hs rfl hk rfl rfl rfl rfl fun b2 w a hk hs => ?_
  refine sa _ rfl hk rfl rfl rfl fun a hk => ?_
  show wpList _ _ _ [] _ _
  refine wpList_nil ?_
  refine hK1 _ _ ?_
  apply wp_seq_k; intro K3 hK3
  apply wp_seq_k; intro K4 hK4
  apply wp_region_lit
  refine sa _ rfl hk rfl rfl rfl fun a hk => ?_
  show wpList _ _ _ [] _ _
  refine wpList_nil ?_
  refine hK4 _ _ ?_
  obtain ⟨o6, h7, HL8⟩ := bind_some H
  clear H
  obtain ⟨R9, hR9⟩ : ∃ R : Act → World → Prop, R = fun a w => o6 = .out () ∧ Kn [(1, (.pointer (some ⟨b2, 0, none⟩)))] 22 a ∧ Sat [] w0 w [(1, k0_0)] [(2, [(b2, .cells #[.slice A0_0 x0.Ops.length p0_0] 92 (0, 0))])] := ⟨_, rfl⟩
  refine wp_cutq R9 ?_ ?_
  · refine wp_block ?_
    obtain ⟨fu11, h7⟩ := loopO_some h7
    obtain ⟨I10, hI10⟩ : ∃ I : Nat → Act → World → Prop, I = fun fu a w => ∃ (u5 : Int), loopN (fun s => spec_l09Txn.s0 x0 s) fu u5 = some o6 ∧ Kn [(1, (.pointer (some ⟨b2, 0, none⟩))), (3, (.int .i64 u5))] 22 a ∧ Sat [] w0 w [(1, k0_0)] [(2, [(b2, .cells #[.slice A0_0 x0.Ops.length p0_0] 92 (0, 0))])] := ⟨_, rfl⟩
    refine wp_loop_ghost I10 fu11 ?_ ?_
    · rw [hI10]
      exact ⟨0, h7, (hk.c 1 rfl (hk.c 3 rfl hk.k)), (hs.pick [(2, 2)] rfl)⟩
    · clear h7 hk hs
      intro fu11 a w hI0
      rw [hI10] at hI0
      obtain ⟨u5, hi, hk, hs⟩ := hI0
      obtain ⟨x12, H, h13⟩ := loop_round hi
      try dsimp only at H
      unfold spec_l09Txn.s0 at H
      apply wp_seq_k; intro K14 hK14
      apply wp_seq_k; intro K15 hK15
      apply wp_region_lit
      refine sm _ rfl hk rfl rfl rfl fun a hk => ?_
      refine sf ⟨b2, 0, none⟩ rfl hk rfl rfl rfl fd92_0 rfl fun a hk => ?_
      refine sl rfl hk rfl rfl rfl ag90 (box_cell hs (k := 2) rfl rfl) fun a hk => ?_
      refine sle rfl hk rfl rfl rfl un90 fun a hk => ?_
      refine sv (.bool (decide (u5 < (x0.Ops.length : Int)))) hk rfl rfl rfl fun a hk => ?_
      show wpList _ _ _ [] _ _
      refine wpList_nil ?_
      refine hK15 _ _ ?_
      rcases cond_some H with ⟨c16, H⟩ | ⟨c16, H⟩
      · have hk := hk.lit 8 c16 rfl
        refine cnd_true hk rfl rfl ?_
        refine wp_skip ?_
        refine hK14 _ _ ?_
        apply wp_seq_k; intro K17 hK17
        refine wp_block ?_
        apply wp_seq_k; intro K18 hK18
        apply wp_region_lit
        refine sf ⟨b2, 0, none⟩ rfl hk rfl rfl rfl fd92_0 rfl fun a hk => ?_
        refine sl rfl hk rfl rfl rfl ag90 (box_cell hs (k := 2) rfl rfl) fun a hk => ?_
        refine sm _ rfl hk rfl rfl rfl fun a hk => ?_
        rcases ite_some H with ⟨c19, H⟩ | ⟨_, H⟩
        rotate_left
        · cases H
        obtain ⟨b20, q21, hAc19⟩ := (v0_0).some_ u5 c19.1 c19.2
        refine si rfl hk rfl rfl rfl rfl un90 sz120 c19.1 c19.2 hAc19 fun a hk => ?_
        obtain ⟨_, rfl, e22⟩ := (v0_0).at_ z_Op u5 c19.1 c19.2
        refine sln [.int .i64 ((x0.Ops.getD u5.toNat z_Op).Kind), .int .i64 ((x0.Ops.getD u5.toNat z_Op).Key), .int .i64 ((x0.Ops.getD u5.toNat z_Op).Value)] rfl hk rfl rfl rfl ag120 sz120 (cells_at e22 (hs.hasD (k := 1) rfl)) fun a hk => ?_
        obtain ⟨y23, h24, H⟩ := bind_some H
        refine sc rfl en124 hk rfl rfl rfl (spec_OpOK_t _ (x0.Ops.getD u5.toNat z_Op) _ h24) ?_
        rintro _ w ⟨rfl, hG⟩ a hk
        have hs := hs.call0 hG
        refine sv (.bool (!y23)) hk rfl rfl rfl fun a hk => ?_
        show wpList _ _ _ [] _ _
        refine wpList_nil ?_
        refine hK18 _ _ ?_
        rcases cond_some H with ⟨c25, H⟩ | ⟨c25, H⟩
        · have hk := hk.lit 17 c25 rfl
          refine cnd_true hk rfl rfl ?_
          apply wp_seq_k; intro K26 hK26
          apply wp_region_lit
          refine sa _ rfl hk rfl rfl rfl fun a hk => ?_
          show wpList _ _ _ [] _ _
          refine wpList_nil ?_
          refine hK26 _ _ ?_
          refine wp_ret ?_
          obtain rfl := Option.some.inj H
          have ho6 := h13
          try dsimp only at ho6
          subst ho6
          have H := HL8
          try dsimp only at H
          obtain rfl := Option.some.inj H
          exact fin hk _ [(.bool false)] rfl ⟨rfl, trivial⟩ ⟨rfl, (hs.pick [] rfl).dnil⟩
        · have hk := hk.lit 17 c25 rfl
          refine cnd_false hk rfl rfl ?_
          refine wp_skip ?_
          refine hK17 _ _ ?_
          apply wp_region_lit
          refine sm _ rfl hk rfl rfl rfl fun a hk => ?_
          refine sv (.int .i64 (w64 (u5 + 1))) hk rfl rfl rfl fun a hk => ?_
          refine sa _ rfl hk rfl rfl rfl fun a hk => ?_
          show wpList _ _ _ [] _ _
          refine wpList_nil ?_
          obtain rfl := Option.some.inj H
          obtain ⟨m27, hmm27, h13⟩ := h13
          show ∃ n', n' < _ ∧ I10 n' _ _
          refine ⟨m27, hmm27, ?_⟩
          rw [hI10]
          exact ⟨(w64 (u5 + 1)), h13, (hk.c 1 rfl (hk.c 3 rfl hk.k)), (hs.pick [(2, 2)] rfl)⟩
      · have hk := hk.lit 8 c16 rfl
        refine cnd_false hk rfl rfl ?_
        refine wp_exit ?_
        obtain rfl := Option.some.inj H
        show R9 _ _
        rw [hR9]
        exact ⟨h13.symm, (hk.c 1 rfl hk.k), (hs.pick [(2, 2)] rfl)⟩
  · intro a w hR0
    rw [hR9] at hR0
    obtain ⟨rfl, hk, hs⟩ := hR0
    have H := HL8
    try dsimp only at H
    refine hK3 _ _ ?_
    apply wp_seq_k; intro K28 hK28
    apply wp_region_lit
    refine sf ⟨b2, 0, none⟩ rfl hk rfl rfl rfl fd92_0 rfl fun a hk => ?_
    refine sl rfl hk rfl rfl rfl ag90 (box_cell hs (k := 2) rfl rfl) fun a hk => ?_
    refine sle rfl hk rfl rfl rfl un90 fun a hk => ?_
    obtain ⟨y29, h30, H⟩ := bind_some H
    refine sc rfl en53 hk rfl rfl rfl (spec_l01In_t _ (x0.Ops.length : Int) 1 4 _ h30) ?_
    rintro _ w ⟨rfl, hG⟩ a hk
    have hs := hs.call0 hG
    refine sa _ rfl hk rfl rfl rfl fun a hk => ?_
    show wpList _ _ _ [] _ _
    refine wpList_nil ?_
    refine hK28 _ _ ?_
    refine wp_ret ?_
    obtain rfl := Option.some.inj H
    exact fin hk _ [(.bool y29)] rfl ⟨rfl, trivial⟩ ⟨rfl, (hs.pick [] rfl).dnil⟩

noncomputable def spec_BatchOK.s0 (l0 : List S_Txn) (u14 : Int) : Option ((Int) ⊕ Ex (Unit) (Bool)) :=
  (bif (decide (u14 < (l0.length : Int))) then (if 0 ≤ u14 ∧ u14 < (l0.length : Int) then ((spec_l09Txn.f (l0.getD u14.toNat z_Txn)).bind fun y35 => (bif (!y35) then (some (.inr (.ret false))) else (some (.inl (w64 (u14 + 1)))))) else none) else (some (.inr (.out ()))))
noncomputable def spec_BatchOK.f (l0 : List S_Txn) : Option (Bool) :=
  (bif (decide ((l0.length : Int) > 4096)) then (some false) else ((spec_l01In.f (l0.length : Int) 1 2).bind fun y8 => (bif (!y8) then (some false) else ((loopO (fun s => spec_BatchOK.s0 l0 s) 0).bind fun o => match o with | .out _ => (some true) | .ret r => (some r)))))
set_option maxRecDepth 100000 in
set_option maxHeartbeats 0 in
theorem spec_BatchOK_t (w0 : World) (A0_ : Option Addr) (p0_ : Nat) (l0 : List S_Txn) (k0_ : Chunk) (v0_ : View L_impl_Txn A0_ p0_ l0 k0_) (w0_ : Has w0 k0_) (r : Bool) (H : spec_BatchOK.f l0 = some r) :
    Calls Try.prog 54 #[.slice A0_ l0.length p0_] w0 (Ret (fun v w => v = .bool r ∧ Sat [] w0 w [] [])) := by
  have hs : Sat [] w0 w0 [(1, k0_)] [] := Sat.init w0 [(1, k0_)] [] (by simp only [List.mem_cons, List.not_mem_nil, or_false]; rintro x (rfl) <;> assumption) (by simp) List.nodup_nil (by simp [blks])
  unfold spec_BatchOK.f at H
  refine enter Try.func54 rfl Try.ntmps54 rfl fun a hk => ?_
  apply wp_seq_k; intro K1 hK1
  apply wp_region_lit
  refine sa _ rfl hk rfl rfl rfl fun a hk => ?_
  show wpList _ _ _ [] _ _
  refine wpList_nil ?_
  refine hK1 _ _ ?_
  apply wp_seq_k; intro K2 hK2
  apply wp_seq_k; intro K3 hK3
  apply wp_region_lit
  refine sm _ rfl hk rfl rfl rfl fun a hk => ?_
  refine sle rfl hk rfl rfl rfl un48 fun a hk => ?_
  refine sv (.bool (decide ((l0.length : Int) > 4096))) hk rfl rfl rfl fun a hk => ?_
  show wpList _ _ _ [] _ _
  refine wpList_nil ?_
  refine hK3 _ _ ?_
  rcases cond_some H with ⟨c4, H⟩ | ⟨c4, H⟩
  · have hk := hk.lit 6 c4 rfl
    refine cnd_true hk rfl rfl ?_
    apply wp_seq_k; intro K5 hK5
    apply wp_region_lit
    refine sa _ rfl hk rfl rfl rfl fun a hk => ?_
    show wpList _ _ _ [] _ _
    refine wpList_nil ?_
    refine hK5 _ _ ?_
    refine wp_ret ?_
    obtain rfl := Option.some.inj H
    exact fin hk _ [(.bool false)] rfl ⟨rfl, trivial⟩ ⟨rfl, (hs.pick [] rfl).dnil⟩
  · have hk := hk.lit 6 c4 rfl
    refine cnd_false hk rfl rfl ?_
    refine wp_skip ?_
    refine hK2 _ _ ?_
    apply wp_seq_k; intro K6 hK6
    apply wp_seq_k; intro K7 hK7
    apply wp_region_lit
    refine sm _ rfl hk rfl rfl rfl fun a hk => ?_
    refine sle rfl hk rfl rfl rfl un48 fun a hk => ?_
    obtain ⟨y8, h9, H⟩ := bind_some H
    refine sc rfl en53 hk rfl rfl rfl (spec_l01In_t _ (l0.length : Int) 1 2 _ h9) ?_
    rintro _ w ⟨rfl, hG⟩ a hk
    have hs := hs.call0 hG
    refine sv (.bool (!y8)) hk rfl rfl rfl fun a hk => ?_
    show wpList _ _ _ [] _ _
    refine wpList_nil ?_
    refine hK7 _ _ ?_
    rcases cond_some H with ⟨c10, H⟩ | ⟨c10, H⟩
    · have hk := hk.lit 10 c10 rfl
      refine cnd_true hk rfl rfl ?_
      apply wp_seq_k; intro K11 hK11
      apply wp_region_lit
      refine sa _ rfl hk rfl rfl rfl fun a hk => ?_
      show wpList _ _ _ [] _ _
      refine wpList_nil ?_
      refine hK11 _ _ ?_
      refine wp_ret ?_
      obtain rfl := Option.some.inj H
      exact fin hk _ [(.bool false)] rfl ⟨rfl, trivial⟩ ⟨rfl, (hs.pick [] rfl).dnil⟩
    · have hk := hk.lit 10 c10 rfl
      refine cnd_false hk rfl rfl ?_
      refine wp_skip ?_
      refine hK6 _ _ ?_
      apply wp_seq_k; intro K12 hK12
      apply wp_seq_k; intro K13 hK13
      apply wp_region_lit
      refine sa _ rfl hk rfl rfl rfl fun a hk => ?_
      show wpList _ _ _ [] _ _
      refine wpList_nil ?_
      refine hK13 _ _ ?_
      obtain ⟨o15, h16, HL17⟩ := bind_some H
      clear H
      obtain ⟨R18, hR18⟩ : ∃ R : Act → World → Prop, R = fun a w => o15 = .out () ∧ Kn [] 23 a ∧ Sat [] w0 w [(1, k0_)] [] := ⟨_, rfl⟩
      refine wp_cutq R18 ?_ ?_
      · refine wp_block ?_
        obtain ⟨fu20, h16⟩ := loopO_some h16
        obtain ⟨I19, hI19⟩ : ∃ I : Nat → Act → World → Prop, I = fun fu a w => ∃ (u14 : Int), loopN (fun s => spec_BatchOK.s0 l0 s) fu u14 = some o15 ∧ Kn [(0, (.slice A0_ l0.length p0_)), (3, (.int .i64 u14))] 23 a ∧ Sat [] w0 w [(1, k0_)] [] := ⟨_, rfl⟩
        refine wp_loop_ghost I19 fu20 ?_ ?_
        · rw [hI19]
          exact ⟨0, h16, (hk.c 0 rfl (hk.c 3 rfl hk.k)), (hs.pick [] rfl)⟩
        · clear h16 hk hs
          intro fu20 a w hI0
          rw [hI19] at hI0
          obtain ⟨u14, hi, hk, hs⟩ := hI0
          obtain ⟨x21, H, h22⟩ := loop_round hi
          try dsimp only at H
          unfold spec_BatchOK.s0 at H
          apply wp_seq_k; intro K23 hK23
          apply wp_seq_k; intro K24 hK24
          apply wp_region_lit
          refine sm _ rfl hk rfl rfl rfl fun a hk => ?_
          refine sm _ rfl hk rfl rfl rfl fun a hk => ?_
          refine sle rfl hk rfl rfl rfl un48 fun a hk => ?_
          refine sv (.bool (decide (u14 < (l0.length : Int)))) hk rfl rfl rfl fun a hk => ?_
          show wpList _ _ _ [] _ _
          refine wpList_nil ?_
          refine hK24 _ _ ?_
          rcases cond_some H with ⟨c25, H⟩ | ⟨c25, H⟩
          · have hk := hk.lit 14 c25 rfl
            refine cnd_true hk rfl rfl ?_
            refine wp_skip ?_
            refine hK23 _ _ ?_
            apply wp_seq_k; intro K26 hK26
            refine wp_block ?_
            apply wp_seq_k; intro K27 hK27
            apply wp_region_lit
            refine sm _ rfl hk rfl rfl rfl fun a hk => ?_
            refine sm _ rfl hk rfl rfl rfl fun a hk => ?_
            rcases ite_some H with ⟨c28, H⟩ | ⟨_, H⟩
            rotate_left
            · cases H
            obtain ⟨b29, q30, hAc28⟩ := (v0_).some_ u14 c28.1 c28.2
            refine si rfl hk rfl rfl rfl rfl un48 sz92 c28.1 c28.2 hAc28 fun a hk => ?_
            obtain ⟨_, ⟨_, rfl, A32, p33, rfl, v34⟩, e31⟩ := (v0_).at_ z_Txn u14 c28.1 c28.2
            refine sln [.slice A32 ((l0.getD u14.toNat z_Txn).Ops).length p33] rfl hk rfl rfl rfl ag92 sz92 (cells_at e31 (hs.hasD (k := 1) rfl)) fun a hk => ?_
            obtain ⟨y35, h36, H⟩ := bind_some H
            refine sc rfl en99 hk rfl rfl rfl (spec_l09Txn_t _ (l0.getD u14.toNat z_Txn) A32 p33 _ v34 (hs.hasD (k := 1) rfl) _ h36) ?_
            rintro _ w ⟨rfl, hG⟩ a hk
            have hs := hs.call0 hG
            refine sv (.bool (!y35)) hk rfl rfl rfl fun a hk => ?_
            show wpList _ _ _ [] _ _
            refine wpList_nil ?_
            refine hK27 _ _ ?_
            rcases cond_some H with ⟨c37, H⟩ | ⟨c37, H⟩
            · have hk := hk.lit 22 c37 rfl
              refine cnd_true hk rfl rfl ?_
              apply wp_seq_k; intro K38 hK38
              apply wp_region_lit
              refine sa _ rfl hk rfl rfl rfl fun a hk => ?_
              show wpList _ _ _ [] _ _
              refine wpList_nil ?_
              refine hK38 _ _ ?_
              refine wp_ret ?_
              obtain rfl := Option.some.inj H
              have ho15 := h22
              try dsimp only at ho15
              subst ho15
              have H := HL17
              try dsimp only at H
              obtain rfl := Option.some.inj H
              exact fin hk _ [(.bool false)] rfl ⟨rfl, trivial⟩ ⟨rfl, (hs.pick [] rfl).dnil⟩
            · have hk := hk.lit 22 c37 rfl
              refine cnd_false hk rfl rfl ?_
              refine wp_skip ?_
              refine hK26 _ _ ?_
              apply wp_region_lit
              refine sm _ rfl hk rfl rfl rfl fun a hk => ?_
              refine sv (.int .i64 (w64 (u14 + 1))) hk rfl rfl rfl fun a hk => ?_
              refine sa _ rfl hk rfl rfl rfl fun a hk => ?_
              show wpList _ _ _ [] _ _
              refine wpList_nil ?_
              obtain rfl := Option.some.inj H
              obtain ⟨m39, hmm39, h22⟩ := h22
              show ∃ n', n' < _ ∧ I19 n' _ _
              refine ⟨m39, hmm39, ?_⟩
              rw [hI19]
              exact ⟨(w64 (u14 + 1)), h22, (hk.c 0 rfl (hk.c 3 rfl hk.k)), (hs.pick [] rfl)⟩
          · have hk := hk.lit 14 c25 rfl
            refine cnd_false hk rfl rfl ?_
            refine wp_exit ?_
            obtain rfl := Option.some.inj H
            show R18 _ _
            rw [hR18]
            exact ⟨h22.symm, hk.k, (hs.pick [] rfl)⟩
      · intro a w hR0
        rw [hR18] at hR0
        obtain ⟨rfl, hk, hs⟩ := hR0
        have H := HL17
        try dsimp only at H
        refine hK12 _ _ ?_
        apply wp_seq_k; intro K40 hK40
        apply wp_region_lit
        refine sa _ rfl hk rfl rfl rfl fun a hk => ?_
        show wpList _ _ _ [] _ _
        refine wpList_nil ?_
        refine hK40 _ _ ?_
        refine wp_ret ?_
        obtain rfl := Option.some.inj H
        exact fin hk _ [(.bool true)] rfl ⟨rfl, trivial⟩ ⟨rfl, (hs.pick [] rfl).dnil⟩

noncomputable def spec_l08Leaves.s0 (l0 : List Int) (u4 : Int) : Option ((Int) ⊕ Ex (Unit) (Bool)) :=
  (bif (decide (u4 < (l0.length : Int))) then (if 0 ≤ u4 ∧ u4 < (l0.length : Int) then ((spec_l01In.f (l0.getD u4.toNat 0) 0 7).bind fun y22 => (bif (!y22) then (some (.inr (.ret false))) else (some (.inl (w64 (u4 + 1)))))) else none) else (some (.inr (.out ()))))
noncomputable def spec_l08Leaves.f (l0 : List Int) : Option (Bool) :=
  ((loopO (fun s => spec_l08Leaves.s0 l0 s) 0).bind fun o => match o with | .out _ => (some true) | .ret r => (some r))
set_option maxRecDepth 100000 in
set_option maxHeartbeats 0 in
theorem spec_l08Leaves_t (w0 : World) (A0_ : Option Addr) (p0_ : Nat) (l0 : List Int) (k0_ : Chunk) (v0_ : View (Lay.int .i64) A0_ p0_ l0 k0_) (w0_ : Has w0 k0_) (r : Bool) (H : spec_l08Leaves.f l0 = some r) :
    Calls Try.prog 100 #[.slice A0_ l0.length p0_] w0 (Ret (fun v w => v = .bool r ∧ Sat [] w0 w [] [])) := by
  have hs : Sat [] w0 w0 [(1, k0_)] [] := Sat.init w0 [(1, k0_)] [] (by simp only [List.mem_cons, List.not_mem_nil, or_false]; rintro x (rfl) <;> assumption) (by simp) List.nodup_nil (by simp [blks])
  unfold spec_l08Leaves.f at H
  refine enter Try.func100 rfl Try.ntmps100 rfl fun a hk => ?_
  apply wp_seq_k; intro K1 hK1
  apply wp_region_lit
  refine sa _ rfl hk rfl rfl rfl fun a hk => ?_
  show wpList _ _ _ [] _ _
  refine wpList_nil ?_
  refine hK1 _ _ ?_
  apply wp_seq_k; intro K2 hK2
  apply wp_seq_k; intro K3 hK3
  apply wp_region_lit
  refine sa _ rfl hk rfl rfl rfl fun a hk => ?_
  show wpList _ _ _ [] _ _
  refine wpList_nil ?_
  refine hK3 _ _ ?_
  obtain ⟨o5, h6, HL7⟩ := bind_some H
  clear H
  obtain ⟨R8, hR8⟩ : ∃ R : Act → World → Prop, R = fun a w => o5 = .out () ∧ Kn [] 16 a ∧ Sat [] w0 w [(1, k0_)] [] := ⟨_, rfl⟩
  refine wp_cutq R8 ?_ ?_
  · refine wp_block ?_
    obtain ⟨fu10, h6⟩ := loopO_some h6
    obtain ⟨I9, hI9⟩ : ∃ I : Nat → Act → World → Prop, I = fun fu a w => ∃ (u4 : Int), loopN (fun s => spec_l08Leaves.s0 l0 s) fu u4 = some o5 ∧ Kn [(0, (.slice A0_ l0.length p0_)), (3, (.int .i64 u4))] 16 a ∧ Sat [] w0 w [(1, k0_)] [] := ⟨_, rfl⟩
    refine wp_loop_ghost I9 fu10 ?_ ?_
    · rw [hI9]
      exact ⟨0, h6, (hk.c 0 rfl (hk.c 3 rfl hk.k)), (hs.pick [] rfl)⟩
    · clear h6 hk hs
      intro fu10 a w hI0
      rw [hI9] at hI0
      obtain ⟨u4, hi, hk, hs⟩ := hI0
      obtain ⟨x11, H, h12⟩ := loop_round hi
      try dsimp only at H
      unfold spec_l08Leaves.s0 at H
      apply wp_seq_k; intro K13 hK13
      apply wp_seq_k; intro K14 hK14
      apply wp_region_lit
      refine sm _ rfl hk rfl rfl rfl fun a hk => ?_
      refine sm _ rfl hk rfl rfl rfl fun a hk => ?_
      refine sle rfl hk rfl rfl rfl un43 fun a hk => ?_
      refine sv (.bool (decide (u4 < (l0.length : Int)))) hk rfl rfl rfl fun a hk => ?_
      show wpList _ _ _ [] _ _
      refine wpList_nil ?_
      refine hK14 _ _ ?_
      rcases cond_some H with ⟨c15, H⟩ | ⟨c15, H⟩
      · have hk := hk.lit 7 c15 rfl
        refine cnd_true hk rfl rfl ?_
        refine wp_skip ?_
        refine hK13 _ _ ?_
        apply wp_seq_k; intro K16 hK16
        refine wp_block ?_
        apply wp_seq_k; intro K17 hK17
        apply wp_region_lit
        refine sm _ rfl hk rfl rfl rfl fun a hk => ?_
        refine sm _ rfl hk rfl rfl rfl fun a hk => ?_
        rcases ite_some H with ⟨c18, H⟩ | ⟨_, H⟩
        rotate_left
        · cases H
        obtain ⟨b19, q20, hAc18⟩ := (v0_).some_ u4 c18.1 c18.2
        refine si rfl hk rfl rfl rfl rfl un43 sz3 c18.1 c18.2 hAc18 fun a hk => ?_
        obtain ⟨_, rfl, e21⟩ := (v0_).at_ 0 u4 c18.1 c18.2
        refine sl (v := (.int .i64 (l0.getD u4.toNat 0))) rfl hk rfl rfl rfl ag3 ((e21 0 _ rfl).cell (hs.hasD (k := 1) rfl)) fun a hk => ?_
        obtain ⟨y22, h23, H⟩ := bind_some H
        refine sc rfl en53 hk rfl rfl rfl (spec_l01In_t _ (l0.getD u4.toNat 0) 0 7 _ h23) ?_
        rintro _ w ⟨rfl, hG⟩ a hk
        have hs := hs.call0 hG
        refine sv (.bool (!y22)) hk rfl rfl rfl fun a hk => ?_
        show wpList _ _ _ [] _ _
        refine wpList_nil ?_
        refine hK17 _ _ ?_
        rcases cond_some H with ⟨c24, H⟩ | ⟨c24, H⟩
        · have hk := hk.lit 15 c24 rfl
          refine cnd_true hk rfl rfl ?_
          apply wp_seq_k; intro K25 hK25
          apply wp_region_lit
          refine sa _ rfl hk rfl rfl rfl fun a hk => ?_
          show wpList _ _ _ [] _ _
          refine wpList_nil ?_
          refine hK25 _ _ ?_
          refine wp_ret ?_
          obtain rfl := Option.some.inj H
          have ho5 := h12
          try dsimp only at ho5
          subst ho5
          have H := HL7
          try dsimp only at H
          obtain rfl := Option.some.inj H
          exact fin hk _ [(.bool false)] rfl ⟨rfl, trivial⟩ ⟨rfl, (hs.pick [] rfl).dnil⟩
        · have hk := hk.lit 15 c24 rfl
          refine cnd_false hk rfl rfl ?_
          refine wp_skip ?_
          refine hK16 _ _ ?_
          apply wp_region_lit
          refine sm _ rfl hk rfl rfl rfl fun a hk => ?_
          refine sv (.int .i64 (w64 (u4 + 1))) hk rfl rfl rfl fun a hk => ?_
          refine sa _ rfl hk rfl rfl rfl fun a hk => ?_
          show wpList _ _ _ [] _ _
          refine wpList_nil ?_
          obtain rfl := Option.some.inj H
          obtain ⟨m26, hmm26, h12⟩ := h12
          show ∃ n', n' < _ ∧ I9 n' _ _
          refine ⟨m26, hmm26, ?_⟩
          rw [hI9]
          exact ⟨(w64 (u4 + 1)), h12, (hk.c 0 rfl (hk.c 3 rfl hk.k)), (hs.pick [] rfl)⟩
      · have hk := hk.lit 7 c15 rfl
        refine cnd_false hk rfl rfl ?_
        refine wp_exit ?_
        obtain rfl := Option.some.inj H
        show R8 _ _
        rw [hR8]
        exact ⟨h12.symm, hk.k, (hs.pick [] rfl)⟩
  · intro a w hR0
    rw [hR8] at hR0
    obtain ⟨rfl, hk, hs⟩ := hR0
    have H := HL7
    try dsimp only at H
    refine hK2 _ _ ?_
    apply wp_seq_k; intro K27 hK27
    apply wp_region_lit
    refine sa _ rfl hk rfl rfl rfl fun a hk => ?_
    show wpList _ _ _ [] _ _
    refine wpList_nil ?_
    refine hK27 _ _ ?_
    refine wp_ret ?_
    obtain rfl := Option.some.inj H
    exact fin hk _ [(.bool true)] rfl ⟨rfl, trivial⟩ ⟨rfl, (hs.pick [] rfl).dnil⟩

noncomputable def spec_l11Draws.f (l0 : List Int) (x1 : Int) : Option (Int) :=
  (bif (decide ((l0.length : Int) > 4096)) then (some 2) else (bif ((l0.length : Int) != x1) then (some 13) else ((spec_l08Leaves.f l0).bind fun y10 => (bif (!y10) then (some 4) else (some 0)))))
set_option maxRecDepth 100000 in
set_option maxHeartbeats 0 in
theorem spec_l11Draws_t (w0 : World) (A0_ : Option Addr) (p0_ : Nat) (l0 : List Int) (k0_ : Chunk) (v0_ : View (Lay.int .i64) A0_ p0_ l0 k0_) (w0_ : Has w0 k0_) (x1 : Int) (r : Int) (H : spec_l11Draws.f l0 x1 = some r) :
    Calls Try.prog 55 #[.slice A0_ l0.length p0_, .int .i64 x1] w0 (Ret (fun v w => v = .int .i64 r ∧ Sat [] w0 w [] [])) := by
  have hs : Sat [] w0 w0 [(1, k0_)] [] := Sat.init w0 [(1, k0_)] [] (by simp only [List.mem_cons, List.not_mem_nil, or_false]; rintro x (rfl) <;> assumption) (by simp) List.nodup_nil (by simp [blks])
  unfold spec_l11Draws.f at H
  refine enter Try.func55 rfl Try.ntmps55 rfl fun a hk => ?_
  apply wp_seq_k; intro K1 hK1
  apply wp_region_lit
  refine sa _ rfl hk rfl rfl rfl fun a hk => ?_
  show wpList _ _ _ [] _ _
  refine wpList_nil ?_
  refine hK1 _ _ ?_
  apply wp_seq_k; intro K2 hK2
  refine wp_block ?_
  apply wp_seq_k; intro K3 hK3
  apply wp_region_lit
  refine sm _ rfl hk rfl rfl rfl fun a hk => ?_
  refine sle rfl hk rfl rfl rfl un43 fun a hk => ?_
  refine sv (.bool (decide ((l0.length : Int) > 4096))) hk rfl rfl rfl fun a hk => ?_
  refine sa _ rfl hk rfl rfl rfl fun a hk => ?_
  show wpList _ _ _ [] _ _
  refine wpList_nil ?_
  refine hK3 _ _ ?_
  rcases cond_some H with ⟨c4, H⟩ | ⟨c4, H⟩
  · have hk := hk.lit 5 c4 rfl
    refine cnd_true hk rfl rfl ?_
    apply wp_seq_k; intro K5 hK5
    apply wp_region_lit
    refine sa _ rfl hk rfl rfl rfl fun a hk => ?_
    show wpList _ _ _ [] _ _
    refine wpList_nil ?_
    refine hK5 _ _ ?_
    refine wp_ret ?_
    obtain rfl := Option.some.inj H
    exact fin hk _ [(.int .i64 2)] rfl ⟨rfl, trivial⟩ ⟨rfl, (hs.pick [] rfl).dnil⟩
  · have hk := hk.lit 5 c4 rfl
    refine cnd_false hk rfl rfl ?_
    apply wp_seq_k; intro K6 hK6
    apply wp_region_lit
    refine sm _ rfl hk rfl rfl rfl fun a hk => ?_
    refine sle rfl hk rfl rfl rfl un43 fun a hk => ?_
    refine sm _ rfl hk rfl rfl rfl fun a hk => ?_
    refine sv (.bool ((l0.length : Int) != x1)) hk rfl rfl rfl fun a hk => ?_
    refine sa _ rfl hk rfl rfl rfl fun a hk => ?_
    show wpList _ _ _ [] _ _
    refine wpList_nil ?_
    refine hK6 _ _ ?_
    rcases cond_some H with ⟨c7, H⟩ | ⟨c7, H⟩
    · have hk := hk.lit 9 c7 rfl
      refine cnd_true hk rfl rfl ?_
      apply wp_seq_k; intro K8 hK8
      apply wp_region_lit
      refine sa _ rfl hk rfl rfl rfl fun a hk => ?_
      show wpList _ _ _ [] _ _
      refine wpList_nil ?_
      refine hK8 _ _ ?_
      refine wp_ret ?_
      obtain rfl := Option.some.inj H
      exact fin hk _ [(.int .i64 13)] rfl ⟨rfl, trivial⟩ ⟨rfl, (hs.pick [] rfl).dnil⟩
    · have hk := hk.lit 9 c7 rfl
      refine cnd_false hk rfl rfl ?_
      apply wp_seq_k; intro K9 hK9
      apply wp_region_lit
      refine sm _ rfl hk rfl rfl rfl fun a hk => ?_
      obtain ⟨y10, h11, H⟩ := bind_some H
      refine sc rfl en100 hk rfl rfl rfl (spec_l08Leaves_t _ A0_ p0_ l0 _ v0_ (hs.hasD (k := 1) rfl) _ h11) ?_
      rintro _ w ⟨rfl, hG⟩ a hk
      have hs := hs.call0 hG
      refine sv (.bool (!y10)) hk rfl rfl rfl fun a hk => ?_
      refine sa _ rfl hk rfl rfl rfl fun a hk => ?_
      show wpList _ _ _ [] _ _
      refine wpList_nil ?_
      refine hK9 _ _ ?_
      rcases cond_some H with ⟨c12, H⟩ | ⟨c12, H⟩
      · have hk := hk.lit 14 c12 rfl
        refine cnd_true hk rfl rfl ?_
        apply wp_seq_k; intro K13 hK13
        apply wp_region_lit
        refine sa _ rfl hk rfl rfl rfl fun a hk => ?_
        show wpList _ _ _ [] _ _
        refine wpList_nil ?_
        refine hK13 _ _ ?_
        refine wp_ret ?_
        obtain rfl := Option.some.inj H
        exact fin hk _ [(.int .i64 4)] rfl ⟨rfl, trivial⟩ ⟨rfl, (hs.pick [] rfl).dnil⟩
      · have hk := hk.lit 14 c12 rfl
        refine cnd_false hk rfl rfl ?_
        refine wp_skip ?_
        refine hK2 _ _ ?_
        apply wp_seq_k; intro K14 hK14
        apply wp_region_lit
        refine sa _ rfl hk rfl rfl rfl fun a hk => ?_
        show wpList _ _ _ [] _ _
        refine wpList_nil ?_
        refine hK14 _ _ ?_
        refine wp_ret ?_
        obtain rfl := Option.some.inj H
        exact fin hk _ [(.int .i64 0)] rfl ⟨rfl, trivial⟩ ⟨rfl, (hs.pick [] rfl).dnil⟩

noncomputable def spec_l05Fates.s0 (l0 : List Int) (u4 : Int) : Option ((Int) ⊕ Ex (Unit) (Bool)) :=
  (bif (decide (u4 < (l0.length : Int))) then (if 0 ≤ u4 ∧ u4 < (l0.length : Int) then ((spec_l01In.f (l0.getD u4.toNat 0) 0 2).bind fun y22 => (bif (!y22) then (some (.inr (.ret false))) else (some (.inl (w64 (u4 + 1)))))) else none) else (some (.inr (.out ()))))
noncomputable def spec_l05Fates.f (l0 : List Int) : Option (Bool) :=
  ((loopO (fun s => spec_l05Fates.s0 l0 s) 0).bind fun o => match o with | .out _ => (some true) | .ret r => (some r))
set_option maxRecDepth 100000 in
set_option maxHeartbeats 0 in
theorem spec_l05Fates_t (w0 : World) (A0_ : Option Addr) (p0_ : Nat) (l0 : List Int) (k0_ : Chunk) (v0_ : View (Lay.int .i64) A0_ p0_ l0 k0_) (w0_ : Has w0 k0_) (r : Bool) (H : spec_l05Fates.f l0 = some r) :
    Calls Try.prog 56 #[.slice A0_ l0.length p0_] w0 (Ret (fun v w => v = .bool r ∧ Sat [] w0 w [] [])) := by
  have hs : Sat [] w0 w0 [(1, k0_)] [] := Sat.init w0 [(1, k0_)] [] (by simp only [List.mem_cons, List.not_mem_nil, or_false]; rintro x (rfl) <;> assumption) (by simp) List.nodup_nil (by simp [blks])
  unfold spec_l05Fates.f at H
  refine enter Try.func56 rfl Try.ntmps56 rfl fun a hk => ?_
  apply wp_seq_k; intro K1 hK1
  apply wp_region_lit
  refine sa _ rfl hk rfl rfl rfl fun a hk => ?_
  show wpList _ _ _ [] _ _
  refine wpList_nil ?_
  refine hK1 _ _ ?_
  apply wp_seq_k; intro K2 hK2
  apply wp_seq_k; intro K3 hK3
  apply wp_region_lit
  refine sa _ rfl hk rfl rfl rfl fun a hk => ?_
  show wpList _ _ _ [] _ _
  refine wpList_nil ?_
  refine hK3 _ _ ?_
  obtain ⟨o5, h6, HL7⟩ := bind_some H
  clear H
  obtain ⟨R8, hR8⟩ : ∃ R : Act → World → Prop, R = fun a w => o5 = .out () ∧ Kn [] 16 a ∧ Sat [] w0 w [(1, k0_)] [] := ⟨_, rfl⟩
  refine wp_cutq R8 ?_ ?_
  · refine wp_block ?_
    obtain ⟨fu10, h6⟩ := loopO_some h6
    obtain ⟨I9, hI9⟩ : ∃ I : Nat → Act → World → Prop, I = fun fu a w => ∃ (u4 : Int), loopN (fun s => spec_l05Fates.s0 l0 s) fu u4 = some o5 ∧ Kn [(0, (.slice A0_ l0.length p0_)), (3, (.int .i64 u4))] 16 a ∧ Sat [] w0 w [(1, k0_)] [] := ⟨_, rfl⟩
    refine wp_loop_ghost I9 fu10 ?_ ?_
    · rw [hI9]
      exact ⟨0, h6, (hk.c 0 rfl (hk.c 3 rfl hk.k)), (hs.pick [] rfl)⟩
    · clear h6 hk hs
      intro fu10 a w hI0
      rw [hI9] at hI0
      obtain ⟨u4, hi, hk, hs⟩ := hI0
      obtain ⟨x11, H, h12⟩ := loop_round hi
      try dsimp only at H
      unfold spec_l05Fates.s0 at H
      apply wp_seq_k; intro K13 hK13
      apply wp_seq_k; intro K14 hK14
      apply wp_region_lit
      refine sm _ rfl hk rfl rfl rfl fun a hk => ?_
      refine sm _ rfl hk rfl rfl rfl fun a hk => ?_
      refine sle rfl hk rfl rfl rfl un43 fun a hk => ?_
      refine sv (.bool (decide (u4 < (l0.length : Int)))) hk rfl rfl rfl fun a hk => ?_
      show wpList _ _ _ [] _ _
      refine wpList_nil ?_
      refine hK14 _ _ ?_
      rcases cond_some H with ⟨c15, H⟩ | ⟨c15, H⟩
      · have hk := hk.lit 7 c15 rfl
        refine cnd_true hk rfl rfl ?_
        refine wp_skip ?_
        refine hK13 _ _ ?_
        apply wp_seq_k; intro K16 hK16
        refine wp_block ?_
        apply wp_seq_k; intro K17 hK17
        apply wp_region_lit
        refine sm _ rfl hk rfl rfl rfl fun a hk => ?_
        refine sm _ rfl hk rfl rfl rfl fun a hk => ?_
        rcases ite_some H with ⟨c18, H⟩ | ⟨_, H⟩
        rotate_left
        · cases H
        obtain ⟨b19, q20, hAc18⟩ := (v0_).some_ u4 c18.1 c18.2
        refine si rfl hk rfl rfl rfl rfl un43 sz3 c18.1 c18.2 hAc18 fun a hk => ?_
        obtain ⟨_, rfl, e21⟩ := (v0_).at_ 0 u4 c18.1 c18.2
        refine sl (v := (.int .i64 (l0.getD u4.toNat 0))) rfl hk rfl rfl rfl ag3 ((e21 0 _ rfl).cell (hs.hasD (k := 1) rfl)) fun a hk => ?_
        obtain ⟨y22, h23, H⟩ := bind_some H
        refine sc rfl en53 hk rfl rfl rfl (spec_l01In_t _ (l0.getD u4.toNat 0) 0 2 _ h23) ?_
        rintro _ w ⟨rfl, hG⟩ a hk
        have hs := hs.call0 hG
        refine sv (.bool (!y22)) hk rfl rfl rfl fun a hk => ?_
        show wpList _ _ _ [] _ _
        refine wpList_nil ?_
        refine hK17 _ _ ?_
        rcases cond_some H with ⟨c24, H⟩ | ⟨c24, H⟩
        · have hk := hk.lit 15 c24 rfl
          refine cnd_true hk rfl rfl ?_
          apply wp_seq_k; intro K25 hK25
          apply wp_region_lit
          refine sa _ rfl hk rfl rfl rfl fun a hk => ?_
          show wpList _ _ _ [] _ _
          refine wpList_nil ?_
          refine hK25 _ _ ?_
          refine wp_ret ?_
          obtain rfl := Option.some.inj H
          have ho5 := h12
          try dsimp only at ho5
          subst ho5
          have H := HL7
          try dsimp only at H
          obtain rfl := Option.some.inj H
          exact fin hk _ [(.bool false)] rfl ⟨rfl, trivial⟩ ⟨rfl, (hs.pick [] rfl).dnil⟩
        · have hk := hk.lit 15 c24 rfl
          refine cnd_false hk rfl rfl ?_
          refine wp_skip ?_
          refine hK16 _ _ ?_
          apply wp_region_lit
          refine sm _ rfl hk rfl rfl rfl fun a hk => ?_
          refine sv (.int .i64 (w64 (u4 + 1))) hk rfl rfl rfl fun a hk => ?_
          refine sa _ rfl hk rfl rfl rfl fun a hk => ?_
          show wpList _ _ _ [] _ _
          refine wpList_nil ?_
          obtain rfl := Option.some.inj H
          obtain ⟨m26, hmm26, h12⟩ := h12
          show ∃ n', n' < _ ∧ I9 n' _ _
          refine ⟨m26, hmm26, ?_⟩
          rw [hI9]
          exact ⟨(w64 (u4 + 1)), h12, (hk.c 0 rfl (hk.c 3 rfl hk.k)), (hs.pick [] rfl)⟩
      · have hk := hk.lit 7 c15 rfl
        refine cnd_false hk rfl rfl ?_
        refine wp_exit ?_
        obtain rfl := Option.some.inj H
        show R8 _ _
        rw [hR8]
        exact ⟨h12.symm, hk.k, (hs.pick [] rfl)⟩
  · intro a w hR0
    rw [hR8] at hR0
    obtain ⟨rfl, hk, hs⟩ := hR0
    have H := HL7
    try dsimp only at H
    refine hK2 _ _ ?_
    apply wp_seq_k; intro K27 hK27
    apply wp_region_lit
    refine sa _ rfl hk rfl rfl rfl fun a hk => ?_
    show wpList _ _ _ [] _ _
    refine wpList_nil ?_
    refine hK27 _ _ ?_
    refine wp_ret ?_
    obtain rfl := Option.some.inj H
    exact fin hk _ [(.bool true)] rfl ⟨rfl, trivial⟩ ⟨rfl, (hs.pick [] rfl).dnil⟩

noncomputable def spec_ActOK.f (x0 : S_Act) : Option (Bool) :=
  (((bif (x0.Kind == 1) then (some true) else (some (x0.Kind == 6))) : Option (Bool)).bind fun u4 => (((bif (x0.Kind == 6) then (some true) else (some (x0.Kind == 7))) : Option (Bool)).bind fun u11 => ((((spec_l01In.f x0.Kind 1 10).bind fun y24 => (bif (!y24) then (some true) else (bif u4 then ((spec_BatchOK.f x0.Batch).bind fun y28 => (bif (!y28) then (some true) else ((spec_l11Draws.f x0.Draws 40).bind fun y31 => (bif (y31 != 0) then (some true) else (bif (!u4) then (some (decide ((w64 ((x0.Batch.length : Int) + (x0.Draws.length : Int))) > 0))) else (some false)))))) else (bif (!u4) then (some (decide ((w64 ((x0.Batch.length : Int) + (x0.Draws.length : Int))) > 0))) else (some false))))) : Option (Bool)).bind fun u19 => (bif u19 then (some false) else (((bif u11 then ((spec_l01In.f x0.Phase 0 2).bind fun y46 => (bif (!y46) then (some true) else ((spec_l05Fates.f x0.Fates).bind fun y49 => (bif (!y49) then (some true) else (bif (decide ((x0.Fates.length : Int) > 100)) then (some true) else (bif (!u11) then (bif (x0.Phase != 0) then (some true) else (some (decide ((x0.Fates.length : Int) > 0)))) else (some false))))))) else (bif (!u11) then (bif (x0.Phase != 0) then (some true) else (some (decide ((x0.Fates.length : Int) > 0)))) else (some false))) : Option (Bool)).bind fun u40 => (bif u40 then (some false) else (bif (x0.Kind == 8) then ((((spec_l05In.f x0.At).bind fun y68 => (bif y68 then ((spec_l01In.f x0.Place 0 699).bind fun y71 => (bif y71 then ((spec_l01In.f x0.By 1 255).bind fun y74 => (some y74)) else (some false))) else (some false))) : Option (Bool)).bind fun u63 => (some u63)) else (((bif (x0.At == 0) then (bif (x0.Place == 0) then (some (x0.By == 0)) else (some false)) else (some false)) : Option (Bool)).bind fun u77 => (some u77)))))))))
set_option maxRecDepth 100000 in
set_option maxHeartbeats 0 in
theorem spec_ActOK_t (w0 : World) (x0 : S_Act) (A0_0 : Option Addr) (p0_0 : Nat) (k0_0 : Chunk) (v0_0 : View L_impl_Txn A0_0 p0_0 x0.Batch k0_0) (w0_0 : Has w0 k0_0) (A0_1 : Option Addr) (p0_1 : Nat) (k0_1 : Chunk) (v0_1 : View (Lay.int .i64) A0_1 p0_1 x0.Draws k0_1) (w0_1 : Has w0 k0_1) (A0_2 : Option Addr) (p0_2 : Nat) (k0_2 : Chunk) (v0_2 : View (Lay.int .i64) A0_2 p0_2 x0.Fates k0_2) (w0_2 : Has w0 k0_2) (r : Bool) (H : spec_ActOK.f x0 = some r) :
    Calls Try.prog 19 #[.agg #[.int .i64 x0.Kind, .int .i64 x0.Phase, .int .i64 x0.At, .int .i64 x0.Place, .int .i64 x0.By, .slice A0_0 x0.Batch.length p0_0, .slice A0_1 x0.Draws.length p0_1, .slice A0_2 x0.Fates.length p0_2]] w0 (Ret (fun v w => v = .bool r ∧ Sat [] w0 w [] [])) := by
  have hs : Sat [] w0 w0 [(1, k0_0), (2, k0_1), (3, k0_2)] [] := Sat.init w0 [(1, k0_0), (2, k0_1), (3, k0_2)] [] (by simp only [List.mem_cons, List.not_mem_nil, or_false]; rintro x (rfl | rfl | rfl) <;> assumption) (by simp) List.nodup_nil (by simp [blks])
  unfold spec_ActOK.f at H
  refine enter Try.func19 rfl Try.ntmps19 rfl fun a hk => ?_
  apply wp_seq_k; intro K1 hK1
  apply wp_region_lit
  refine sbx 4 hs rfl hk rfl rfl rfl rfl fun b2 w a hk hs => ?_
  refine sa _ rfl hk rfl rfl rfl fun a hk => ?_
  show wpList _ _ _ [] _ _
  refine wpList_nil ?_
  refine hK1 _ _ ?_
  apply wp_seq_k; intro K3 hK3
  obtain ⟨o5, h6, HL7⟩ := bind_some H
  clear H
  obtain ⟨R8, hR8⟩ : ∃ R : Act → World → Prop, R = fun a w => ∃ (u4 : Bool), u4 = o5 ∧ Kn [(1, (.pointer (some ⟨b2, 0, none⟩))), (3, (.bool u4))] 117 a ∧ Sat [] w0 w [(1, k0_0), (2, k0_1), (3, k0_2)] [(4, [(b2, .cells #[.int .i64 x0.Kind, .int .i64 x0.Phase, .int .i64 x0.At, .int .i64 x0.Place, .int .i64 x0.By, .slice A0_0 x0.Batch.length p0_0, .slice A0_1 x0.Draws.length p0_1, .slice A0_2 x0.Fates.length p0_2] 50 (0, 0))])] := ⟨_, rfl⟩
  refine wp_cutq R8 ?_ ?_
  · have H := h6
    apply wp_region_lit
    refine sf ⟨b2, 0, none⟩ rfl hk rfl rfl rfl fd50_0 rfl fun a hk => ?_
    refine sl rfl hk rfl rfl rfl ag3 (box_cell hs (k := 4) rfl rfl) fun a hk => ?_
    refine sv (.bool (x0.Kind == 1)) hk rfl rfl rfl fun a hk => ?_
    refine sm _ rfl hk rfl rfl rfl fun a hk => ?_
    rcases cond_some H with ⟨c9, H⟩ | ⟨c9, H⟩
    · have hk := hk.lit 8 c9 rfl
      refine sk hk rfl rfl rfl fun a hk => ?_
      refine sk hk rfl rfl rfl fun a hk => ?_
      refine sk hk rfl rfl rfl fun a hk => ?_
      refine sv (.bool true) hk rfl rfl rfl fun a hk => ?_
      refine sa _ rfl hk rfl rfl rfl fun a hk => ?_
      show wpList _ _ _ [] _ _
      refine wpList_nil ?_
      obtain rfl := Option.some.inj H
      show R8 _ _
      rw [hR8]
      exact ⟨true, rfl, (hk.c 1 rfl (hk.c 3 rfl hk.k)), (hs.pick [(4, 4)] rfl)⟩
    · have hk := hk.lit 8 c9 rfl
      refine sf ⟨b2, 0, none⟩ rfl hk rfl rfl rfl fd50_0 rfl fun a hk => ?_
      refine sl rfl hk rfl rfl rfl ag3 (box_cell hs (k := 4) rfl rfl) fun a hk => ?_
      refine sv (.bool (x0.Kind == 6)) hk rfl rfl rfl fun a hk => ?_
      refine sv (.bool (x0.Kind == 6)) hk rfl rfl rfl fun a hk => ?_
      refine sa _ rfl hk rfl rfl rfl fun a hk => ?_
      show wpList _ _ _ [] _ _
      refine wpList_nil ?_
      obtain rfl := Option.some.inj H
      show R8 _ _
      rw [hR8]
      exact ⟨(x0.Kind == 6), rfl, (hk.c 1 rfl (hk.c 3 rfl hk.k)), (hs.pick [(4, 4)] rfl)⟩
  · intro a w hR0
    rw [hR8] at hR0
    obtain ⟨u4, rfl, hk, hs⟩ := hR0
    have H := HL7
    try dsimp only at H
    refine hK3 _ _ ?_
    apply wp_seq_k; intro K10 hK10
    obtain ⟨o12, h13, HL14⟩ := bind_some H
    clear H
    obtain ⟨R15, hR15⟩ : ∃ R : Act → World → Prop, R = fun a w => ∃ (u11 : Bool), u11 = o12 ∧ Kn [(1, (.pointer (some ⟨b2, 0, none⟩))), (3, (.bool u4)), (4, (.bool u11))] 117 a ∧ Sat [] w0 w [(1, k0_0), (2, k0_1), (3, k0_2)] [(4, [(b2, .cells #[.int .i64 x0.Kind, .int .i64 x0.Phase, .int .i64 x0.At, .int .i64 x0.Place, .int .i64 x0.By, .slice A0_0 x0.Batch.length p0_0, .slice A0_1 x0.Draws.length p0_1, .slice A0_2 x0.Fates.length p0_2] 50 (0, 0))])] := ⟨_, rfl⟩
    refine wp_cutq R15 ?_ ?_
    · have H := h13
      apply wp_region_lit
      refine sf ⟨b2, 0, none⟩ rfl hk rfl rfl rfl fd50_0 rfl fun a hk => ?_
      refine sl rfl hk rfl rfl rfl ag3 (box_cell hs (k := 4) rfl rfl) fun a hk => ?_
      refine sv (.bool (x0.Kind == 6)) hk rfl rfl rfl fun a hk => ?_
      refine sm _ rfl hk rfl rfl rfl fun a hk => ?_
      rcases cond_some H with ⟨c16, H⟩ | ⟨c16, H⟩
      · have hk := hk.lit 16 c16 rfl
        refine sk hk rfl rfl rfl fun a hk => ?_
        refine sk hk rfl rfl rfl fun a hk => ?_
        refine sk hk rfl rfl rfl fun a hk => ?_
        refine sv (.bool true) hk rfl rfl rfl fun a hk => ?_
        refine sa _ rfl hk rfl rfl rfl fun a hk => ?_
        show wpList _ _ _ [] _ _
        refine wpList_nil ?_
        obtain rfl := Option.some.inj H
        show R15 _ _
        rw [hR15]
        exact ⟨true, rfl, (hk.c 1 rfl (hk.c 3 rfl (hk.c 4 rfl hk.k))), (hs.pick [(4, 4)] rfl)⟩
      · have hk := hk.lit 16 c16 rfl
        refine sf ⟨b2, 0, none⟩ rfl hk rfl rfl rfl fd50_0 rfl fun a hk => ?_
        refine sl rfl hk rfl rfl rfl ag3 (box_cell hs (k := 4) rfl rfl) fun a hk => ?_
        refine sv (.bool (x0.Kind == 7)) hk rfl rfl rfl fun a hk => ?_
        refine sv (.bool (x0.Kind == 7)) hk rfl rfl rfl fun a hk => ?_
        refine sa _ rfl hk rfl rfl rfl fun a hk => ?_
        show wpList _ _ _ [] _ _
        refine wpList_nil ?_
        obtain rfl := Option.some.inj H
        show R15 _ _
        rw [hR15]
        exact ⟨(x0.Kind == 7), rfl, (hk.c 1 rfl (hk.c 3 rfl (hk.c 4 rfl hk.k))), (hs.pick [(4, 4)] rfl)⟩
    · intro a w hR0
      rw [hR15] at hR0
      obtain ⟨u11, rfl, hk, hs⟩ := hR0
      have H := HL14
      try dsimp only at H
      refine hK10 _ _ ?_
      apply wp_seq_k; intro K17 hK17
      apply wp_seq_k; intro K18 hK18
      obtain ⟨o20, h21, HL22⟩ := bind_some H
      clear H
      obtain ⟨R23, hR23⟩ : ∃ R : Act → World → Prop, R = fun a w => ∃ (u19 : Bool), u19 = o20 ∧ Kn [(1, (.pointer (some ⟨b2, 0, none⟩))), (4, (.bool u11)), (53, (.bool u19))] 117 a ∧ Sat [] w0 w [(1, k0_0), (2, k0_1), (3, k0_2)] [(4, [(b2, .cells #[.int .i64 x0.Kind, .int .i64 x0.Phase, .int .i64 x0.At, .int .i64 x0.Place, .int .i64 x0.By, .slice A0_0 x0.Batch.length p0_0, .slice A0_1 x0.Draws.length p0_1, .slice A0_2 x0.Fates.length p0_2] 50 (0, 0))])] := ⟨_, rfl⟩
      refine wp_cutq R23 ?_ ?_
      · have H := h21
        apply wp_region_lit
        refine sf ⟨b2, 0, none⟩ rfl hk rfl rfl rfl fd50_0 rfl fun a hk => ?_
        refine sl rfl hk rfl rfl rfl ag3 (box_cell hs (k := 4) rfl rfl) fun a hk => ?_
        obtain ⟨y24, h25, H⟩ := bind_some H
        refine sc rfl en53 hk rfl rfl rfl (spec_l01In_t _ x0.Kind 1 10 _ h25) ?_
        rintro _ w ⟨rfl, hG⟩ a hk
        have hs := hs.call0 hG
        refine sv (.bool (!y24)) hk rfl rfl rfl fun a hk => ?_
        refine sm _ rfl hk rfl rfl rfl fun a hk => ?_
        rcases cond_some H with ⟨c26, H⟩ | ⟨c26, H⟩
        · have hk := hk.lit 25 c26 rfl
          refine sk hk rfl rfl rfl fun a hk => ?_
          refine sk hk rfl rfl rfl fun a hk => ?_
          refine sk hk rfl rfl rfl fun a hk => ?_
          refine sk hk rfl rfl rfl fun a hk => ?_
          refine sk hk rfl rfl rfl fun a hk => ?_
          refine sk hk rfl rfl rfl fun a hk => ?_
          refine sk hk rfl rfl rfl fun a hk => ?_
          refine sk hk rfl rfl rfl fun a hk => ?_
          refine sk hk rfl rfl rfl fun a hk => ?_
          refine sk hk rfl rfl rfl fun a hk => ?_
          refine sk hk rfl rfl rfl fun a hk => ?_
          refine sk hk rfl rfl rfl fun a hk => ?_
          refine sk hk rfl rfl rfl fun a hk => ?_
          refine sv (.bool true) hk rfl rfl rfl fun a hk => ?_
          refine sm _ rfl hk rfl rfl rfl fun a hk => ?_
          refine sk hk rfl rfl rfl fun a hk => ?_
          refine sk hk rfl rfl rfl fun a hk => ?_
          refine sk hk rfl rfl rfl fun a hk => ?_
          refine sk hk rfl rfl rfl fun a hk => ?_
          refine sk hk rfl rfl rfl fun a hk => ?_
          refine sk hk rfl rfl rfl fun a hk => ?_
          refine sk hk rfl rfl rfl fun a hk => ?_
          refine sk hk rfl rfl rfl fun a hk => ?_
          refine sk hk rfl rfl rfl fun a hk => ?_
          refine sk hk rfl rfl rfl fun a hk => ?_
          refine sk hk rfl rfl rfl fun a hk => ?_
          refine sk hk rfl rfl rfl fun a hk => ?_
          refine sv (.bool true) hk rfl rfl rfl fun a hk => ?_
          show wpList _ _ _ [] _ _
          refine wpList_nil ?_
          obtain rfl := Option.some.inj H
          show R23 _ _
          rw [hR23]
          exact ⟨true, rfl, (hk.c 1 rfl (hk.c 4 rfl (hk.c 53 rfl hk.k))), (hs.pick [(4, 4)] rfl)⟩
        · have hk := hk.lit 25 c26 rfl
          refine sm _ rfl hk rfl rfl rfl fun a hk => ?_
          refine sm _ rfl hk rfl rfl rfl fun a hk => ?_
          rcases cond_some H with ⟨c27, H⟩ | ⟨c27, H⟩
          · have hk := hk.lit 27 c27 rfl
            refine sf ⟨b2, 5, none⟩ rfl hk rfl rfl rfl fd50_5 rfl fun a hk => ?_
            refine sl rfl hk rfl rfl rfl ag48 (box_cell hs (k := 4) rfl rfl) fun a hk => ?_
            obtain ⟨y28, h29, H⟩ := bind_some H
            refine sc rfl en54 hk rfl rfl rfl (spec_BatchOK_t _ A0_0 p0_0 x0.Batch _ v0_0 (hs.hasD (k := 1) rfl) _ h29) ?_
            rintro _ w ⟨rfl, hG⟩ a hk
            have hs := hs.call0 hG
            refine sv (.bool (!y28)) hk rfl rfl rfl fun a hk => ?_
            refine sm _ rfl hk rfl rfl rfl fun a hk => ?_
            rcases cond_some H with ⟨c30, H⟩ | ⟨c30, H⟩
            · have hk := hk.lit 32 c30 rfl
              refine sk hk rfl rfl rfl fun a hk => ?_
              refine sk hk rfl rfl rfl fun a hk => ?_
              refine sk hk rfl rfl rfl fun a hk => ?_
              refine sk hk rfl rfl rfl fun a hk => ?_
              refine sv (.bool true) hk rfl rfl rfl fun a hk => ?_
              refine sv (.bool true) hk rfl rfl rfl fun a hk => ?_
              refine sv (.bool true) hk rfl rfl rfl fun a hk => ?_
              refine sm _ rfl hk rfl rfl rfl fun a hk => ?_
              refine sk hk rfl rfl rfl fun a hk => ?_
              refine sk hk rfl rfl rfl fun a hk => ?_
              refine sk hk rfl rfl rfl fun a hk => ?_
              refine sk hk rfl rfl rfl fun a hk => ?_
              refine sk hk rfl rfl rfl fun a hk => ?_
              refine sk hk rfl rfl rfl fun a hk => ?_
              refine sk hk rfl rfl rfl fun a hk => ?_
              refine sk hk rfl rfl rfl fun a hk => ?_
              refine sk hk rfl rfl rfl fun a hk => ?_
              refine sk hk rfl rfl rfl fun a hk => ?_
              refine sk hk rfl rfl rfl fun a hk => ?_
              refine sk hk rfl rfl rfl fun a hk => ?_
              refine sv (.bool true) hk rfl rfl rfl fun a hk => ?_
              show wpList _ _ _ [] _ _
              refine wpList_nil ?_
              obtain rfl := Option.some.inj H
              show R23 _ _
              rw [hR23]
              exact ⟨true, rfl, (hk.c 1 rfl (hk.c 4 rfl (hk.c 53 rfl hk.k))), (hs.pick [(4, 4)] rfl)⟩
            · have hk := hk.lit 32 c30 rfl
              refine sf ⟨b2, 6, none⟩ rfl hk rfl rfl rfl fd50_6 rfl fun a hk => ?_
              refine sl rfl hk rfl rfl rfl ag43 (box_cell hs (k := 4) rfl rfl) fun a hk => ?_
              obtain ⟨y31, h32, H⟩ := bind_some H
              refine sc rfl en55 hk rfl rfl rfl (spec_l11Draws_t _ A0_1 p0_1 x0.Draws _ v0_1 (hs.hasD (k := 2) rfl) 40 _ h32) ?_
              rintro _ w ⟨rfl, hG⟩ a hk
              have hs := hs.call0 hG
              refine sv (.bool (y31 != 0)) hk rfl rfl rfl fun a hk => ?_
              refine sv (.bool (y31 != 0)) hk rfl rfl rfl fun a hk => ?_
              refine sv (.bool (y31 != 0)) hk rfl rfl rfl fun a hk => ?_
              refine sv (.bool (y31 != 0)) hk rfl rfl rfl fun a hk => ?_
              refine sm _ rfl hk rfl rfl rfl fun a hk => ?_
              rcases cond_some H with ⟨c33, H⟩ | ⟨c33, H⟩
              · have hk := hk.lit 40 c33 rfl
                refine sk hk rfl rfl rfl fun a hk => ?_
                refine sk hk rfl rfl rfl fun a hk => ?_
                refine sk hk rfl rfl rfl fun a hk => ?_
                refine sk hk rfl rfl rfl fun a hk => ?_
                refine sk hk rfl rfl rfl fun a hk => ?_
                refine sk hk rfl rfl rfl fun a hk => ?_
                refine sk hk rfl rfl rfl fun a hk => ?_
                refine sk hk rfl rfl rfl fun a hk => ?_
                refine sk hk rfl rfl rfl fun a hk => ?_
                refine sk hk rfl rfl rfl fun a hk => ?_
                refine sk hk rfl rfl rfl fun a hk => ?_
                refine sk hk rfl rfl rfl fun a hk => ?_
                refine sv (.bool true) hk rfl rfl rfl fun a hk => ?_
                show wpList _ _ _ [] _ _
                refine wpList_nil ?_
                obtain rfl := Option.some.inj H
                show R23 _ _
                rw [hR23]
                exact ⟨true, rfl, (hk.c 1 rfl (hk.c 4 rfl (hk.c 53 rfl hk.k))), (hs.pick [(4, 4)] rfl)⟩
              · have hk := hk.lit 40 c33 rfl
                refine sm _ rfl hk rfl rfl rfl fun a hk => ?_
                refine sv (.bool (!u4)) hk rfl rfl rfl fun a hk => ?_
                refine sm _ rfl hk rfl rfl rfl fun a hk => ?_
                rcases cond_some H with ⟨c34, H⟩ | ⟨c34, H⟩
                · have hk := hk.lit 43 c34 rfl
                  refine sf ⟨b2, 5, none⟩ rfl hk rfl rfl rfl fd50_5 rfl fun a hk => ?_
                  refine sl rfl hk rfl rfl rfl ag48 (box_cell hs (k := 4) rfl rfl) fun a hk => ?_
                  refine sle rfl hk rfl rfl rfl un48 fun a hk => ?_
                  refine sf ⟨b2, 6, none⟩ rfl hk rfl rfl rfl fd50_6 rfl fun a hk => ?_
                  refine sl rfl hk rfl rfl rfl ag43 (box_cell hs (k := 4) rfl rfl) fun a hk => ?_
                  refine sle rfl hk rfl rfl rfl un43 fun a hk => ?_
                  refine sv (.int .i64 (w64 ((x0.Batch.length : Int) + (x0.Draws.length : Int)))) hk rfl rfl rfl fun a hk => ?_
                  refine sv (.bool (decide ((w64 ((x0.Batch.length : Int) + (x0.Draws.length : Int))) > 0))) hk rfl rfl rfl fun a hk => ?_
                  refine sv (.bool (decide ((w64 ((x0.Batch.length : Int) + (x0.Draws.length : Int))) > 0))) hk rfl rfl rfl fun a hk => ?_
                  refine sv (.bool (decide ((w64 ((x0.Batch.length : Int) + (x0.Draws.length : Int))) > 0))) hk rfl rfl rfl fun a hk => ?_
                  show wpList _ _ _ [] _ _
                  refine wpList_nil ?_
                  obtain rfl := Option.some.inj H
                  show R23 _ _
                  rw [hR23]
                  exact ⟨(decide ((w64 ((x0.Batch.length : Int) + (x0.Draws.length : Int))) > 0)), rfl, (hk.c 1 rfl (hk.c 4 rfl (hk.c 53 rfl hk.k))), (hs.pick [(4, 4)] rfl)⟩
                · have hk := hk.lit 43 c34 rfl
                  refine sk hk rfl rfl rfl fun a hk => ?_
                  refine sk hk rfl rfl rfl fun a hk => ?_
                  refine sk hk rfl rfl rfl fun a hk => ?_
                  refine sk hk rfl rfl rfl fun a hk => ?_
                  refine sk hk rfl rfl rfl fun a hk => ?_
                  refine sk hk rfl rfl rfl fun a hk => ?_
                  refine sk hk rfl rfl rfl fun a hk => ?_
                  refine sk hk rfl rfl rfl fun a hk => ?_
                  refine sv (.bool false) hk rfl rfl rfl fun a hk => ?_
                  refine sv (.bool false) hk rfl rfl rfl fun a hk => ?_
                  show wpList _ _ _ [] _ _
                  refine wpList_nil ?_
                  obtain rfl := Option.some.inj H
                  show R23 _ _
                  rw [hR23]
                  exact ⟨false, rfl, (hk.c 1 rfl (hk.c 4 rfl (hk.c 53 rfl hk.k))), (hs.pick [(4, 4)] rfl)⟩
          · have hk := hk.lit 27 c27 rfl
            refine sk hk rfl rfl rfl fun a hk => ?_
            refine sk hk rfl rfl rfl fun a hk => ?_
            refine sk hk rfl rfl rfl fun a hk => ?_
            refine sk hk rfl rfl rfl fun a hk => ?_
            refine sk hk rfl rfl rfl fun a hk => ?_
            refine sk hk rfl rfl rfl fun a hk => ?_
            refine sk hk rfl rfl rfl fun a hk => ?_
            refine sk hk rfl rfl rfl fun a hk => ?_
            refine sk hk rfl rfl rfl fun a hk => ?_
            refine sk hk rfl rfl rfl fun a hk => ?_
            refine sv (.bool false) hk rfl rfl rfl fun a hk => ?_
            refine sv (.bool false) hk rfl rfl rfl fun a hk => ?_
            refine sm _ rfl hk rfl rfl rfl fun a hk => ?_
            refine sm _ rfl hk rfl rfl rfl fun a hk => ?_
            refine sv (.bool (!u4)) hk rfl rfl rfl fun a hk => ?_
            refine sm _ rfl hk rfl rfl rfl fun a hk => ?_
            rcases cond_some H with ⟨c35, H⟩ | ⟨c35, H⟩
            · have hk := hk.lit 43 c35 rfl
              refine sf ⟨b2, 5, none⟩ rfl hk rfl rfl rfl fd50_5 rfl fun a hk => ?_
              refine sl rfl hk rfl rfl rfl ag48 (box_cell hs (k := 4) rfl rfl) fun a hk => ?_
              refine sle rfl hk rfl rfl rfl un48 fun a hk => ?_
              refine sf ⟨b2, 6, none⟩ rfl hk rfl rfl rfl fd50_6 rfl fun a hk => ?_
              refine sl rfl hk rfl rfl rfl ag43 (box_cell hs (k := 4) rfl rfl) fun a hk => ?_
              refine sle rfl hk rfl rfl rfl un43 fun a hk => ?_
              refine sv (.int .i64 (w64 ((x0.Batch.length : Int) + (x0.Draws.length : Int)))) hk rfl rfl rfl fun a hk => ?_
              refine sv (.bool (decide ((w64 ((x0.Batch.length : Int) + (x0.Draws.length : Int))) > 0))) hk rfl rfl rfl fun a hk => ?_
              refine sv (.bool (decide ((w64 ((x0.Batch.length : Int) + (x0.Draws.length : Int))) > 0))) hk rfl rfl rfl fun a hk => ?_
              refine sv (.bool (decide ((w64 ((x0.Batch.length : Int) + (x0.Draws.length : Int))) > 0))) hk rfl rfl rfl fun a hk => ?_
              show wpList _ _ _ [] _ _
              refine wpList_nil ?_
              obtain rfl := Option.some.inj H
              show R23 _ _
              rw [hR23]
              exact ⟨(decide ((w64 ((x0.Batch.length : Int) + (x0.Draws.length : Int))) > 0)), rfl, (hk.c 1 rfl (hk.c 4 rfl (hk.c 53 rfl hk.k))), (hs.pick [(4, 4)] rfl)⟩
            · have hk := hk.lit 43 c35 rfl
              refine sk hk rfl rfl rfl fun a hk => ?_
              refine sk hk rfl rfl rfl fun a hk => ?_
              refine sk hk rfl rfl rfl fun a hk => ?_
              refine sk hk rfl rfl rfl fun a hk => ?_
              refine sk hk rfl rfl rfl fun a hk => ?_
              refine sk hk rfl rfl rfl fun a hk => ?_
              refine sk hk rfl rfl rfl fun a hk => ?_
              refine sk hk rfl rfl rfl fun a hk => ?_
              refine sv (.bool false) hk rfl rfl rfl fun a hk => ?_
              refine sv (.bool false) hk rfl rfl rfl fun a hk => ?_
              show wpList _ _ _ [] _ _
              refine wpList_nil ?_
              obtain rfl := Option.some.inj H
              show R23 _ _
              rw [hR23]
              exact ⟨false, rfl, (hk.c 1 rfl (hk.c 4 rfl (hk.c 53 rfl hk.k))), (hs.pick [(4, 4)] rfl)⟩
      · intro a w hR0
        rw [hR23] at hR0
        obtain ⟨u19, rfl, hk, hs⟩ := hR0
        have H := HL22
        try dsimp only at H
        refine hK18 _ _ ?_
        rcases cond_some H with ⟨c36, H⟩ | ⟨c36, H⟩
        · have hk := hk.lit 53 c36 rfl
          refine cnd_true hk rfl rfl ?_
          apply wp_seq_k; intro K37 hK37
          apply wp_region_lit
          refine sa _ rfl hk rfl rfl rfl fun a hk => ?_
          show wpList _ _ _ [] _ _
          refine wpList_nil ?_
          refine hK37 _ _ ?_
          refine wp_ret ?_
          obtain rfl := Option.some.inj H
          exact fin hk _ [(.bool false)] rfl ⟨rfl, trivial⟩ ⟨rfl, (hs.pick [] rfl).dnil⟩
        · have hk := hk.lit 53 c36 rfl
          refine cnd_false hk rfl rfl ?_
          refine wp_skip ?_
          refine hK17 _ _ ?_
          apply wp_seq_k; intro K38 hK38
          apply wp_seq_k; intro K39 hK39
          obtain ⟨o41, h42, HL43⟩ := bind_some H
          clear H
          obtain ⟨R44, hR44⟩ : ∃ R : Act → World → Prop, R = fun a w => ∃ (u40 : Bool), u40 = o41 ∧ Kn [(1, (.pointer (some ⟨b2, 0, none⟩))), (87, (.bool u40))] 117 a ∧ Sat [] w0 w [(1, k0_0), (2, k0_1), (3, k0_2)] [(4, [(b2, .cells #[.int .i64 x0.Kind, .int .i64 x0.Phase, .int .i64 x0.At, .int .i64 x0.Place, .int .i64 x0.By, .slice A0_0 x0.Batch.length p0_0, .slice A0_1 x0.Draws.length p0_1, .slice A0_2 x0.Fates.length p0_2] 50 (0, 0))])] := ⟨_, rfl⟩
          refine wp_cutq R44 ?_ ?_
          · have H := h42
            apply wp_region_lit
            refine sm _ rfl hk rfl rfl rfl fun a hk => ?_
            refine sm _ rfl hk rfl rfl rfl fun a hk => ?_
            rcases cond_some H with ⟨c45, H⟩ | ⟨c45, H⟩
            · have hk := hk.lit 55 c45 rfl
              refine sf ⟨b2, 1, none⟩ rfl hk rfl rfl rfl fd50_1 rfl fun a hk => ?_
              refine sl rfl hk rfl rfl rfl ag3 (box_cell hs (k := 4) rfl rfl) fun a hk => ?_
              obtain ⟨y46, h47, H⟩ := bind_some H
              refine sc rfl en53 hk rfl rfl rfl (spec_l01In_t _ x0.Phase 0 2 _ h47) ?_
              rintro _ w ⟨rfl, hG⟩ a hk
              have hs := hs.call0 hG
              refine sv (.bool (!y46)) hk rfl rfl rfl fun a hk => ?_
              refine sm _ rfl hk rfl rfl rfl fun a hk => ?_
              rcases cond_some H with ⟨c48, H⟩ | ⟨c48, H⟩
              · have hk := hk.lit 60 c48 rfl
                refine sk hk rfl rfl rfl fun a hk => ?_
                refine sk hk rfl rfl rfl fun a hk => ?_
                refine sk hk rfl rfl rfl fun a hk => ?_
                refine sk hk rfl rfl rfl fun a hk => ?_
                refine sv (.bool true) hk rfl rfl rfl fun a hk => ?_
                refine sm _ rfl hk rfl rfl rfl fun a hk => ?_
                refine sk hk rfl rfl rfl fun a hk => ?_
                refine sk hk rfl rfl rfl fun a hk => ?_
                refine sk hk rfl rfl rfl fun a hk => ?_
                refine sk hk rfl rfl rfl fun a hk => ?_
                refine sv (.bool true) hk rfl rfl rfl fun a hk => ?_
                refine sv (.bool true) hk rfl rfl rfl fun a hk => ?_
                refine sm _ rfl hk rfl rfl rfl fun a hk => ?_
                refine sk hk rfl rfl rfl fun a hk => ?_
                refine sk hk rfl rfl rfl fun a hk => ?_
                refine sk hk rfl rfl rfl fun a hk => ?_
                refine sk hk rfl rfl rfl fun a hk => ?_
                refine sk hk rfl rfl rfl fun a hk => ?_
                refine sk hk rfl rfl rfl fun a hk => ?_
                refine sk hk rfl rfl rfl fun a hk => ?_
                refine sk hk rfl rfl rfl fun a hk => ?_
                refine sk hk rfl rfl rfl fun a hk => ?_
                refine sk hk rfl rfl rfl fun a hk => ?_
                refine sk hk rfl rfl rfl fun a hk => ?_
                refine sk hk rfl rfl rfl fun a hk => ?_
                refine sk hk rfl rfl rfl fun a hk => ?_
                refine sv (.bool true) hk rfl rfl rfl fun a hk => ?_
                show wpList _ _ _ [] _ _
                refine wpList_nil ?_
                obtain rfl := Option.some.inj H
                show R44 _ _
                rw [hR44]
                exact ⟨true, rfl, (hk.c 1 rfl (hk.c 87 rfl hk.k)), (hs.pick [(4, 4)] rfl)⟩
              · have hk := hk.lit 60 c48 rfl
                refine sf ⟨b2, 7, none⟩ rfl hk rfl rfl rfl fd50_7 rfl fun a hk => ?_
                refine sl rfl hk rfl rfl rfl ag43 (box_cell hs (k := 4) rfl rfl) fun a hk => ?_
                obtain ⟨y49, h50, H⟩ := bind_some H
                refine sc rfl en56 hk rfl rfl rfl (spec_l05Fates_t _ A0_2 p0_2 x0.Fates _ v0_2 (hs.hasD (k := 3) rfl) _ h50) ?_
                rintro _ w ⟨rfl, hG⟩ a hk
                have hs := hs.call0 hG
                refine sv (.bool (!y49)) hk rfl rfl rfl fun a hk => ?_
                refine sv (.bool (!y49)) hk rfl rfl rfl fun a hk => ?_
                refine sm _ rfl hk rfl rfl rfl fun a hk => ?_
                rcases cond_some H with ⟨c51, H⟩ | ⟨c51, H⟩
                · have hk := hk.lit 66 c51 rfl
                  refine sk hk rfl rfl rfl fun a hk => ?_
                  refine sk hk rfl rfl rfl fun a hk => ?_
                  refine sk hk rfl rfl rfl fun a hk => ?_
                  refine sk hk rfl rfl rfl fun a hk => ?_
                  refine sv (.bool true) hk rfl rfl rfl fun a hk => ?_
                  refine sv (.bool true) hk rfl rfl rfl fun a hk => ?_
                  refine sm _ rfl hk rfl rfl rfl fun a hk => ?_
                  refine sk hk rfl rfl rfl fun a hk => ?_
                  refine sk hk rfl rfl rfl fun a hk => ?_
                  refine sk hk rfl rfl rfl fun a hk => ?_
                  refine sk hk rfl rfl rfl fun a hk => ?_
                  refine sk hk rfl rfl rfl fun a hk => ?_
                  refine sk hk rfl rfl rfl fun a hk => ?_
                  refine sk hk rfl rfl rfl fun a hk => ?_
                  refine sk hk rfl rfl rfl fun a hk => ?_
                  refine sk hk rfl rfl rfl fun a hk => ?_
                  refine sk hk rfl rfl rfl fun a hk => ?_
                  refine sk hk rfl rfl rfl fun a hk => ?_
                  refine sk hk rfl rfl rfl fun a hk => ?_
                  refine sk hk rfl rfl rfl fun a hk => ?_
                  refine sv (.bool true) hk rfl rfl rfl fun a hk => ?_
                  show wpList _ _ _ [] _ _
                  refine wpList_nil ?_
                  obtain rfl := Option.some.inj H
                  show R44 _ _
                  rw [hR44]
                  exact ⟨true, rfl, (hk.c 1 rfl (hk.c 87 rfl hk.k)), (hs.pick [(4, 4)] rfl)⟩
                · have hk := hk.lit 66 c51 rfl
                  refine sf ⟨b2, 7, none⟩ rfl hk rfl rfl rfl fd50_7 rfl fun a hk => ?_
                  refine sl rfl hk rfl rfl rfl ag43 (box_cell hs (k := 4) rfl rfl) fun a hk => ?_
                  refine sle rfl hk rfl rfl rfl un43 fun a hk => ?_
                  refine sv (.bool (decide ((x0.Fates.length : Int) > 100))) hk rfl rfl rfl fun a hk => ?_
                  refine sv (.bool (decide ((x0.Fates.length : Int) > 100))) hk rfl rfl rfl fun a hk => ?_
                  refine sv (.bool (decide ((x0.Fates.length : Int) > 100))) hk rfl rfl rfl fun a hk => ?_
                  refine sm _ rfl hk rfl rfl rfl fun a hk => ?_
                  rcases cond_some H with ⟨c52, H⟩ | ⟨c52, H⟩
                  · have hk := hk.lit 73 c52 rfl
                    refine sk hk rfl rfl rfl fun a hk => ?_
                    refine sk hk rfl rfl rfl fun a hk => ?_
                    refine sk hk rfl rfl rfl fun a hk => ?_
                    refine sk hk rfl rfl rfl fun a hk => ?_
                    refine sk hk rfl rfl rfl fun a hk => ?_
                    refine sk hk rfl rfl rfl fun a hk => ?_
                    refine sk hk rfl rfl rfl fun a hk => ?_
                    refine sk hk rfl rfl rfl fun a hk => ?_
                    refine sk hk rfl rfl rfl fun a hk => ?_
                    refine sk hk rfl rfl rfl fun a hk => ?_
                    refine sk hk rfl rfl rfl fun a hk => ?_
                    refine sk hk rfl rfl rfl fun a hk => ?_
                    refine sk hk rfl rfl rfl fun a hk => ?_
                    refine sv (.bool true) hk rfl rfl rfl fun a hk => ?_
                    show wpList _ _ _ [] _ _
                    refine wpList_nil ?_
                    obtain rfl := Option.some.inj H
                    show R44 _ _
                    rw [hR44]
                    exact ⟨true, rfl, (hk.c 1 rfl (hk.c 87 rfl hk.k)), (hs.pick [(4, 4)] rfl)⟩
                  · have hk := hk.lit 73 c52 rfl
                    refine sm _ rfl hk rfl rfl rfl fun a hk => ?_
                    refine sv (.bool (!u11)) hk rfl rfl rfl fun a hk => ?_
                    refine sm _ rfl hk rfl rfl rfl fun a hk => ?_
                    rcases cond_some H with ⟨c53, H⟩ | ⟨c53, H⟩
                    · have hk := hk.lit 76 c53 rfl
                      refine sf ⟨b2, 1, none⟩ rfl hk rfl rfl rfl fd50_1 rfl fun a hk => ?_
                      refine sl rfl hk rfl rfl rfl ag3 (box_cell hs (k := 4) rfl rfl) fun a hk => ?_
                      refine sv (.bool (x0.Phase != 0)) hk rfl rfl rfl fun a hk => ?_
                      refine sm _ rfl hk rfl rfl rfl fun a hk => ?_
                      rcases cond_some H with ⟨c54, H⟩ | ⟨c54, H⟩
                      · have hk := hk.lit 80 c54 rfl
                        refine sk hk rfl rfl rfl fun a hk => ?_
                        refine sk hk rfl rfl rfl fun a hk => ?_
                        refine sk hk rfl rfl rfl fun a hk => ?_
                        refine sk hk rfl rfl rfl fun a hk => ?_
                        refine sv (.bool true) hk rfl rfl rfl fun a hk => ?_
                        refine sv (.bool true) hk rfl rfl rfl fun a hk => ?_
                        refine sv (.bool true) hk rfl rfl rfl fun a hk => ?_
                        show wpList _ _ _ [] _ _
                        refine wpList_nil ?_
                        obtain rfl := Option.some.inj H
                        show R44 _ _
                        rw [hR44]
                        exact ⟨true, rfl, (hk.c 1 rfl (hk.c 87 rfl hk.k)), (hs.pick [(4, 4)] rfl)⟩
                      · have hk := hk.lit 80 c54 rfl
                        refine sf ⟨b2, 7, none⟩ rfl hk rfl rfl rfl fd50_7 rfl fun a hk => ?_
                        refine sl rfl hk rfl rfl rfl ag43 (box_cell hs (k := 4) rfl rfl) fun a hk => ?_
                        refine sle rfl hk rfl rfl rfl un43 fun a hk => ?_
                        refine sv (.bool (decide ((x0.Fates.length : Int) > 0))) hk rfl rfl rfl fun a hk => ?_
                        refine sv (.bool (decide ((x0.Fates.length : Int) > 0))) hk rfl rfl rfl fun a hk => ?_
                        refine sv (.bool (decide ((x0.Fates.length : Int) > 0))) hk rfl rfl rfl fun a hk => ?_
                        refine sv (.bool (decide ((x0.Fates.length : Int) > 0))) hk rfl rfl rfl fun a hk => ?_
                        show wpList _ _ _ [] _ _
                        refine wpList_nil ?_
                        obtain rfl := Option.some.inj H
                        show R44 _ _
                        rw [hR44]
                        exact ⟨(decide ((x0.Fates.length : Int) > 0)), rfl, (hk.c 1 rfl (hk.c 87 rfl hk.k)), (hs.pick [(4, 4)] rfl)⟩
                    · have hk := hk.lit 76 c53 rfl
                      refine sk hk rfl rfl rfl fun a hk => ?_
                      refine sk hk rfl rfl rfl fun a hk => ?_
                      refine sk hk rfl rfl rfl fun a hk => ?_
                      refine sk hk rfl rfl rfl fun a hk => ?_
                      refine sk hk rfl rfl rfl fun a hk => ?_
                      refine sk hk rfl rfl rfl fun a hk => ?_
                      refine sk hk rfl rfl rfl fun a hk => ?_
                      refine sk hk rfl rfl rfl fun a hk => ?_
                      refine sk hk rfl rfl rfl fun a hk => ?_
                      refine sv (.bool false) hk rfl rfl rfl fun a hk => ?_
                      refine sv (.bool false) hk rfl rfl rfl fun a hk => ?_
                      show wpList _ _ _ [] _ _
                      refine wpList_nil ?_
                      obtain rfl := Option.some.inj H
                      show R44 _ _
                      rw [hR44]
                      exact ⟨false, rfl, (hk.c 1 rfl (hk.c 87 rfl hk.k)), (hs.pick [(4, 4)] rfl)⟩
            · have hk := hk.lit 55 c45 rfl
              refine sk hk rfl rfl rfl fun a hk => ?_
              refine sk hk rfl rfl rfl fun a hk => ?_
              refine sk hk rfl rfl rfl fun a hk => ?_
              refine sk hk rfl rfl rfl fun a hk => ?_
              refine sk hk rfl rfl rfl fun a hk => ?_
              refine sk hk rfl rfl rfl fun a hk => ?_
              refine sk hk rfl rfl rfl fun a hk => ?_
              refine sk hk rfl rfl rfl fun a hk => ?_
              refine sk hk rfl rfl rfl fun a hk => ?_
              refine sk hk rfl rfl rfl fun a hk => ?_
              refine sk hk rfl rfl rfl fun a hk => ?_
              refine sk hk rfl rfl rfl fun a hk => ?_
              refine sk hk rfl rfl rfl fun a hk => ?_
              refine sk hk rfl rfl rfl fun a hk => ?_
              refine sk hk rfl rfl rfl fun a hk => ?_
              refine sk hk rfl rfl rfl fun a hk => ?_
              refine sv (.bool false) hk rfl rfl rfl fun a hk => ?_
              refine sm _ rfl hk rfl rfl rfl fun a hk => ?_
              refine sm _ rfl hk rfl rfl rfl fun a hk => ?_
              refine sv (.bool (!u11)) hk rfl rfl rfl fun a hk => ?_
              refine sm _ rfl hk rfl rfl rfl fun a hk => ?_
              rcases cond_some H with ⟨c55, H⟩ | ⟨c55, H⟩
              · have hk := hk.lit 76 c55 rfl
                refine sf ⟨b2, 1, none⟩ rfl hk rfl rfl rfl fd50_1 rfl fun a hk => ?_
                refine sl rfl hk rfl rfl rfl ag3 (box_cell hs (k := 4) rfl rfl) fun a hk => ?_
                refine sv (.bool (x0.Phase != 0)) hk rfl rfl rfl fun a hk => ?_
                refine sm _ rfl hk rfl rfl rfl fun a hk => ?_
                rcases cond_some H with ⟨c56, H⟩ | ⟨c56, H⟩
                · have hk := hk.lit 80 c56 rfl
                  refine sk hk rfl rfl rfl fun a hk => ?_
                  refine sk hk rfl rfl rfl fun a hk => ?_
                  refine sk hk rfl rfl rfl fun a hk => ?_
                  refine sk hk rfl rfl rfl fun a hk => ?_
                  refine sv (.bool true) hk rfl rfl rfl fun a hk => ?_
                  refine sv (.bool true) hk rfl rfl rfl fun a hk => ?_
                  refine sv (.bool true) hk rfl rfl rfl fun a hk => ?_
                  show wpList _ _ _ [] _ _
                  refine wpList_nil ?_
                  obtain rfl := Option.some.inj H
                  show R44 _ _
                  rw [hR44]
                  exact ⟨true, rfl, (hk.c 1 rfl (hk.c 87 rfl hk.k)), (hs.pick [(4, 4)] rfl)⟩
                · have hk := hk.lit 80 c56 rfl
                  refine sf ⟨b2, 7, none⟩ rfl hk rfl rfl rfl fd50_7 rfl fun a hk => ?_
                  refine sl rfl hk rfl rfl rfl ag43 (box_cell hs (k := 4) rfl rfl) fun a hk => ?_
                  refine sle rfl hk rfl rfl rfl un43 fun a hk => ?_
                  refine sv (.bool (decide ((x0.Fates.length : Int) > 0))) hk rfl rfl rfl fun a hk => ?_
                  refine sv (.bool (decide ((x0.Fates.length : Int) > 0))) hk rfl rfl rfl fun a hk => ?_
                  refine sv (.bool (decide ((x0.Fates.length : Int) > 0))) hk rfl rfl rfl fun a hk => ?_
                  refine sv (.bool (decide ((x0.Fates.length : Int) > 0))) hk rfl rfl rfl fun a hk => ?_
                  show wpList _ _ _ [] _ _
                  refine wpList_nil ?_
                  obtain rfl := Option.some.inj H
                  show R44 _ _
                  rw [hR44]
                  exact ⟨(decide ((x0.Fates.length : Int) > 0)), rfl, (hk.c 1 rfl (hk.c 87 rfl hk.k)), (hs.pick [(4, 4)] rfl)⟩
              · have hk := hk.lit 76 c55 rfl
                refine sk hk rfl rfl rfl fun a hk => ?_
                refine sk hk rfl rfl rfl fun a hk => ?_
                refine sk hk rfl rfl rfl fun a hk => ?_
                refine sk hk rfl rfl rfl fun a hk => ?_
                refine sk hk rfl rfl rfl fun a hk => ?_
                refine sk hk rfl rfl rfl fun a hk => ?_
                refine sk hk rfl rfl rfl fun a hk => ?_
                refine sk hk rfl rfl rfl fun a hk => ?_
                refine sk hk rfl rfl rfl fun a hk => ?_
                refine sv (.bool false) hk rfl rfl rfl fun a hk => ?_
                refine sv (.bool false) hk rfl rfl rfl fun a hk => ?_
                show wpList _ _ _ [] _ _
                refine wpList_nil ?_
                obtain rfl := Option.some.inj H
                show R44 _ _
                rw [hR44]
                exact ⟨false, rfl, (hk.c 1 rfl (hk.c 87 rfl hk.k)), (hs.pick [(4, 4)] rfl)⟩
          · intro a w hR0
            rw [hR44] at hR0
            obtain ⟨u40, rfl, hk, hs⟩ := hR0
            have H := HL43
            try dsimp only at H
            refine hK39 _ _ ?_
            rcases cond_some H with ⟨c57, H⟩ | ⟨c57, H⟩
            · have hk := hk.lit 87 c57 rfl
              refine cnd_true hk rfl rfl ?_
              apply wp_seq_k; intro K58 hK58
              apply wp_region_lit
              refine sa _ rfl hk rfl rfl rfl fun a hk => ?_
              show wpList _ _ _ [] _ _
              refine wpList_nil ?_
              refine hK58 _ _ ?_
              refine wp_ret ?_
              obtain rfl := Option.some.inj H
              exact fin hk _ [(.bool false)] rfl ⟨rfl, trivial⟩ ⟨rfl, (hs.pick [] rfl).dnil⟩
            · have hk := hk.lit 87 c57 rfl
              refine cnd_false hk rfl rfl ?_
              refine wp_skip ?_
              refine hK38 _ _ ?_
              apply wp_seq_k; intro K59 hK59
              apply wp_seq_k; intro K60 hK60
              apply wp_region_lit
              refine sf ⟨b2, 0, none⟩ rfl hk rfl rfl rfl fd50_0 rfl fun a hk => ?_
              refine sl rfl hk rfl rfl rfl ag3 (box_cell hs (k := 4) rfl rfl) fun a hk => ?_
              refine sv (.bool (x0.Kind == 8)) hk rfl rfl rfl fun a hk => ?_
              show wpList _ _ _ [] _ _
              refine wpList_nil ?_
              refine hK60 _ _ ?_
              rcases cond_some H with ⟨c61, H⟩ | ⟨c61, H⟩
              · have hk := hk.lit 90 c61 rfl
                refine cnd_true hk rfl rfl ?_
                apply wp_seq_k; intro K62 hK62
                obtain ⟨o64, h65, HL66⟩ := bind_some H
                clear H
                obtain ⟨R67, hR67⟩ : ∃ R : Act → World → Prop, R = fun a w => ∃ (u63 : Bool), u63 = o64 ∧ Kn [(2, (.bool u63))] 117 a ∧ Sat [] w0 w [(1, k0_0), (2, k0_1), (3, k0_2)] [] := ⟨_, rfl⟩
                refine wp_cutq R67 ?_ ?_
                · have H := h65
                  apply wp_region_lit
                  refine sf ⟨b2, 2, none⟩ rfl hk rfl rfl rfl fd50_2 rfl fun a hk => ?_
                  refine sl rfl hk rfl rfl rfl ag3 (box_cell hs (k := 4) rfl rfl) fun a hk => ?_
                  obtain ⟨y68, h69, H⟩ := bind_some H
                  refine sc rfl en57 hk rfl rfl rfl (spec_l05In_t _ x0.At _ h69) ?_
                  rintro _ w ⟨rfl, hG⟩ a hk
                  have hs := hs.call0 hG
                  refine sm _ rfl hk rfl rfl rfl fun a hk => ?_
                  rcases cond_some H with ⟨c70, H⟩ | ⟨c70, H⟩
                  · have hk := hk.lit 94 c70 rfl
                    refine sf ⟨b2, 3, none⟩ rfl hk rfl rfl rfl fd50_3 rfl fun a hk => ?_
                    refine sl rfl hk rfl rfl rfl ag3 (box_cell hs (k := 4) rfl rfl) fun a hk => ?_
                    obtain ⟨y71, h72, H⟩ := bind_some H
                    refine sc rfl en53 hk rfl rfl rfl (spec_l01In_t _ x0.Place 0 699 _ h72) ?_
                    rintro _ w ⟨rfl, hG⟩ a hk
                    have hs := hs.call0 hG
                    refine sv (.bool y71) hk rfl rfl rfl fun a hk => ?_
                    refine sm _ rfl hk rfl rfl rfl fun a hk => ?_
                    rcases cond_some H with ⟨c73, H⟩ | ⟨c73, H⟩
                    · have hk := hk.lit 99 c73 rfl
                      refine sf ⟨b2, 4, none⟩ rfl hk rfl rfl rfl fd50_4 rfl fun a hk => ?_
                      refine sl rfl hk rfl rfl rfl ag3 (box_cell hs (k := 4) rfl rfl) fun a hk => ?_
                      obtain ⟨y74, h75, H⟩ := bind_some H
                      refine sc rfl en53 hk rfl rfl rfl (spec_l01In_t _ x0.By 1 255 _ h75) ?_
                      rintro _ w ⟨rfl, hG⟩ a hk
                      have hs := hs.call0 hG
                      refine sv (.bool y74) hk rfl rfl rfl fun a hk => ?_
                      refine sa _ rfl hk rfl rfl rfl fun a hk => ?_
                      show wpList _ _ _ [] _ _
                      refine wpList_nil ?_
                      obtain rfl := Option.some.inj H
                      show R67 _ _
                      rw [hR67]
                      exact ⟨y74, rfl, (hk.c 2 rfl hk.k), (hs.pick [] rfl)⟩
                    · have hk := hk.lit 99 c73 rfl
                      refine sk hk rfl rfl rfl fun a hk => ?_
                      refine sk hk rfl rfl rfl fun a hk => ?_
                      refine sk hk rfl rfl rfl fun a hk => ?_
                      refine sv (.bool false) hk rfl rfl rfl fun a hk => ?_
                      refine sa _ rfl hk rfl rfl rfl fun a hk => ?_
                      show wpList _ _ _ [] _ _
                      refine wpList_nil ?_
                      obtain rfl := Option.some.inj H
                      show R67 _ _
                      rw [hR67]
                      exact ⟨false, rfl, (hk.c 2 rfl hk.k), (hs.pick [] rfl)⟩
                  · have hk := hk.lit 94 c70 rfl
                    refine sk hk rfl rfl rfl fun a hk => ?_
                    refine sk hk rfl rfl rfl fun a hk => ?_
                    refine sk hk rfl rfl rfl fun a hk => ?_
                    refine sv (.bool false) hk rfl rfl rfl fun a hk => ?_
                    refine sm _ rfl hk rfl rfl rfl fun a hk => ?_
                    refine sk hk rfl rfl rfl fun a hk => ?_
                    refine sk hk rfl rfl rfl fun a hk => ?_
                    refine sk hk rfl rfl rfl fun a hk => ?_
                    refine sv (.bool false) hk rfl rfl rfl fun a hk => ?_
                    refine sa _ rfl hk rfl rfl rfl fun a hk => ?_
                    show wpList _ _ _ [] _ _
                    refine wpList_nil ?_
                    obtain rfl := Option.some.inj H
                    show R67 _ _
                    rw [hR67]
                    exact ⟨false, rfl, (hk.c 2 rfl hk.k), (hs.pick [] rfl)⟩
                · intro a w hR0
                  rw [hR67] at hR0
                  obtain ⟨u63, rfl, hk, hs⟩ := hR0
                  have H := HL66
                  try dsimp only at H
                  refine hK62 _ _ ?_
                  refine wp_ret ?_
                  obtain rfl := Option.some.inj H
                  exact fin hk _ [(.bool u63)] rfl ⟨rfl, trivial⟩ ⟨rfl, (hs.pick [] rfl).dnil⟩
              · have hk := hk.lit 90 c61 rfl
                refine cnd_false hk rfl rfl ?_
                refine wp_skip ?_
                refine hK59 _ _ ?_
                apply wp_seq_k; intro K76 hK76
                obtain ⟨o78, h79, HL80⟩ := bind_some H
                clear H
                obtain ⟨R81, hR81⟩ : ∃ R : Act → World → Prop, R = fun a w => ∃ (u77 : Bool), u77 = o78 ∧ Kn [(2, (.bool u77))] 117 a ∧ Sat [] w0 w [(1, k0_0), (2, k0_1), (3, k0_2)] [] := ⟨_, rfl⟩
                refine wp_cutq R81 ?_ ?_
                · have H := h79
                  apply wp_region_lit
                  refine sf ⟨b2, 2, none⟩ rfl hk rfl rfl rfl fd50_2 rfl fun a hk => ?_
                  refine sl rfl hk rfl rfl rfl ag3 (box_cell hs (k := 4) rfl rfl) fun a hk => ?_
                  refine sv (.bool (x0.At == 0)) hk rfl rfl rfl fun a hk => ?_
                  refine sm _ rfl hk rfl rfl rfl fun a hk => ?_
                  rcases cond_some H with ⟨c82, H⟩ | ⟨c82, H⟩
                  · have hk := hk.lit 107 c82 rfl
                    refine sf ⟨b2, 3, none⟩ rfl hk rfl rfl rfl fd50_3 rfl fun a hk => ?_
                    refine sl rfl hk rfl rfl rfl ag3 (box_cell hs (k := 4) rfl rfl) fun a hk => ?_
                    refine sv (.bool (x0.Place == 0)) hk rfl rfl rfl fun a hk => ?_
                    refine sv (.bool (x0.Place == 0)) hk rfl rfl rfl fun a hk => ?_
                    refine sm _ rfl hk rfl rfl rfl fun a hk => ?_
                    rcases cond_some H with ⟨c83, H⟩ | ⟨c83, H⟩
                    · have hk := hk.lit 112 c83 rfl
                      refine sf ⟨b2, 4, none⟩ rfl hk rfl rfl rfl fd50_4 rfl fun a hk => ?_
                      refine sl rfl hk rfl rfl rfl ag3 (box_cell hs (k := 4) rfl rfl) fun a hk => ?_
                      refine sv (.bool (x0.By == 0)) hk rfl rfl rfl fun a hk => ?_
                      refine sv (.bool (x0.By == 0)) hk rfl rfl rfl fun a hk => ?_
                      refine sa _ rfl hk rfl rfl rfl fun a hk => ?_
                      show wpList _ _ _ [] _ _
                      refine wpList_nil ?_
                      obtain rfl := Option.some.inj H
                      show R81 _ _
                      rw [hR81]
                      exact ⟨(x0.By == 0), rfl, (hk.c 2 rfl hk.k), (hs.pick [] rfl)⟩
                    · have hk := hk.lit 112 c83 rfl
                      refine sk hk rfl rfl rfl fun a hk => ?_
                      refine sk hk rfl rfl rfl fun a hk => ?_
                      refine sk hk rfl rfl rfl fun a hk => ?_
                      refine sv (.bool false) hk rfl rfl rfl fun a hk => ?_
                      refine sa _ rfl hk rfl rfl rfl fun a hk => ?_
                      show wpList _ _ _ [] _ _
                      refine wpList_nil ?_
                      obtain rfl := Option.some.inj H
                      show R81 _ _
                      rw [hR81]
                      exact ⟨false, rfl, (hk.c 2 rfl hk.k), (hs.pick [] rfl)⟩
                  · have hk := hk.lit 107 c82 rfl
                    refine sk hk rfl rfl rfl fun a hk => ?_
                    refine sk hk rfl rfl rfl fun a hk => ?_
                    refine sk hk rfl rfl rfl fun a hk => ?_
                    refine sv (.bool false) hk rfl rfl rfl fun a hk => ?_
                    refine sm _ rfl hk rfl rfl rfl fun a hk => ?_
                    refine sk hk rfl rfl rfl fun a hk => ?_
                    refine sk hk rfl rfl rfl fun a hk => ?_
                    refine sk hk rfl rfl rfl fun a hk => ?_
                    refine sv (.bool false) hk rfl rfl rfl fun a hk => ?_
                    refine sa _ rfl hk rfl rfl rfl fun a hk => ?_
                    show wpList _ _ _ [] _ _
                    refine wpList_nil ?_
                    obtain rfl := Option.some.inj H
                    show R81 _ _
                    rw [hR81]
                    exact ⟨false, rfl, (hk.c 2 rfl hk.k), (hs.pick [] rfl)⟩
                · intro a w hR0
                  rw [hR81] at hR0
                  obtain ⟨u77, rfl, hk, hs⟩ := hR0
                  have H := HL80
                  try dsimp only at H
                  refine hK76 _ _ ?_
                  refine wp_ret ?_
                  obtain rfl := Option.some.inj H
                  exact fin hk _ [(.bool u77)] rfl ⟨rfl, trivial⟩ ⟨rfl, (hs.pick [] rfl).dnil⟩

noncomputable def laws_toOp.f (x0 : S_Op) : Option (S_Op) :=
  (some (⟨x0.Kind, x0.Key, x0.Value⟩ : S_Op))
set_option maxRecDepth 100000 in
set_option maxHeartbeats 0 in
theorem laws_toOp_t (w0 : World) (x0 : S_Op) (r : S_Op) (H : laws_toOp.f x0 = some r) :
    Calls Try.prog 130 #[.agg #[.int .i64 x0.Kind, .int .i64 x0.Key, .int .i64 x0.Value]] w0 (Ret (fun v w => v = .agg #[.int .i64 r.Kind, .int .i64 r.Key, .int .i64 r.Value] ∧ Sat [] w0 w [] [])) := by
  have hs : Sat [] w0 w0 [] [] := Sat.init w0 [] [] (by simp) (by simp) List.nodup_nil (by simp [blks])
  unfold laws_toOp.f at H
  refine enter Try.func130 rfl Try.ntmps130 rfl fun a hk => ?_
  apply wp_seq_k; intro K1 hK1
  apply wp_region_lit
  refine sbx 1 hs rfl hk rfl rfl rfl rfl fun b2 w a hk hs => ?_
  refine salx 2 hs rfl hk rfl rfl ze120 rfl fun b3 w a hk hs => ?_
  show wpList _ _ _ [] _ _
  refine wpList_nil ?_
  refine hK1 _ _ ?_
  apply wp_seq_k; intro K4 hK4
  apply wp_region_lit
  refine salx 3 hs rfl hk rfl rfl ze120 rfl fun b5 w a hk hs => ?_
  show wpList _ _ _ [] _ _
  refine wpList_nil ?_
  refine hK4 _ _ ?_
  apply wp_seq_k; intro K6 hK6
  apply wp_region_lit
  refine sf ⟨b2, 0, none⟩ rfl hk rfl rfl rfl fd140_0 rfl fun a hk => ?_
  refine sl rfl hk rfl rfl rfl ag3 (box_cell hs (k := 1) rfl rfl) fun a hk => ?_
  refine sf ⟨b5, 0, none⟩ rfl hk rfl rfl rfl fd120_0 rfl fun a hk => ?_
  refine ssx (cs' := #[.int .i64 x0.Kind, .int .i64 0, .int .i64 0]) 3 hs rfl rfl hk rfl rfl rfl rfl sz3 rfl rfl rfl rfl fun w a hk hs => ?_
  show wpList _ _ _ [] _ _
  refine wpList_nil ?_
  refine hK6 _ _ ?_
  apply wp_seq_k; intro K7 hK7
  apply wp_region_lit
  refine sf ⟨b2, 1, none⟩ rfl hk rfl rfl rfl fd140_1 rfl fun a hk => ?_
  refine sl rfl hk rfl rfl rfl ag3 (box_cell hs (k := 1) rfl rfl) fun a hk => ?_
  refine sf ⟨b5, 1, none⟩ rfl hk rfl rfl rfl fd120_1 rfl fun a hk => ?_
  refine ssx (cs' := #[.int .i64 x0.Kind, .int .i64 x0.Key, .int .i64 0]) 3 hs rfl rfl hk rfl rfl rfl rfl sz3 rfl rfl rfl rfl fun w a hk hs => ?_
  show wpList _ _ _ [] _ _
  refine wpList_nil ?_
  refine hK7 _ _ ?_
  apply wp_seq_k; intro K8 hK8
  apply wp_region_lit
  refine sf ⟨b2, 2, none⟩ rfl hk rfl rfl rfl fd140_2 rfl fun a hk => ?_
  refine sl rfl hk rfl rfl rfl ag3 (box_cell hs (k := 1) rfl rfl) fun a hk => ?_
  refine sf ⟨b5, 2, none⟩ rfl hk rfl rfl rfl fd120_2 rfl fun a hk => ?_
  refine ssx (cs' := #[.int .i64 x0.Kind, .int .i64 x0.Key, .int .i64 x0.Value]) 3 hs rfl rfl hk rfl rfl rfl rfl sz3 rfl rfl rfl rfl fun w a hk hs => ?_
  show wpList _ _ _ [] _ _
  refine wpList_nil ?_
  refine hK8 _ _ ?_
  apply wp_seq_k; intro K9 hK9
  apply wp_region_lit
  refine sln [.int .i64 x0.Kind, .int .i64 x0.Key, .int .i64 x0.Value] rfl hk rfl rfl rfl ag120 sz120 (box_cells hs (k := 3) rfl) fun a hk => ?_
  refine ssw 2 hs rfl rfl hk rfl rfl rfl rfl sz120 (by simp [Value.oneCell']) rfl fun w a hk hs => ?_
  show wpList _ _ _ [] _ _
  refine wpList_nil ?_
  refine hK9 _ _ ?_
  refine wp_ret ?_
  obtain rfl := Option.some.inj H
  exact fin hk _ [(.agg #[.int .i64 x0.Kind, .int .i64 x0.Key, .int .i64 x0.Value])] rfl ⟨⟨_, rfl, run_loadN ag120 sz120 (box_cells hs (k := 2) rfl)⟩, trivial⟩ ⟨rfl, (hs.pick [] rfl).dnil⟩

noncomputable def laws_toOpS.s0 (l0 : List S_Op) (u10 : List S_Op) (u14 : Int) : Option (((List S_Op) × Int) ⊕ Ex ((List S_Op)) ((List S_Op))) :=
  (bif (decide (u14 < (l0.length : Int))) then (if 0 ≤ u14 ∧ u14 < (l0.length : Int) then ((laws_toOp.f (l0.getD u14.toNat z_Op)).bind fun y35 => (if 0 ≤ u14 ∧ u14 < ((((l0.length : Int)).toNat) : Int) then (some (.inl ((u10.set u14.toNat y35), (w64 (u14 + 1))))) else none)) else none) else (some (.inr (.out u10))))
noncomputable def laws_toOpS.f (l0 : List S_Op) : Option ((List S_Op)) :=
  (if 0 ≤ (l0.length : Int) ∧ (l0.length : Int) ≤ 1073741824 then ((loopO (fun s => laws_toOpS.s0 l0 s.1 s.2) ((List.replicate ((l0.length : Int)).toNat z_Op), 0)).bind fun o => match o with | .out u15 => (some u15) | .ret r => (some r)) else none)
set_option maxRecDepth 100000 in
set_option maxHeartbeats 0 in
theorem laws_toOpS_t (w0 : World) (A0_ : Option Addr) (p0_ : Nat) (l0 : List S_Op) (k0_ : Chunk) (v0_ : View L_Op A0_ p0_ l0 k0_) (w0_ : Has w0 k0_) (r : (List S_Op)) (H : laws_toOpS.f l0 = some r) :
    Calls Try.prog 106 #[.slice A0_ l0.length p0_] w0 (Ret (fun v w => ∃ (A0 : Option Addr) (p0 : Nat) (k0 : Chunk), v = .slice A0 r.length p0 ∧ Own L_Op 120 A0 p0 r k0 ∧ Sat [] w0 w [] [(0, k0)])) := by
  have hs : Sat [] w0 w0 [(1, k0_)] [] := Sat.init w0 [(1, k0_)] [] (by simp only [List.mem_cons, List.not_mem_nil, or_false]; rintro x (rfl) <;> assumption) (by simp) List.nodup_nil (by simp [blks])
  unfold laws_toOpS.f at H
  refine enter Try.func106 rfl Try.ntmps106 rfl fun a hk => ?_
  apply wp_seq_k; intro K1 hK1
  apply wp_region_lit
  refine sa _ rfl hk rfl rfl rfl fun a hk => ?_
  show wpList _ _ _ [] _ _
  refine wpList_nil ?_
  refine hK1 _ _ ?_
  apply wp_seq_k; intro K2 hK2
  apply wp_region_lit
  refine sm _ rfl hk rfl rfl rfl fun a hk => ?_
  refine sle rfl hk rfl rfl rfl un86 fun a hk => ?_
  rcases ite_some H with ⟨c3, H⟩ | ⟨_, H⟩
  rotate_left
  · cases H
  refine smk 2 L_Op hs rfl hk rfl rfl rfl rfl un90 mk120 lz120 rfl rfl c3.1 c3.2 fun b4 k5 w a hk o6 hs => ?_
  have lh7 : (List.replicate ((l0.length : Int)).toNat z_Op).length = ((l0.length : Int)).toNat := List.length_replicate
  refine sa _ rfl hk rfl rfl rfl fun a hk => ?_
  show wpList _ _ _ [] _ _
  refine wpList_nil ?_
  refine hK2 _ _ ?_
  apply wp_seq_k; intro K8 hK8
  apply wp_seq_k; intro K9 hK9
  apply wp_region_lit
  refine sa _ rfl hk rfl rfl rfl fun a hk => ?_
  show wpList _ _ _ [] _ _
  refine wpList_nil ?_
  refine hK9 _ _ ?_
  obtain ⟨o19, h20, HL21⟩ := bind_some H
  clear H
  obtain ⟨R22, hR22⟩ : ∃ R : Act → World → Prop, R = fun a w => ∃ (u15 : List S_Op) (k16 : Chunk), o19 = .out u15 ∧ Kn [(3, (.slice (some ⟨b4, 0, none⟩) (((l0.length : Int)).toNat) (((l0.length : Int)).toNat)))] 23 a ∧ Sat [] w0 w [(1, k0_)] [(2, k16)] ∧ Own L_Op 120 (some ⟨b4, 0, none⟩) (((l0.length : Int)).toNat) u15 k16 ∧ u15.length = (((l0.length : Int)).toNat) := ⟨_, rfl⟩
  refine wp_cutq R22 ?_ ?_
  · refine wp_block ?_
    obtain ⟨fu24, h20⟩ := loopO_some h20
    obtain ⟨I23, hI23⟩ : ∃ I : Nat → Act → World → Prop, I = fun fu a w => ∃ (u10 : List S_Op) (u14 : Int) (k11 : Chunk), loopN (fun s => laws_toOpS.s0 l0 s.1 s.2) fu (u10, u14) = some o19 ∧ Kn [(0, (.slice A0_ l0.length p0_)), (3, (.slice (some ⟨b4, 0, none⟩) (((l0.length : Int)).toNat) (((l0.length : Int)).toNat))), (4, (.int .i64 u14))] 23 a ∧ Sat [] w0 w [(1, k0_)] [(2, k11)] ∧ Own L_Op 120 (some ⟨b4, 0, none⟩) (((l0.length : Int)).toNat) u10 k11 ∧ u10.length = (((l0.length : Int)).toNat) := ⟨_, rfl⟩
    refine wp_loop_ghost I23 fu24 ?_ ?_
    · rw [hI23]
      exact ⟨(List.replicate ((l0.length : Int)).toNat z_Op), 0, _, h20, (hk.c 0 rfl (hk.c 3 rfl (hk.c 4 rfl hk.k))), (hs.pick [(2, 2)] rfl), o6, lh7⟩
    · clear h20 hk hs
      intro fu24 a w hI0
      rw [hI23] at hI0
      obtain ⟨u10, u14, k11, hi, hk, hs, o12, lh13⟩ := hI0
      obtain ⟨x25, H, h26⟩ := loop_round hi
      try dsimp only at H
      unfold laws_toOpS.s0 at H
      apply wp_seq_k; intro K27 hK27
      apply wp_seq_k; intro K28 hK28
      apply wp_region_lit
      refine sm _ rfl hk rfl rfl rfl fun a hk => ?_
      refine sm _ rfl hk rfl rfl rfl fun a hk => ?_
      refine sle rfl hk rfl rfl rfl un86 fun a hk => ?_
      refine sv (.bool (decide (u14 < (l0.length : Int)))) hk rfl rfl rfl fun a hk => ?_
      show wpList _ _ _ [] _ _
      refine wpList_nil ?_
      refine hK28 _ _ ?_
      rcases cond_some H with ⟨c29, H⟩ | ⟨c29, H⟩
      · have hk := hk.lit 11 c29 rfl
        refine cnd_true hk rfl rfl ?_
        refine wp_skip ?_
        refine hK27 _ _ ?_
        apply wp_seq_k; intro K30 hK30
        refine wp_block ?_
        apply wp_region_lit
        refine sm _ rfl hk rfl rfl rfl fun a hk => ?_
        refine sm _ rfl hk rfl rfl rfl fun a hk => ?_
        refine sm _ rfl hk rfl rfl rfl fun a hk => ?_
        refine sm _ rfl hk rfl rfl rfl fun a hk => ?_
        rcases ite_some H with ⟨c31, H⟩ | ⟨_, H⟩
        rotate_left
        · cases H
        obtain ⟨b32, q33, hAc31⟩ := (v0_).some_ u14 c31.1 c31.2
        refine si rfl hk rfl rfl rfl rfl un86 sz140 c31.1 c31.2 hAc31 fun a hk => ?_
        obtain ⟨_, rfl, e34⟩ := (v0_).at_ z_Op u14 c31.1 c31.2
        refine sln [.int .i64 ((l0.getD u14.toNat z_Op).Kind), .int .i64 ((l0.getD u14.toNat z_Op).Key), .int .i64 ((l0.getD u14.toNat z_Op).Value)] rfl hk rfl rfl rfl ag140 sz140 (cells_at e34 (hs.hasD (k := 1) rfl)) fun a hk => ?_
        obtain ⟨y35, h36, H⟩ := bind_some H
        refine sc rfl en130 hk rfl rfl rfl (laws_toOp_t _ (l0.getD u14.toNat z_Op) _ h36) ?_
        rintro _ w ⟨rfl, hG⟩ a hk
        have hs := hs.call0 hG
        rcases ite_some H with ⟨c37, H⟩ | ⟨_, H⟩
        rotate_left
        · cases H
        obtain ⟨b38, q39, hAc37⟩ := (o12.view).some_ u14 c37.1 (by rw [lh13]; exact c37.2)
        refine si rfl hk rfl rfl rfl rfl un90 sz120 c37.1 c37.2 hAc37 fun a hk => ?_
        refine so (j := 0) 2 z_Op y35 hs rfl o12 c37.1 (by rw [lh13]; exact c37.2) rfl hk rfl rfl rfl rfl rfl sz120 (by simp [Value.cells, Value.oneCell']) (Nat.le_of_ble_eq_true rfl) (fun _ _ h => ⟨by rw [h.1]; rfl, h.2⟩) fun k40 w a hk o41 hs => ?_
        have lh42 : (u10.set u14.toNat y35).length = (((l0.length : Int)).toNat) := by rw [List.length_set]; exact lh13
        show wpList _ _ _ [] _ _
        refine wpList_nil ?_
        refine hK30 _ _ ?_
        apply wp_region_lit
        refine sm _ rfl hk rfl rfl rfl fun a hk => ?_
        refine sv (.int .i64 (w64 (u14 + 1))) hk rfl rfl rfl fun a hk => ?_
        refine sa _ rfl hk rfl rfl rfl fun a hk => ?_
        show wpList _ _ _ [] _ _
        refine wpList_nil ?_
        obtain rfl := Option.some.inj H
        obtain ⟨m43, hmm43, h26⟩ := h26
        show ∃ n', n' < _ ∧ I23 n' _ _
        refine ⟨m43, hmm43, ?_⟩
        rw [hI23]
        exact ⟨(u10.set u14.toNat y35), (w64 (u14 + 1)), _, h26, (hk.c 0 rfl (hk.c 3 rfl (hk.c 4 rfl hk.k))), (hs.pick [(2, 2)] rfl), o41, lh42⟩
      · have hk := hk.lit 11 c29 rfl
        refine cnd_false hk rfl rfl ?_
        refine wp_exit ?_
        obtain rfl := Option.some.inj H
        show R22 _ _
        rw [hR22]
        exact ⟨u10, _, h26.symm, (hk.c 3 rfl hk.k), (hs.pick [(2, 2)] rfl), o12, lh13⟩
  · intro a w hR0
    rw [hR22] at hR0
    obtain ⟨u15, k16, rfl, hk, hs, o17, lh18⟩ := hR0
    have H := HL21
    try dsimp only at H
    refine hK8 _ _ ?_
    apply wp_seq_k; intro K44 hK44
    apply wp_region_lit
    refine sm _ rfl hk rfl rfl rfl fun a hk => ?_
    refine sa _ rfl hk rfl rfl rfl fun a hk => ?_
    show wpList _ _ _ [] _ _
    refine wpList_nil ?_
    refine hK44 _ _ ?_
    refine wp_ret ?_
    obtain rfl := Option.some.inj H
    exact fin hk _ [(.slice (some ⟨b4, 0, none⟩) (((l0.length : Int)).toNat) (((l0.length : Int)).toNat))] rfl ⟨rfl, trivial⟩ ⟨(some ⟨b4, 0, none⟩), (((l0.length : Int)).toNat), _, (by first | (rw [lh18]; done) | (rw [lh18]; rfl)), o17, (hs.pick [(0, 2)] rfl).dnil⟩

noncomputable def laws_toTxn.f (x0 : S_Txn) : Option (S_Txn) :=
  ((laws_toOpS.f x0.Ops).bind fun y7 => (some (⟨y7⟩ : S_Txn)))
set_option maxRecDepth 100000 in
set_option maxHeartbeats 0 in
theorem laws_toTxn_t (w0 : World) (x0 : S_Txn) (A0_0 : Option Addr) (p0_0 : Nat) (k0_0 : Chunk) (v0_0 : View L_Op A0_0 p0_0 x0.Ops k0_0) (w0_0 : Has w0 k0_0) (r : S_Txn) (H : laws_toTxn.f x0 = some r) :
    Calls Try.prog 69 #[.agg #[.slice A0_0 x0.Ops.length p0_0]] w0 (Ret (fun v w => ∃ (A0 : Option Addr) (p0 : Nat) (k0 : Chunk), v = .agg #[.slice A0 r.Ops.length p0] ∧ Own L_Op 120 A0 p0 r.Ops k0 ∧ Sat [] w0 w [] [(0, k0)])) := by
  have hs : Sat [] w0 w0 [(1, k0_0)] [] := Sat.init w0 [(1, k0_0)] [] (by simp only [List.mem_cons, List.not_mem_nil, or_false]; rintro x (rfl) <;> assumption) (by simp) List.nodup_nil (by simp [blks])
  unfold laws_toTxn.f at H
  refine enter Try.func69 rfl Try.ntmps69 rfl fun a hk => ?_
  apply wp_seq_k; intro K1 hK1
  apply wp_region_lit
  refine sbx 2 hs rfl hk rfl rfl rfl rfl fun b2 w a hk hs => ?_
  refine salx 3 hs rfl hk rfl rfl ze92 rfl fun b3 w a hk hs => ?_
  show wpList _ _ _ [] _ _
  refine wpList_nil ?_
  refine hK1 _ _ ?_
  apply wp_seq_k; intro K4 hK4
  apply wp_region_lit
  refine salx 4 hs rfl hk rfl rfl ze92 rfl fun b5 w a hk hs => ?_
  show wpList _ _ _ [] _ _
  refine wpList_nil ?_
  refine hK4 _ _ ?_
  apply wp_seq_k; intro K6 hK6
  apply wp_region_lit
  refine sf ⟨b2, 0, none⟩ rfl hk rfl rfl rfl fd88_0 rfl fun a hk => ?_
  refine sl rfl hk rfl rfl rfl ag86 (box_cell hs (k := 2) rfl rfl) fun a hk => ?_
  obtain ⟨y7, h8, H⟩ := bind_some H
  refine sc rfl en106 hk rfl rfl rfl (laws_toOpS_t _ A0_0 p0_0 x0.Ops _ v0_0 (hs.hasD (k := 1) rfl) _ h8) ?_
  rintro _ w ⟨A9, p10, k11, rfl, o12, hG⟩ a hk
  have hs := hs.call0k hG [5] rfl
  refine sf ⟨b5, 0, none⟩ rfl hk rfl rfl rfl fd92_0 rfl fun a hk => ?_
  refine ssx (cs' := #[.slice A9 y7.length p10]) 4 hs rfl rfl hk rfl rfl rfl rfl sz90 rfl rfl rfl rfl fun w a hk hs => ?_
  show wpList _ _ _ [] _ _
  refine wpList_nil ?_
  refine hK6 _ _ ?_
  apply wp_seq_k; intro K13 hK13
  apply wp_region_lit
  refine sln [.slice A9 y7.length p10] rfl hk rfl rfl rfl ag92 sz92 (box_cells hs (k := 4) rfl) fun a hk => ?_
  refine ssw 3 hs rfl rfl hk rfl rfl rfl rfl sz92 (by simp [Value.oneCell']) rfl fun w a hk hs => ?_
  show wpList _ _ _ [] _ _
  refine wpList_nil ?_
  refine hK13 _ _ ?_
  refine wp_ret ?_
  obtain rfl := Option.some.inj H
  exact fin hk _ [(.agg #[.slice A9 y7.length p10])] rfl ⟨⟨_, rfl, run_loadN ag92 sz92 (box_cells hs (k := 3) rfl)⟩, trivial⟩ ⟨A9, p10, _, rfl, o12, (hs.pick [(0, 5)] rfl).dnil⟩

noncomputable def laws_toTxnS.s0 (l0 : List S_Txn) (u10 : List S_Txn) (u14 : Int) : Option (((List S_Txn) × Int) ⊕ Ex ((List S_Txn)) ((List S_Txn))) :=
  (bif (decide (u14 < (l0.length : Int))) then (if 0 ≤ u14 ∧ u14 < (l0.length : Int) then ((laws_toTxn.f (l0.getD u14.toNat z_Txn)).bind fun y38 => (if 0 ≤ u14 ∧ u14 < ((((l0.length : Int)).toNat) : Int) then (some (.inl ((u10.set u14.toNat y38), (w64 (u14 + 1))))) else none)) else none) else (some (.inr (.out u10))))
noncomputable def laws_toTxnS.f (l0 : List S_Txn) : Option ((List S_Txn)) :=
  (if 0 ≤ (l0.length : Int) ∧ (l0.length : Int) ≤ 1073741824 then ((loopO (fun s => laws_toTxnS.s0 l0 s.1 s.2) ((List.replicate ((l0.length : Int)).toNat z_Txn), 0)).bind fun o => match o with | .out u15 => (some u15) | .ret r => (some r)) else none)
set_option maxRecDepth 100000 in
set_option maxHeartbeats 0 in
theorem laws_toTxnS_t (w0 : World) (A0_ : Option Addr) (p0_ : Nat) (l0 : List S_Txn) (k0_ : Chunk) (v0_ : View L_laws_Txn A0_ p0_ l0 k0_) (w0_ : Has w0 k0_) (r : (List S_Txn)) (H : laws_toTxnS.f l0 = some r) :
    Calls Try.prog 25 #[.slice A0_ l0.length p0_] w0 (Ret (fun v w => ∃ (A0 : Option Addr) (p0 : Nat) (k0 : Chunk), v = .slice A0 r.length p0 ∧ Own L_impl_Txn 92 A0 p0 r k0 ∧ Sat [] w0 w [] [(0, k0)])) := by
  have hs : Sat [] w0 w0 [(1, k0_)] [] := Sat.init w0 [(1, k0_)] [] (by simp only [List.mem_cons, List.not_mem_nil, or_false]; rintro x (rfl) <;> assumption) (by simp) List.nodup_nil (by simp [blks])
  unfold laws_toTxnS.f at H
  refine enter Try.func25 rfl Try.ntmps25 rfl fun a hk => ?_
  apply wp_seq_k; intro K1 hK1
  apply wp_region_lit
  refine sa _ rfl hk rfl rfl rfl fun a hk => ?_
  show wpList _ _ _ [] _ _
  refine wpList_nil ?_
  refine hK1 _ _ ?_
  apply wp_seq_k; intro K2 hK2
  apply wp_region_lit
  refine sm _ rfl hk rfl rfl rfl fun a hk => ?_
  refine sle rfl hk rfl rfl rfl un42 fun a hk => ?_
  rcases ite_some H with ⟨c3, H⟩ | ⟨_, H⟩
  rotate_left
  · cases H
  refine smk 2 L_impl_Txn hs rfl hk rfl rfl rfl rfl un48 mk92 lz92 rfl rfl c3.1 c3.2 fun b4 k5 w a hk o6 hs => ?_
  have lh7 : (List.replicate ((l0.length : Int)).toNat z_Txn).length = ((l0.length : Int)).toNat := List.length_replicate
  refine sa _ rfl hk rfl rfl rfl fun a hk => ?_
  show wpList _ _ _ [] _ _
  refine wpList_nil ?_
  refine hK2 _ _ ?_
  apply wp_seq_k; intro K8 hK8
  apply wp_seq_k; intro K9 hK9
  apply wp_region_lit
  refine sa _ rfl hk rfl rfl rfl fun a hk => ?_
  show wpList _ _ _ [] _ _
  refine wpList_nil ?_
  refine hK9 _ _ ?_
  obtain ⟨o19, h20, HL21⟩ := bind_some H
  clear H
  obtain ⟨R22, hR22⟩ : ∃ R : Act → World → Prop, R = fun a w => ∃ (u15 : List S_Txn) (k16 : Chunk), o19 = .out u15 ∧ Kn [(3, (.slice (some ⟨b4, 0, none⟩) (((l0.length : Int)).toNat) (((l0.length : Int)).toNat)))] 23 a ∧ Sat [] w0 w [(1, k0_)] [(2, k16)] ∧ Own L_impl_Txn 92 (some ⟨b4, 0, none⟩) (((l0.length : Int)).toNat) u15 k16 ∧ u15.length = (((l0.length : Int)).toNat) := ⟨_, rfl⟩
  refine wp_cutq R22 ?_ ?_
  · refine wp_block ?_
    obtain ⟨fu24, h20⟩ := loopO_some h20
    obtain ⟨I23, hI23⟩ : ∃ I : Nat → Act → World → Prop, I = fun fu a w => ∃ (u10 : List S_Txn) (u14 : Int) (k11 : Chunk), loopN (fun s => laws_toTxnS.s0 l0 s.1 s.2) fu (u10, u14) = some o19 ∧ Kn [(0, (.slice A0_ l0.length p0_)), (3, (.slice (some ⟨b4, 0, none⟩) (((l0.length : Int)).toNat) (((l0.length : Int)).toNat))), (4, (.int .i64 u14))] 23 a ∧ Sat [] w0 w [(1, k0_)] [(2, k11)] ∧ Own L_impl_Txn 92 (some ⟨b4, 0, none⟩) (((l0.length : Int)).toNat) u10 k11 ∧ u10.length = (((l0.length : Int)).toNat) := ⟨_, rfl⟩
    refine wp_loop_ghost I23 fu24 ?_ ?_
    · rw [hI23]
      exact ⟨(List.replicate ((l0.length : Int)).toNat z_Txn), 0, _, h20, (hk.c 0 rfl (hk.c 3 rfl (hk.c 4 rfl hk.k))), (hs.pick [(2, 2)] rfl), o6, lh7⟩
    · clear h20 hk hs
      intro fu24 a w hI0
      rw [hI23] at hI0
      obtain ⟨u10, u14, k11, hi, hk, hs, o12, lh13⟩ := hI0
      obtain ⟨x25, H, h26⟩ := loop_round hi
      try dsimp only at H
      unfold laws_toTxnS.s0 at H
      apply wp_seq_k; intro K27 hK27
      apply wp_seq_k; intro K28 hK28
      apply wp_region_lit
      refine sm _ rfl hk rfl rfl rfl fun a hk => ?_
      refine sm _ rfl hk rfl rfl rfl fun a hk => ?_
      refine sle rfl hk rfl rfl rfl un42 fun a hk => ?_
      refine sv (.bool (decide (u14 < (l0.length : Int)))) hk rfl rfl rfl fun a hk => ?_
      show wpList _ _ _ [] _ _
      refine wpList_nil ?_
      refine hK28 _ _ ?_
      rcases cond_some H with ⟨c29, H⟩ | ⟨c29, H⟩
      · have hk := hk.lit 11 c29 rfl
        refine cnd_true hk rfl rfl ?_
        refine wp_skip ?_
        refine hK27 _ _ ?_
        apply wp_seq_k; intro K30 hK30
        refine wp_block ?_
        apply wp_region_lit
        refine sm _ rfl hk rfl rfl rfl fun a hk => ?_
        refine sm _ rfl hk rfl rfl rfl fun a hk => ?_
        refine sm _ rfl hk rfl rfl rfl fun a hk => ?_
        refine sm _ rfl hk rfl rfl rfl fun a hk => ?_
        rcases ite_some H with ⟨c31, H⟩ | ⟨_, H⟩
        rotate_left
        · cases H
        obtain ⟨b32, q33, hAc31⟩ := (v0_).some_ u14 c31.1 c31.2
        refine si rfl hk rfl rfl rfl rfl un42 sz88 c31.1 c31.2 hAc31 fun a hk => ?_
        obtain ⟨_, ⟨_, rfl, A35, p36, rfl, v37⟩, e34⟩ := (v0_).at_ z_Txn u14 c31.1 c31.2
        refine sln [.slice A35 ((l0.getD u14.toNat z_Txn).Ops).length p36] rfl hk rfl rfl rfl ag88 sz88 (cells_at e34 (hs.hasD (k := 1) rfl)) fun a hk => ?_
        obtain ⟨y38, h39, H⟩ := bind_some H
        refine sc rfl en69 hk rfl rfl rfl (laws_toTxn_t _ (l0.getD u14.toNat z_Txn) A35 p36 _ v37 (hs.hasD (k := 1) rfl) _ h39) ?_
        rintro _ w ⟨A40, p41, k42, rfl, o43, hG⟩ a hk
        have hs := hs.call0k hG [3] rfl
        rcases ite_some H with ⟨c44, H⟩ | ⟨_, H⟩
        rotate_left
        · cases H
        obtain ⟨b45, q46, hAc44⟩ := (o12.view).some_ u14 c44.1 (by rw [lh13]; exact c44.2)
        refine si rfl hk rfl rfl rfl rfl un48 sz92 c44.1 c44.2 hAc44 fun a hk => ?_
        refine som 2 3 z_Txn y38 hs rfl rfl o12 c44.1 (by rw [lh13]; exact c44.2) rfl hk rfl rfl rfl rfl rfl sz92 (by simp [Value.cells, Value.oneCell']) rfl ⟨_, rfl, o43.toV⟩ fun k47 w a hk o48 hs => ?_
        have lh49 : (u10.set u14.toNat y38).length = (((l0.length : Int)).toNat) := by rw [List.length_set]; exact lh13
        show wpList _ _ _ [] _ _
        refine wpList_nil ?_
        refine hK30 _ _ ?_
        apply wp_region_lit
        refine sm _ rfl hk rfl rfl rfl fun a hk => ?_
        refine sv (.int .i64 (w64 (u14 + 1))) hk rfl rfl rfl fun a hk => ?_
        refine sa _ rfl hk rfl rfl rfl fun a hk => ?_
        show wpList _ _ _ [] _ _
        refine wpList_nil ?_
        obtain rfl := Option.some.inj H
        obtain ⟨m50, hmm50, h26⟩ := h26
        show ∃ n', n' < _ ∧ I23 n' _ _
        refine ⟨m50, hmm50, ?_⟩
        rw [hI23]
        exact ⟨(u10.set u14.toNat y38), (w64 (u14 + 1)), _, h26, (hk.c 0 rfl (hk.c 3 rfl (hk.c 4 rfl hk.k))), (hs.pick [(2, 2)] rfl), o48, lh49⟩
      · have hk := hk.lit 11 c29 rfl
        refine cnd_false hk rfl rfl ?_
        refine wp_exit ?_
        obtain rfl := Option.some.inj H
        show R22 _ _
        rw [hR22]
        exact ⟨u10, _, h26.symm, (hk.c 3 rfl hk.k), (hs.pick [(2, 2)] rfl), o12, lh13⟩
  · intro a w hR0
    rw [hR22] at hR0
    obtain ⟨u15, k16, rfl, hk, hs, o17, lh18⟩ := hR0
    have H := HL21
    try dsimp only at H
    refine hK8 _ _ ?_
    apply wp_seq_k; intro K51 hK51
    apply wp_region_lit
    refine sm _ rfl hk rfl rfl rfl fun a hk => ?_
    refine sa _ rfl hk rfl rfl rfl fun a hk => ?_
    show wpList _ _ _ [] _ _
    refine wpList_nil ?_
    refine hK51 _ _ ?_
    refine wp_ret ?_
    obtain rfl := Option.some.inj H
    exact fin hk _ [(.slice (some ⟨b4, 0, none⟩) (((l0.length : Int)).toNat) (((l0.length : Int)).toNat))] rfl ⟨rfl, trivial⟩ ⟨(some ⟨b4, 0, none⟩), (((l0.length : Int)).toNat), _, (by first | (rw [lh18]; done) | (rw [lh18]; rfl)), o17, (hs.pick [(0, 2)] rfl).dnil⟩

noncomputable def laws_toIntS.s0 (l0 : List Int) (u10 : List Int) (u14 : Int) : Option (((List Int) × Int) ⊕ Ex ((List Int)) ((List Int))) :=
  (bif (decide (u14 < (l0.length : Int))) then (if 0 ≤ u14 ∧ u14 < (l0.length : Int) then (if 0 ≤ u14 ∧ u14 < ((((l0.length : Int)).toNat) : Int) then (some (.inl ((u10.set u14.toNat (l0.getD u14.toNat 0)), (w64 (u14 + 1))))) else none) else none) else (some (.inr (.out u10))))
noncomputable def laws_toIntS.f (l0 : List Int) : Option ((List Int)) :=
  (if 0 ≤ (l0.length : Int) ∧ (l0.length : Int) ≤ 1073741824 then ((loopO (fun s => laws_toIntS.s0 l0 s.1 s.2) ((List.replicate ((l0.length : Int)).toNat (0 : Int)), 0)).bind fun o => match o with | .out u15 => (some u15) | .ret r => (some r)) else none)
set_option maxRecDepth 100000 in
set_option maxHeartbeats 0 in
theorem laws_toIntS_t (w0 : World) (A0_ : Option Addr) (p0_ : Nat) (l0 : List Int) (k0_ : Chunk) (v0_ : View (Lay.int .i64) A0_ p0_ l0 k0_) (w0_ : Has w0 k0_) (r : (List Int)) (H : laws_toIntS.f l0 = some r) :
    Calls Try.prog 58 #[.slice A0_ l0.length p0_] w0 (Ret (fun v w => ∃ (A0 : Option Addr) (p0 : Nat) (k0 : Chunk), v = .slice A0 r.length p0 ∧ Own (Lay.int .i64) 3 A0 p0 r k0 ∧ Sat [] w0 w [] [(0, k0)])) := by
  have hs : Sat [] w0 w0 [(1, k0_)] [] := Sat.init w0 [(1, k0_)] [] (by simp only [List.mem_cons, List.not_mem_nil, or_false]; rintro x (rfl) <;> assumption) (by simp) List.nodup_nil (by simp [blks])
  unfold laws_toIntS.f at H
  refine enter Try.func58 rfl Try.ntmps58 rfl fun a hk => ?_
  apply wp_seq_k; intro K1 hK1
  apply wp_region_lit
  refine sa _ rfl hk rfl rfl rfl fun a hk => ?_
  show wpList _ _ _ [] _ _
  refine wpList_nil ?_
  refine hK1 _ _ ?_
  apply wp_seq_k; intro K2 hK2
  apply wp_region_lit
  refine sm _ rfl hk rfl rfl rfl fun a hk => ?_
  refine sle rfl hk rfl rfl rfl un43 fun a hk => ?_
  rcases ite_some H with ⟨c3, H⟩ | ⟨_, H⟩
  rotate_left
  · cases H
  refine smk 2 (Lay.int .i64) hs rfl hk rfl rfl rfl rfl un43 mk3 lz3 rfl rfl c3.1 c3.2 fun b4 k5 w a hk o6 hs => ?_
  have lh7 : (List.replicate ((l0.length : Int)).toNat (0 : Int)).length = ((l0.length : Int)).toNat := List.length_replicate
  refine sa _ rfl hk rfl rfl rfl fun a hk => ?_
  show wpList _ _ _ [] _ _
  refine wpList_nil ?_
  refine hK2 _ _ ?_
  apply wp_seq_k; intro K8 hK8
  apply wp_seq_k; intro K9 hK9
  apply wp_region_lit
  refine sa _ rfl hk rfl rfl rfl fun a hk => ?_
  show wpList _ _ _ [] _ _
  refine wpList_nil ?_
  refine hK9 _ _ ?_
  obtain ⟨o19, h20, HL21⟩ := bind_some H
  clear H
  obtain ⟨R22, hR22⟩ : ∃ R : Act → World → Prop, R = fun a w => ∃ (u15 : List Int) (k16 : Chunk), o19 = .out u15 ∧ Kn [(3, (.slice (some ⟨b4, 0, none⟩) (((l0.length : Int)).toNat) (((l0.length : Int)).toNat)))] 22 a ∧ Sat [] w0 w [(1, k0_)] [(2, k16)] ∧ Own (Lay.int .i64) 3 (some ⟨b4, 0, none⟩) (((l0.length : Int)).toNat) u15 k16 ∧ u15.length = (((l0.length : Int)).toNat) := ⟨_, rfl⟩
  refine wp_cutq R22 ?_ ?_
  · refine wp_block ?_
    obtain ⟨fu24, h20⟩ := loopO_some h20
    obtain ⟨I23, hI23⟩ : ∃ I : Nat → Act → World → Prop, I = fun fu a w => ∃ (u10 : List Int) (u14 : Int) (k11 : Chunk), loopN (fun s => laws_toIntS.s0 l0 s.1 s.2) fu (u10, u14) = some o19 ∧ Kn [(0, (.slice A0_ l0.length p0_)), (3, (.slice (some ⟨b4, 0, none⟩) (((l0.length : Int)).toNat) (((l0.length : Int)).toNat))), (4, (.int .i64 u14))] 22 a ∧ Sat [] w0 w [(1, k0_)] [(2, k11)] ∧ Own (Lay.int .i64) 3 (some ⟨b4, 0, none⟩) (((l0.length : Int)).toNat) u10 k11 ∧ u10.length = (((l0.length : Int)).toNat) := ⟨_, rfl⟩
    refine wp_loop_ghost I23 fu24 ?_ ?_
    · rw [hI23]
      exact ⟨(List.replicate ((l0.length : Int)).toNat (0 : Int)), 0, _, h20, (hk.c 0 rfl (hk.c 3 rfl (hk.c 4 rfl hk.k))), (hs.pick [(2, 2)] rfl), o6, lh7⟩
    · clear h20 hk hs
      intro fu24 a w hI0
      rw [hI23] at hI0
      obtain ⟨u10, u14, k11, hi, hk, hs, o12, lh13⟩ := hI0
      obtain ⟨x25, H, h26⟩ := loop_round hi
      try dsimp only at H
      unfold laws_toIntS.s0 at H
      apply wp_seq_k; intro K27 hK27
      apply wp_seq_k; intro K28 hK28
      apply wp_region_lit
      refine sm _ rfl hk rfl rfl rfl fun a hk => ?_
      refine sm _ rfl hk rfl rfl rfl fun a hk => ?_
      refine sle rfl hk rfl rfl rfl un43 fun a hk => ?_
      refine sv (.bool (decide (u14 < (l0.length : Int)))) hk rfl rfl rfl fun a hk => ?_
      show wpList _ _ _ [] _ _
      refine wpList_nil ?_
      refine hK28 _ _ ?_
      rcases cond_some H with ⟨c29, H⟩ | ⟨c29, H⟩
      · have hk := hk.lit 11 c29 rfl
        refine cnd_true hk rfl rfl ?_
        refine wp_skip ?_
        refine hK27 _ _ ?_
        apply wp_seq_k; intro K30 hK30
        refine wp_block ?_
        apply wp_region_lit
        refine sm _ rfl hk rfl rfl rfl fun a hk => ?_
        refine sm _ rfl hk rfl rfl rfl fun a hk => ?_
        refine sm _ rfl hk rfl rfl rfl fun a hk => ?_
        refine sm _ rfl hk rfl rfl rfl fun a hk => ?_
        rcases ite_some H with ⟨c31, H⟩ | ⟨_, H⟩
        rotate_left
        · cases H
        obtain ⟨b32, q33, hAc31⟩ := (v0_).some_ u14 c31.1 c31.2
        refine si rfl hk rfl rfl rfl rfl un43 sz3 c31.1 c31.2 hAc31 fun a hk => ?_
        obtain ⟨_, rfl, e34⟩ := (v0_).at_ 0 u14 c31.1 c31.2
        refine sl (v := (.int .i64 (l0.getD u14.toNat 0))) rfl hk rfl rfl rfl ag3 ((e34 0 _ rfl).cell (hs.hasD (k := 1) rfl)) fun a hk => ?_
        rcases ite_some H with ⟨c35, H⟩ | ⟨_, H⟩
        rotate_left
        · cases H
        obtain ⟨b36, q37, hAc35⟩ := (o12.view).some_ u14 c35.1 (by rw [lh13]; exact c35.2)
        refine si rfl hk rfl rfl rfl rfl un43 sz3 c35.1 c35.2 hAc35 fun a hk => ?_
        refine so (j := 0) 2 0 (l0.getD u14.toNat 0) hs rfl o12 c35.1 (by rw [lh13]; exact c35.2) rfl hk rfl rfl rfl rfl rfl sz3 (by simp [Value.cells, Value.oneCell']) (Nat.le_of_ble_eq_true rfl) (fun _ _ h => ⟨by rw [h.1]; rfl, h.2⟩) fun k38 w a hk o39 hs => ?_
        have lh40 : (u10.set u14.toNat (l0.getD u14.toNat 0)).length = (((l0.length : Int)).toNat) := by rw [List.length_set]; exact lh13
        show wpList _ _ _ [] _ _
        refine wpList_nil ?_
        refine hK30 _ _ ?_
        apply wp_region_lit
        refine sm _ rfl hk rfl rfl rfl fun a hk => ?_
        refine sv (.int .i64 (w64 (u14 + 1))) hk rfl rfl rfl fun a hk => ?_
        refine sa _ rfl hk rfl rfl rfl fun a hk => ?_
        show wpList _ _ _ [] _ _
        refine wpList_nil ?_
        obtain rfl := Option.some.inj H
        obtain ⟨m41, hmm41, h26⟩ := h26
        show ∃ n', n' < _ ∧ I23 n' _ _
        refine ⟨m41, hmm41, ?_⟩
        rw [hI23]
        exact ⟨(u10.set u14.toNat (l0.getD u14.toNat 0)), (w64 (u14 + 1)), _, h26, (hk.c 0 rfl (hk.c 3 rfl (hk.c 4 rfl hk.k))), (hs.pick [(2, 2)] rfl), o39, lh40⟩
      · have hk := hk.lit 11 c29 rfl
        refine cnd_false hk rfl rfl ?_
        refine wp_exit ?_
        obtain rfl := Option.some.inj H
        show R22 _ _
        rw [hR22]
        exact ⟨u10, _, h26.symm, (hk.c 3 rfl hk.k), (hs.pick [(2, 2)] rfl), o12, lh13⟩
  · intro a w hR0
    rw [hR22] at hR0
    obtain ⟨u15, k16, rfl, hk, hs, o17, lh18⟩ := hR0
    have H := HL21
    try dsimp only at H
    refine hK8 _ _ ?_
    apply wp_seq_k; intro K42 hK42
    apply wp_region_lit
    refine sm _ rfl hk rfl rfl rfl fun a hk => ?_
    refine sa _ rfl hk rfl rfl rfl fun a hk => ?_
    show wpList _ _ _ [] _ _
    refine wpList_nil ?_
    refine hK42 _ _ ?_
    refine wp_ret ?_
    obtain rfl := Option.some.inj H
    exact fin hk _ [(.slice (some ⟨b4, 0, none⟩) (((l0.length : Int)).toNat) (((l0.length : Int)).toNat))] rfl ⟨rfl, trivial⟩ ⟨(some ⟨b4, 0, none⟩), (((l0.length : Int)).toNat), _, (by first | (rw [lh18]; done) | (rw [lh18]; rfl)), o17, (hs.pick [(0, 2)] rfl).dnil⟩

noncomputable def laws_toAct.f (x0 : S_Act) : Option (S_Act) :=
  ((laws_toTxnS.f x0.Batch).bind fun y12 => ((laws_toIntS.f x0.Draws).bind fun y19 => ((laws_toIntS.f x0.Fates).bind fun y26 => (some (⟨x0.Kind, x0.Phase, x0.At, x0.Place, x0.By, y12, y19, y26⟩ : S_Act)))))
set_option maxRecDepth 100000 in
set_option maxHeartbeats 0 in
theorem laws_toAct_t (w0 : World) (x0 : S_Act) (A0_0 : Option Addr) (p0_0 : Nat) (k0_0 : Chunk) (v0_0 : View L_laws_Txn A0_0 p0_0 x0.Batch k0_0) (w0_0 : Has w0 k0_0) (A0_1 : Option Addr) (p0_1 : Nat) (k0_1 : Chunk) (v0_1 : View (Lay.int .i64) A0_1 p0_1 x0.Draws k0_1) (w0_1 : Has w0 k0_1) (A0_2 : Option Addr) (p0_2 : Nat) (k0_2 : Chunk) (v0_2 : View (Lay.int .i64) A0_2 p0_2 x0.Fates k0_2) (w0_2 : Has w0 k0_2) (r : S_Act) (H : laws_toAct.f x0 = some r) :
    Calls Try.prog 20 #[.agg #[.int .i64 x0.Kind, .int .i64 x0.Phase, .int .i64 x0.At, .int .i64 x0.Place, .int .i64 x0.By, .slice A0_0 x0.Batch.length p0_0, .slice A0_1 x0.Draws.length p0_1, .slice A0_2 x0.Fates.length p0_2]] w0 (Ret (fun v w => ∃ (A0 : Option Addr) (p0 : Nat) (k0 : Chunk), ∃ (A1 : Option Addr) (p1 : Nat) (k1 : Chunk), ∃ (A2 : Option Addr) (p2 : Nat) (k2 : Chunk), v = .agg #[.int .i64 r.Kind, .int .i64 r.Phase, .int .i64 r.At, .int .i64 r.Place, .int .i64 r.By, .slice A0 r.Batch.length p0, .slice A1 r.Draws.length p1, .slice A2 r.Fates.length p2] ∧ Own L_impl_Txn 92 A0 p0 r.Batch k0 ∧ Own (Lay.int .i64) 3 A1 p1 r.Draws k1 ∧ Own (Lay.int .i64) 3 A2 p2 r.Fates k2 ∧ Sat [] w0 w [] [(0, k0), (1, k1), (2, k2)])) := by
  have hs : Sat [] w0 w0 [(1, k0_0), (2, k0_1), (3, k0_2)] [] := Sat.init w0 [(1, k0_0), (2, k0_1), (3, k0_2)] [] (by simp only [List.mem_cons, List.not_mem_nil, or_false]; rintro x (rfl | rfl | rfl) <;> assumption) (by simp) List.nodup_nil (by simp [blks])
  unfold laws_toAct.f at H
  refine enter Try.func20 rfl Try.ntmps20 rfl fun a hk => ?_
  apply wp_seq_k; intro K1 hK1
  apply wp_region_lit
  refine sbx 4 hs rfl hk rfl rfl rfl rfl fun b2 w a hk hs => ?_
  refine salx 5 hs rfl hk rfl rfl ze50 rfl fun b3 w a hk hs => ?_
  show wpList _ _ _ [] _ _
  refine wpList_nil ?_
  refine hK1 _ _ ?_
  apply wp_seq_k; intro K4 hK4
  apply wp_region_lit
  refine salx 6 hs rfl hk rfl rfl ze50 rfl fun b5 w a hk hs => ?_
  show wpList _ _ _ [] _ _
  refine wpList_nil ?_
  refine hK4 _ _ ?_
  apply wp_seq_k; intro K6 hK6
  apply wp_region_lit
  refine sf ⟨b2, 0, none⟩ rfl hk rfl rfl rfl fd45_0 rfl fun a hk => ?_
  refine sl rfl hk rfl rfl rfl ag3 (box_cell hs (k := 4) rfl rfl) fun a hk => ?_
  refine sf ⟨b5, 0, none⟩ rfl hk rfl rfl rfl fd50_0 rfl fun a hk => ?_
  refine ssx (cs' := #[.int .i64 x0.Kind, .int .i64 0, .int .i64 0, .int .i64 0, .int .i64 0, .slice none 0 0, .slice none 0 0, .slice none 0 0]) 6 hs rfl rfl hk rfl rfl rfl rfl sz3 rfl rfl rfl rfl fun w a hk hs => ?_
  show wpList _ _ _ [] _ _
  refine wpList_nil ?_
  refine hK6 _ _ ?_
  apply wp_seq_k; intro K7 hK7
  apply wp_region_lit
  refine sf ⟨b2, 1, none⟩ rfl hk rfl rfl rfl fd45_1 rfl fun a hk => ?_
  refine sl rfl hk rfl rfl rfl ag3 (box_cell hs (k := 4) rfl rfl) fun a hk => ?_
  refine sf ⟨b5, 1, none⟩ rfl hk rfl rfl rfl fd50_1 rfl fun a hk => ?_
  refine ssx (cs' := #[.int .i64 x0.Kind, .int .i64 x0.Phase, .int .i64 0, .int .i64 0, .int .i64 0, .slice none 0 0, .slice none 0 0, .slice none 0 0]) 6 hs rfl rfl hk rfl rfl rfl rfl sz3 rfl rfl rfl rfl fun w a hk hs => ?_
  show wpList _ _ _ [] _ _
  refine wpList_nil ?_
  refine hK7 _ _ ?_
  apply wp_seq_k; intro K8 hK8
  apply wp_region_lit
  refine sf ⟨b2, 2, none⟩ rfl hk rfl rfl rfl fd45_2 rfl fun a hk => ?_
  refine sl rfl hk rfl rfl rfl ag3 (box_cell hs (k := 4) rfl rfl) fun a hk => ?_
  refine sf ⟨b5, 2, none⟩ rfl hk rfl rfl rfl fd50_2 rfl fun a hk => ?_
  refine ssx (cs' := #[.int .i64 x0.Kind, .int .i64 x0.Phase, .int .i64 x0.At, .int .i64 0, .int .i64 0, .slice none 0 0, .slice none 0 0, .slice none 0 0]) 6 hs rfl rfl hk rfl rfl rfl rfl sz3 rfl rfl rfl rfl fun w a hk hs => ?_
  show wpList _ _ _ [] _ _
  refine wpList_nil ?_
  refine hK8 _ _ ?_
  apply wp_seq_k; intro K9 hK9
  apply wp_region_lit
  refine sf ⟨b2, 3, none⟩ rfl hk rfl rfl rfl fd45_3 rfl fun a hk => ?_
  refine sl rfl hk rfl rfl rfl ag3 (box_cell hs (k := 4) rfl rfl) fun a hk => ?_
  refine sf ⟨b5, 3, none⟩ rfl hk rfl rfl rfl fd50_3 rfl fun a hk => ?_
  refine ssx (cs' := #[.int .i64 x0.Kind, .int .i64 x0.Phase, .int .i64 x0.At, .int .i64 x0.Place, .int .i64 0, .slice none 0 0, .slice none 0 0, .slice none 0 0]) 6 hs rfl rfl hk rfl rfl rfl rfl sz3 rfl rfl rfl rfl fun w a hk hs => ?_
  show wpList _ _ _ [] _ _
  refine wpList_nil ?_
  refine hK9 _ _ ?_
  apply wp_seq_k; intro K10 hK10
  apply wp_region_lit
  refine sf ⟨b2, 4, none⟩ rfl hk rfl rfl rfl fd45_4 rfl fun a hk => ?_
  refine sl rfl hk rfl rfl rfl ag3 (box_cell hs (k := 4) rfl rfl) fun a hk => ?_
  refine sf ⟨b5, 4, none⟩ rfl hk rfl rfl rfl fd50_4 rfl fun a hk => ?_
  refine ssx (cs' := #[.int .i64 x0.Kind, .int .i64 x0.Phase, .int .i64 x0.At, .int .i64 x0.Place, .int .i64 x0.By, .slice none 0 0, .slice none 0 0, .slice none 0 0]) 6 hs rfl rfl hk rfl rfl rfl rfl sz3 rfl rfl rfl rfl fun w a hk hs => ?_
  show wpList _ _ _ [] _ _
  refine wpList_nil ?_
  refine hK10 _ _ ?_
  apply wp_seq_k; intro K11 hK11
  apply wp_region_lit
  refine sf ⟨b2, 5, none⟩ rfl hk rfl rfl rfl fd45_5 rfl fun a hk => ?_
  refine sl rfl hk rfl rfl rfl ag42 (box_cell hs (k := 4) rfl rfl) fun a hk => ?_
  obtain ⟨y12, h13, H⟩ := bind_some H
  refine sc rfl en25 hk rfl rfl rfl (laws_toTxnS_t _ A0_0 p0_0 x0.Batch _ v0_0 (hs.hasD (k := 1) rfl) _ h13) ?_
  rintro _ w ⟨A14, p15, k16, rfl, o17, hG⟩ a hk
  have hs := hs.call0k hG [7] rfl
  refine sf ⟨b5, 5, none⟩ rfl hk rfl rfl rfl fd50_5 rfl fun a hk => ?_
  refine ssx (cs' := #[.int .i64 x0.Kind, .int .i64 x0.Phase, .int .i64 x0.At, .int .i64 x0.Place, .int .i64 x0.By, .slice A14 y12.length p15, .slice none 0 0, .slice none 0 0]) 6 hs rfl rfl hk rfl rfl rfl rfl sz48 rfl rfl rfl rfl fun w a hk hs => ?_
  show wpList _ _ _ [] _ _
  refine wpList_nil ?_
  refine hK11 _ _ ?_
  apply wp_seq_k; intro K18 hK18
  apply wp_region_lit
  refine sf ⟨b2, 6, none⟩ rfl hk rfl rfl rfl fd45_6 rfl fun a hk => ?_
  refine sl rfl hk rfl rfl rfl ag43 (box_cell hs (k := 4) rfl rfl) fun a hk => ?_
  obtain ⟨y19, h20, H⟩ := bind_some H
  refine sc rfl en58 hk rfl rfl rfl (laws_toIntS_t _ A0_1 p0_1 x0.Draws _ v0_1 (hs.hasD (k := 2) rfl) _ h20) ?_
  rintro _ w ⟨A21, p22, k23, rfl, o24, hG⟩ a hk
  have hs := hs.call0k hG [8] rfl
  refine sf ⟨b5, 6, none⟩ rfl hk rfl rfl rfl fd50_6 rfl fun a hk => ?_
  refine ssx (cs' := #[.int .i64 x0.Kind, .int .i64 x0.Phase, .int .i64 x0.At, .int .i64 x0.Place, .int .i64 x0.By, .slice A14 y12.length p15, .slice A21 y19.length p22, .slice none 0 0]) 6 hs rfl rfl hk rfl rfl rfl rfl sz43 rfl rfl rfl rfl fun w a hk hs => ?_
  show wpList _ _ _ [] _ _
  refine wpList_nil ?_
  refine hK18 _ _ ?_
  apply wp_seq_k; intro K25 hK25
  apply wp_region_lit
  refine sf ⟨b2, 7, none⟩ rfl hk rfl rfl rfl fd45_7 rfl fun a hk => ?_
  refine sl rfl hk rfl rfl rfl ag43 (box_cell hs (k := 4) rfl rfl) fun a hk => ?_
  obtain ⟨y26, h27, H⟩ := bind_some H
  refine sc rfl en58 hk rfl rfl rfl (laws_toIntS_t _ A0_2 p0_2 x0.Fates _ v0_2 (hs.hasD (k := 3) rfl) _ h27) ?_
  rintro _ w ⟨A28, p29, k30, rfl, o31, hG⟩ a hk
  have hs := hs.call0k hG [9] rfl
  refine sf ⟨b5, 7, none⟩ rfl hk rfl rfl rfl fd50_7 rfl fun a hk => ?_
  refine ssx (cs' := #[.int .i64 x0.Kind, .int .i64 x0.Phase, .int .i64 x0.At, .int .i64 x0.Place, .int .i64 x0.By, .slice A14 y12.length p15, .slice A21 y19.length p22, .slice A28 y26.length p29]) 6 hs rfl rfl hk rfl rfl rfl rfl sz43 rfl rfl rfl rfl fun w a hk hs => ?_
  show wpList _ _ _ [] _ _
  refine wpList_nil ?_
  refine hK25 _ _ ?_
  apply wp_seq_k; intro K32 hK32
  apply wp_region_lit
  refine sln [.int .i64 x0.Kind, .int .i64 x0.Phase, .int .i64 x0.At, .int .i64 x0.Place, .int .i64 x0.By, .slice A14 y12.length p15, .slice A21 y19.length p22, .slice A28 y26.length p29] rfl hk rfl rfl rfl ag50 sz50 (box_cells hs (k := 6) rfl) fun a hk => ?_
  refine ssw 5 hs rfl rfl hk rfl rfl rfl rfl sz50 (by simp [Value.oneCell']) rfl fun w a hk hs => ?_
  show wpList _ _ _ [] _ _
  refine wpList_nil ?_
  refine hK32 _ _ ?_
  refine wp_ret ?_
  obtain rfl := Option.some.inj H
  exact fin hk _ [(.agg #[.int .i64 x0.Kind, .int .i64 x0.Phase, .int .i64 x0.At, .int .i64 x0.Place, .int .i64 x0.By, .slice A14 y12.length p15, .slice A21 y19.length p22, .slice A28 y26.length p29])] rfl ⟨⟨_, rfl, run_loadN ag50 sz50 (box_cells hs (k := 5) rfl)⟩, trivial⟩ ⟨A14, p15, _, A21, p22, _, A28, p29, _, rfl, o17, o24, o31, (hs.pick [(0, 7), (1, 8), (2, 9)] rfl).dnil⟩

noncomputable def slices_IndexFunc_impl_Txn_impl_Txn.s0 (l0 : List S_Txn) (q1 : S_Txn → Option (Bool)) (u4 : Int) : Option ((Int) ⊕ Ex (Unit) (Int)) :=
  (bif (decide (u4 < (l0.length : Int))) then (if 0 ≤ u4 ∧ u4 < (l0.length : Int) then ((q1 (l0.getD u4.toNat z_Txn)).bind fun y26 => (bif y26 then (some (.inr (.ret u4))) else (some (.inl (w64 (u4 + 1)))))) else none) else (some (.inr (.out ()))))
noncomputable def slices_IndexFunc_impl_Txn_impl_Txn.f (l0 : List S_Txn) (q1 : S_Txn → Option (Bool)) : Option (Int) :=
  ((loopO (fun s => slices_IndexFunc_impl_Txn_impl_Txn.s0 l0 q1 s) 0).bind fun o => match o with | .out _ => (some (-1)) | .ret r => (some r))
set_option maxRecDepth 100000 in
set_option maxHeartbeats 0 in
theorem slices_IndexFunc_impl_Txn_impl_Txn_t (w0 : World) (A0_ : Option Addr) (p0_ : Nat) (l0 : List S_Txn) (k0_ : Chunk) (v0_ : View L_impl_Txn A0_ p0_ l0 k0_) (w0_ : Has w0 k0_) (f1_ : FuncId) (c1_ : List Value) (e1_ : Enters Try.prog f1_) (q1 : S_Txn → Option (Bool)) (k1_ : Chunk) (t1_ : ∀ w, Has w k1_ → ∀ (z0 : S_Txn) (z0A0 : Option Addr) (z0p0 : Nat) (z0k0 : Chunk) (z0v0 : View L_Op z0A0 z0p0 z0.Ops z0k0) (z0w0 : Has w z0k0) (r : Bool), q1 z0 = some r → Calls Try.prog f1_ (([.agg #[.slice z0A0 z0.Ops.length z0p0]] : List Value) ++ c1_).toArray w (Ret (fun v w2 => v = .bool r ∧ Sat [] w w2 [] []))) (w1_ : Has w0 k1_) (r : Int) (H : slices_IndexFunc_impl_Txn_impl_Txn.f l0 q1 = some r) :
    Calls Try.prog 143 #[.slice A0_ l0.length p0_, .func (.func f1_) #[] c1_.toArray] w0 (Ret (fun v w => v = .int .i64 r ∧ Sat [] w0 w [] [])) := by
  have hs : Sat [] w0 w0 [(1, k0_), (2, k1_)] [] := Sat.init w0 [(1, k0_), (2, k1_)] [] (by simp only [List.mem_cons, List.not_mem_nil, or_false]; rintro x (rfl | rfl) <;> assumption) (by simp) List.nodup_nil (by simp [blks])
  unfold slices_IndexFunc_impl_Txn_impl_Txn.f at H
  refine enter Try.func143 rfl Try.ntmps143 rfl fun a hk => ?_
  apply wp_seq_k; intro K1 hK1
  apply wp_region_lit
  refine sa _ rfl hk rfl rfl rfl fun a hk => ?_
  show wpList _ _ _ [] _ _
  refine wpList_nil ?_
  refine hK1 _ _ ?_
  apply wp_seq_k; intro K2 hK2
  apply wp_seq_k; intro K3 hK3
  apply wp_region_lit
  refine sm _ rfl hk rfl rfl rfl fun a hk => ?_
  refine sle rfl hk rfl rfl rfl un48 fun a hk => ?_
  refine sm _ rfl hk rfl rfl rfl fun a hk => ?_
  show wpList _ _ _ [] _ _
  refine wpList_nil ?_
  refine hK3 _ _ ?_
  obtain ⟨o5, h6, HL7⟩ := bind_some H
  clear H
  obtain ⟨R8, hR8⟩ : ∃ R : Act → World → Prop, R = fun a w => o5 = .out () ∧ Kn [] 19 a ∧ Sat [] w0 w [(1, k0_), (2, k1_)] [] := ⟨_, rfl⟩
  refine wp_cutq R8 ?_ ?_
  · refine wp_block ?_
    obtain ⟨fu10, h6⟩ := loopO_some h6
    obtain ⟨I9, hI9⟩ : ∃ I : Nat → Act → World → Prop, I = fun fu a w => ∃ (u4 : Int), loopN (fun s => slices_IndexFunc_impl_Txn_impl_Txn.s0 l0 q1 s) fu u4 = some o5 ∧ Kn [(0, (.slice A0_ l0.length p0_)), (1, (.func (.func f1_) #[] c1_.toArray)), (7, (.int .i64 (l0.length : Int))), (8, (.int .i64 u4))] 19 a ∧ Sat [] w0 w [(1, k0_), (2, k1_)] [] := ⟨_, rfl⟩
    refine wp_loop_ghost I9 fu10 ?_ ?_
    · rw [hI9]
      exact ⟨0, h6, (hk.c 0 rfl (hk.c 1 rfl (hk.c 7 rfl (hk.c 8 rfl hk.k)))), (hs.pick [] rfl)⟩
    · clear h6 hk hs
      intro fu10 a w hI0
      rw [hI9] at hI0
      obtain ⟨u4, hi, hk, hs⟩ := hI0
      obtain ⟨x11, H, h12⟩ := loop_round hi
      try dsimp only at H
      unfold slices_IndexFunc_impl_Txn_impl_Txn.s0 at H
      apply wp_seq_k; intro K13 hK13
      apply wp_region_lit
      refine sv (.bool (decide (u4 < (l0.length : Int)))) hk rfl rfl rfl fun a hk => ?_
      show wpList _ _ _ [] _ _
      refine wpList_nil ?_
      refine hK13 _ _ ?_
      apply wp_seq_k; intro K14 hK14
      rcases cond_some H with ⟨c15, H⟩ | ⟨c15, H⟩
      · have hk := hk.lit 9 c15 rfl
        refine cnd_true hk rfl rfl ?_
        refine wp_skip ?_
        refine hK14 _ _ ?_
        apply wp_seq_k; intro K16 hK16
        refine wp_block ?_
        apply wp_seq_k; intro K17 hK17
        apply wp_region_lit
        refine sm _ rfl hk rfl rfl rfl fun a hk => ?_
        refine sa _ rfl hk rfl rfl rfl fun a hk => ?_
        show wpList _ _ _ [] _ _
        refine wpList_nil ?_
        refine hK17 _ _ ?_
        apply wp_seq_k; intro K18 hK18
        apply wp_region_lit
        refine sm _ rfl hk rfl rfl rfl fun a hk => ?_
        refine sm _ rfl hk rfl rfl rfl fun a hk => ?_
        refine sm _ rfl hk rfl rfl rfl fun a hk => ?_
        rcases ite_some H with ⟨c19, H⟩ | ⟨_, H⟩
        rotate_left
        · cases H
        obtain ⟨b20, q21, hAc19⟩ := (v0_).some_ u4 c19.1 c19.2
        refine si rfl hk rfl rfl rfl rfl un48 sz92 c19.1 c19.2 hAc19 fun a hk => ?_
        obtain ⟨_, ⟨_, rfl, A23, p24, rfl, v25⟩, e22⟩ := (v0_).at_ z_Txn u4 c19.1 c19.2
        refine sln [.slice A23 ((l0.getD u4.toNat z_Txn).Ops).length p24] rfl hk rfl rfl rfl ag92 sz92 (cells_at e22 (hs.hasD (k := 1) rfl)) fun a hk => ?_
        obtain ⟨y26, h27, H⟩ := bind_some H
        refine scv (vs := ([(.agg #[.slice A23 ((l0.getD u4.toNat z_Txn).Ops).length p24])] : List Value) ++ c1_) rfl rfl e1_ hk rfl rfl rfl (t1_ _ (hs.hasD (k := 2) rfl) (l0.getD u4.toNat z_Txn) A23 p24 _ v25 (hs.hasD (k := 1) rfl) _ h27) ?_
        rintro _ w ⟨rfl, hG⟩ a hk
        have hs := hs.call0 hG
        show wpList _ _ _ [] _ _
        refine wpList_nil ?_
        refine hK18 _ _ ?_
        rcases cond_some H with ⟨c28, H⟩ | ⟨c28, H⟩
        · have hk := hk.lit 16 c28 rfl
          refine cnd_true hk rfl rfl ?_
          apply wp_seq_k; intro K29 hK29
          apply wp_region_lit
          refine sm _ rfl hk rfl rfl rfl fun a hk => ?_
          refine sa _ rfl hk rfl rfl rfl fun a hk => ?_
          show wpList _ _ _ [] _ _
          refine wpList_nil ?_
          refine hK29 _ _ ?_
          refine wp_ret ?_
          obtain rfl := Option.some.inj H
          have ho5 := h12
          try dsimp only at ho5
          subst ho5
          have H := HL7
          try dsimp only at H
          obtain rfl := Option.some.inj H
          exact fin hk _ [(.int .i64 u4)] rfl ⟨rfl, trivial⟩ ⟨rfl, (hs.pick [] rfl).dnil⟩
        · have hk := hk.lit 16 c28 rfl
          refine cnd_false hk rfl rfl ?_
          refine wp_skip ?_
          refine hK16 _ _ ?_
          apply wp_region_lit
          refine sv (.int .i64 (w64 (u4 + 1))) hk rfl rfl rfl fun a hk => ?_
          refine sm _ rfl hk rfl rfl rfl fun a hk => ?_
          show wpList _ _ _ [] _ _
          refine wpList_nil ?_
          obtain rfl := Option.some.inj H
          obtain ⟨m30, hmm30, h12⟩ := h12
          show ∃ n', n' < _ ∧ I9 n' _ _
          refine ⟨m30, hmm30, ?_⟩
          rw [hI9]
          exact ⟨(w64 (u4 + 1)), h12, (hk.c 0 rfl (hk.c 1 rfl (hk.c 7 rfl (hk.c 8 rfl hk.k)))), (hs.pick [] rfl)⟩
      · have hk := hk.lit 9 c15 rfl
        refine cnd_false hk rfl rfl ?_
        refine wp_exit ?_
        obtain rfl := Option.some.inj H
        show R8 _ _
        rw [hR8]
        exact ⟨h12.symm, hk.k, (hs.pick [] rfl)⟩
  · intro a w hR0
    rw [hR8] at hR0
    obtain ⟨rfl, hk, hs⟩ := hR0
    have H := HL7
    try dsimp only at H
    refine hK2 _ _ ?_
    apply wp_seq_k; intro K31 hK31
    apply wp_region_lit
    refine sa _ rfl hk rfl rfl rfl fun a hk => ?_
    show wpList _ _ _ [] _ _
    refine wpList_nil ?_
    refine hK31 _ _ ?_
    refine wp_ret ?_
    obtain rfl := Option.some.inj H
    exact fin hk _ [(.int .i64 (-1))] rfl ⟨rfl, trivial⟩ ⟨rfl, (hs.pick [] rfl).dnil⟩

noncomputable def slices_ContainsFunc_impl_Txn_impl_Txn.f (l0 : List S_Txn) (q1 : S_Txn → Option (Bool)) : Option (Bool) :=
  ((slices_IndexFunc_impl_Txn_impl_Txn.f l0 q1).bind fun y3 => (some (decide (y3 ≥ 0))))
set_option maxRecDepth 100000 in
set_option maxHeartbeats 0 in
theorem slices_ContainsFunc_impl_Txn_impl_Txn_t (w0 : World) (A0_ : Option Addr) (p0_ : Nat) (l0 : List S_Txn) (k0_ : Chunk) (v0_ : View L_impl_Txn A0_ p0_ l0 k0_) (w0_ : Has w0 k0_) (f1_ : FuncId) (c1_ : List Value) (e1_ : Enters Try.prog f1_) (q1 : S_Txn → Option (Bool)) (k1_ : Chunk) (t1_ : ∀ w, Has w k1_ → ∀ (z0 : S_Txn) (z0A0 : Option Addr) (z0p0 : Nat) (z0k0 : Chunk) (z0v0 : View L_Op z0A0 z0p0 z0.Ops z0k0) (z0w0 : Has w z0k0) (r : Bool), q1 z0 = some r → Calls Try.prog f1_ (([.agg #[.slice z0A0 z0.Ops.length z0p0]] : List Value) ++ c1_).toArray w (Ret (fun v w2 => v = .bool r ∧ Sat [] w w2 [] []))) (w1_ : Has w0 k1_) (r : Bool) (H : slices_ContainsFunc_impl_Txn_impl_Txn.f l0 q1 = some r) :
    Calls Try.prog 131 #[.slice A0_ l0.length p0_, .func (.func f1_) #[] c1_.toArray] w0 (Ret (fun v w => v = .bool r ∧ Sat [] w0 w [] [])) := by
  have hs : Sat [] w0 w0 [(1, k0_), (2, k1_)] [] := Sat.init w0 [(1, k0_), (2, k1_)] [] (by simp only [List.mem_cons, List.not_mem_nil, or_false]; rintro x (rfl | rfl) <;> assumption) (by simp) List.nodup_nil (by simp [blks])
  unfold slices_ContainsFunc_impl_Txn_impl_Txn.f at H
  refine enter Try.func131 rfl Try.ntmps131 rfl fun a hk => ?_
  apply wp_seq_k; intro K1 hK1
  apply wp_region_lit
  refine sa _ rfl hk rfl rfl rfl fun a hk => ?_
  show wpList _ _ _ [] _ _
  refine wpList_nil ?_
  refine hK1 _ _ ?_
  apply wp_seq_k; intro K2 hK2
  apply wp_region_lit
  refine sm _ rfl hk rfl rfl rfl fun a hk => ?_
  refine sm _ rfl hk rfl rfl rfl fun a hk => ?_
  obtain ⟨y3, h4, H⟩ := bind_some H
  refine sc rfl en143 hk rfl rfl rfl (slices_IndexFunc_impl_Txn_impl_Txn_t _ A0_ p0_ l0 _ v0_ (hs.hasD (k := 1) rfl) f1_ c1_ e1_ q1 k1_ t1_ (hs.hasD (k := 2) rfl) _ h4) ?_
  rintro _ w ⟨rfl, hG⟩ a hk
  have hs := hs.call0 hG
  refine sv (.bool (decide (y3 ≥ 0))) hk rfl rfl rfl fun a hk => ?_
  refine sa _ rfl hk rfl rfl rfl fun a hk => ?_
  show wpList _ _ _ [] _ _
  refine wpList_nil ?_
  refine hK2 _ _ ?_
  refine wp_ret ?_
  obtain rfl := Option.some.inj H
  exact fin hk _ [(.bool (decide (y3 ≥ 0)))] rfl ⟨rfl, trivial⟩ ⟨rfl, (hs.pick [] rfl).dnil⟩

noncomputable def impl_areAll_impl_Txn__c1.f (x0 : S_Txn) (q1 : S_Txn → Option (Bool)) : Option (Bool) :=
  ((q1 x0).bind fun y4 => (some (!y4)))
set_option maxRecDepth 100000 in
set_option maxHeartbeats 0 in
theorem impl_areAll_impl_Txn__c1_t (w0 : World) (x0 : S_Txn) (A0_0 : Option Addr) (p0_0 : Nat) (k0_0 : Chunk) (v0_0 : View L_Op A0_0 p0_0 x0.Ops k0_0) (w0_0 : Has w0 k0_0) (b1_ : Nat) (f1_ : FuncId) (c1_ : List Value) (e1_ : Enters Try.prog f1_) (q1 : S_Txn → Option (Bool)) (k1_ : Chunk) (t1_ : ∀ w, Has w k1_ → ∀ (z0 : S_Txn) (z0A0 : Option Addr) (z0p0 : Nat) (z0k0 : Chunk) (z0v0 : View L_Op z0A0 z0p0 z0.Ops z0k0) (z0w0 : Has w z0k0) (r : Bool), q1 z0 = some r → Calls Try.prog f1_ (([.agg #[.slice z0A0 z0.Ops.length z0p0]] : List Value) ++ c1_).toArray w (Ret (fun v w2 => v = .bool r ∧ Sat [] w w2 [] []))) (w1_ : Has w0 k1_) (h1_ : Has w0 [(b1_, .cells #[.func (.func f1_) #[] c1_.toArray] 115 (0, 0))]) (r : Bool) (H : impl_areAll_impl_Txn__c1.f x0 q1 = some r) :
    Calls Try.prog 132 #[.agg #[.slice A0_0 x0.Ops.length p0_0], .pointer (some ⟨b1_, 0, none⟩)] w0 (Ret (fun v w => v = .bool r ∧ Sat [] w0 w [] [])) := by
  have hs : Sat [] w0 w0 [(1, k0_0), (3, k1_), (2, [(b1_, .cells #[.func (.func f1_) #[] c1_.toArray] 115 (0, 0))])] [] := Sat.init w0 [(1, k0_0), (3, k1_), (2, [(b1_, .cells #[.func (.func f1_) #[] c1_.toArray] 115 (0, 0))])] [] (by simp only [List.mem_cons, List.not_mem_nil, or_false]; rintro x (rfl | rfl | rfl) <;> assumption) (by simp) List.nodup_nil (by simp [blks])
  unfold impl_areAll_impl_Txn__c1.f at H
  refine enter Try.func132 rfl Try.ntmps132 rfl fun a hk => ?_
  apply wp_seq_k; intro K1 hK1
  apply wp_region_lit
  refine sbx 4 hs rfl hk rfl rfl rfl rfl fun b2 w a hk hs => ?_
  refine sa _ rfl hk rfl rfl rfl fun a hk => ?_
  show wpList _ _ _ [] _ _
  refine wpList_nil ?_
  refine hK1 _ _ ?_
  apply wp_seq_k; intro K3 hK3
  apply wp_region_lit
  refine sl rfl hk rfl rfl rfl ag115 (box_cellD hs (k := 2) rfl rfl) fun a hk => ?_
  refine sln [.slice A0_0 x0.Ops.length p0_0] rfl hk rfl rfl rfl ag92 sz92 (box_cells hs (k := 4) rfl) fun a hk => ?_
  obtain ⟨y4, h5, H⟩ := bind_some H
  refine scv (vs := ([(.agg #[.slice A0_0 x0.Ops.length p0_0])] : List Value) ++ c1_) rfl rfl e1_ hk rfl rfl rfl (t1_ _ (hs.hasD (k := 3) rfl) x0 A0_0 p0_0 _ v0_0 (hs.hasD (k := 1) rfl) _ h5) ?_
  rintro _ w ⟨rfl, hG⟩ a hk
  have hs := hs.call0 hG
  refine sv (.bool (!y4)) hk rfl rfl rfl fun a hk => ?_
  refine sa _ rfl hk rfl rfl rfl fun a hk => ?_
  show wpList _ _ _ [] _ _
  refine wpList_nil ?_
  refine hK3 _ _ ?_
  refine wp_ret ?_
  obtain rfl := Option.some.inj H
  exact fin hk _ [(.bool (!y4))] rfl ⟨rfl, trivial⟩ ⟨rfl, (hs.pick [] rfl).dnil⟩

noncomputable def impl_areAll_impl_Txn.f (l0 : List S_Txn) (q1 : S_Txn → Option (Bool)) : Option (Bool) :=
  ((slices_ContainsFunc_impl_Txn_impl_Txn.f l0 (fun z0 => impl_areAll_impl_Txn__c1.f z0 q1)).bind fun y4 => (some (!y4)))
set_option maxRecDepth 100000 in
set_option maxHeartbeats 0 in
theorem impl_areAll_impl_Txn_t (w0 : World) (A0_ : Option Addr) (p0_ : Nat) (l0 : List S_Txn) (k0_ : Chunk) (v0_ : View L_impl_Txn A0_ p0_ l0 k0_) (w0_ : Has w0 k0_) (f1_ : FuncId) (c1_ : List Value) (e1_ : Enters Try.prog f1_) (q1 : S_Txn → Option (Bool)) (k1_ : Chunk) (t1_ : ∀ w, Has w k1_ → ∀ (z0 : S_Txn) (z0A0 : Option Addr) (z0p0 : Nat) (z0k0 : Chunk) (z0v0 : View L_Op z0A0 z0p0 z0.Ops z0k0) (z0w0 : Has w z0k0) (r : Bool), q1 z0 = some r → Calls Try.prog f1_ (([.agg #[.slice z0A0 z0.Ops.length z0p0]] : List Value) ++ c1_).toArray w (Ret (fun v w2 => v = .bool r ∧ Sat [] w w2 [] []))) (w1_ : Has w0 k1_) (r : Bool) (H : impl_areAll_impl_Txn.f l0 q1 = some r) :
    Calls Try.prog 107 #[.slice A0_ l0.length p0_, .func (.func f1_) #[] c1_.toArray] w0 (Ret (fun v w => v = .bool r ∧ Sat [] w0 w [] [])) := by
  have hs : Sat [] w0 w0 [(1, k0_), (2, k1_)] [] := Sat.init w0 [(1, k0_), (2, k1_)] [] (by simp only [List.mem_cons, List.not_mem_nil, or_false]; rintro x (rfl | rfl) <;> assumption) (by simp) List.nodup_nil (by simp [blks])
  unfold impl_areAll_impl_Txn.f at H
  refine enter Try.func107 rfl Try.ntmps107 rfl fun a hk => ?_
  apply wp_seq_k; intro K1 hK1
  apply wp_region_lit
  refine sbx 3 hs rfl hk rfl rfl rfl rfl fun b2 w a hk hs => ?_
  refine sa _ rfl hk rfl rfl rfl fun a hk => ?_
  show wpList _ _ _ [] _ _
  refine wpList_nil ?_
  refine hK1 _ _ ?_
  apply wp_seq_k; intro K3 hK3
  apply wp_region_lit
  refine sm _ rfl hk rfl rfl rfl fun a hk => ?_
  refine smf (cs := [.pointer (some ⟨b2, 0, none⟩)]) rfl hk rfl rfl rfl fun a hk => ?_
  obtain ⟨y4, h5, H⟩ := bind_some H
  refine sc rfl en131 hk rfl rfl rfl (slices_ContainsFunc_impl_Txn_impl_Txn_t _ A0_ p0_ l0 _ v0_ (hs.hasD (k := 1) rfl) 132 [.pointer (some ⟨b2, 0, none⟩)] en132 (fun z0 => impl_areAll_impl_Txn__c1.f z0 q1) ([(b2, .cells #[.func (.func f1_) #[] c1_.toArray] 115 (0, 0))] ++ k1_) (fun w hz z0 z0A0 z0p0 z0k0 z0v0 z0w0 r h => impl_areAll_impl_Txn__c1_t w z0 z0A0 z0p0 z0k0 z0v0 z0w0 _ f1_ c1_ e1_ q1 k1_ t1_ (Has.right hz) (Has.left hz) r h) (Has.app (hs.hasG (k := 3) rfl) (hs.hasD (k := 2) rfl)) _ h5) ?_
  rintro _ w ⟨rfl, hG⟩ a hk
  have hs := hs.call0 hG
  refine sv (.bool (!y4)) hk rfl rfl rfl fun a hk => ?_
  refine sa _ rfl hk rfl rfl rfl fun a hk => ?_
  show wpList _ _ _ [] _ _
  refine wpList_nil ?_
  refine hK3 _ _ ?_
  refine wp_ret ?_
  obtain rfl := Option.some.inj H
  exact fin hk _ [(.bool (!y4))] rfl ⟨rfl, trivial⟩ ⟨rfl, (hs.pick [] rfl).dnil⟩

noncomputable def slices_IndexFunc_impl_Op_impl_Op.s0 (l0 : List S_Op) (q1 : S_Op → Option (Bool)) (u4 : Int) : Option ((Int) ⊕ Ex (Unit) (Int)) :=
  (bif (decide (u4 < (l0.length : Int))) then (if 0 ≤ u4 ∧ u4 < (l0.length : Int) then ((q1 (l0.getD u4.toNat z_Op)).bind fun y23 => (bif y23 then (some (.inr (.ret u4))) else (some (.inl (w64 (u4 + 1)))))) else none) else (some (.inr (.out ()))))
noncomputable def slices_IndexFunc_impl_Op_impl_Op.f (l0 : List S_Op) (q1 : S_Op → Option (Bool)) : Option (Int) :=
  ((loopO (fun s => slices_IndexFunc_impl_Op_impl_Op.s0 l0 q1 s) 0).bind fun o => match o with | .out _ => (some (-1)) | .ret r => (some r))
set_option maxRecDepth 100000 in
set_option maxHeartbeats 0 in
theorem slices_IndexFunc_impl_Op_impl_Op_t (w0 : World) (A0_ : Option Addr) (p0_ : Nat) (l0 : List S_Op) (k0_ : Chunk) (v0_ : View L_Op A0_ p0_ l0 k0_) (w0_ : Has w0 k0_) (f1_ : FuncId) (c1_ : List Value) (e1_ : Enters Try.prog f1_) (q1 : S_Op → Option (Bool)) (k1_ : Chunk) (t1_ : ∀ w, Has w k1_ → ∀ (z0 : S_Op) (r : Bool), q1 z0 = some r → Calls Try.prog f1_ (([.agg #[.int .i64 z0.Kind, .int .i64 z0.Key, .int .i64 z0.Value]] : List Value) ++ c1_).toArray w (Ret (fun v w2 => v = .bool r ∧ Sat [] w w2 [] []))) (w1_ : Has w0 k1_) (r : Int) (H : slices_IndexFunc_impl_Op_impl_Op.f l0 q1 = some r) :
    Calls Try.prog 152 #[.slice A0_ l0.length p0_, .func (.func f1_) #[] c1_.toArray] w0 (Ret (fun v w => v = .int .i64 r ∧ Sat [] w0 w [] [])) := by
  have hs : Sat [] w0 w0 [(1, k0_), (2, k1_)] [] := Sat.init w0 [(1, k0_), (2, k1_)] [] (by simp only [List.mem_cons, List.not_mem_nil, or_false]; rintro x (rfl | rfl) <;> assumption) (by simp) List.nodup_nil (by simp [blks])
  unfold slices_IndexFunc_impl_Op_impl_Op.f at H
  refine enter Try.func152 rfl Try.ntmps152 rfl fun a hk => ?_
  apply wp_seq_k; intro K1 hK1
  apply wp_region_lit
  refine sa _ rfl hk rfl rfl rfl fun a hk => ?_
  show wpList _ _ _ [] _ _
  refine wpList_nil ?_
  refine hK1 _ _ ?_
  apply wp_seq_k; intro K2 hK2
  apply wp_seq_k; intro K3 hK3
  apply wp_region_lit
  refine sm _ rfl hk rfl rfl rfl fun a hk => ?_
  refine sle rfl hk rfl rfl rfl un90 fun a hk => ?_
  refine sm _ rfl hk rfl rfl rfl fun a hk => ?_
  show wpList _ _ _ [] _ _
  refine wpList_nil ?_
  refine hK3 _ _ ?_
  obtain ⟨o5, h6, HL7⟩ := bind_some H
  clear H
  obtain ⟨R8, hR8⟩ : ∃ R : Act → World → Prop, R = fun a w => o5 = .out () ∧ Kn [] 19 a ∧ Sat [] w0 w [(1, k0_), (2, k1_)] [] := ⟨_, rfl⟩
  refine wp_cutq R8 ?_ ?_
  · refine wp_block ?_
    obtain ⟨fu10, h6⟩ := loopO_some h6
    obtain ⟨I9, hI9⟩ : ∃ I : Nat → Act → World → Prop, I = fun fu a w => ∃ (u4 : Int), loopN (fun s => slices_IndexFunc_impl_Op_impl_Op.s0 l0 q1 s) fu u4 = some o5 ∧ Kn [(0, (.slice A0_ l0.length p0_)), (1, (.func (.func f1_) #[] c1_.toArray)), (7, (.int .i64 (l0.length : Int))), (8, (.int .i64 u4))] 19 a ∧ Sat [] w0 w [(1, k0_), (2, k1_)] [] := ⟨_, rfl⟩
    refine wp_loop_ghost I9 fu10 ?_ ?_
    · rw [hI9]
      exact ⟨0, h6, (hk.c 0 rfl (hk.c 1 rfl (hk.c 7 rfl (hk.c 8 rfl hk.k)))), (hs.pick [] rfl)⟩
    · clear h6 hk hs
      intro fu10 a w hI0
      rw [hI9] at hI0
      obtain ⟨u4, hi, hk, hs⟩ := hI0
      obtain ⟨x11, H, h12⟩ := loop_round hi
      try dsimp only at H
      unfold slices_IndexFunc_impl_Op_impl_Op.s0 at H
      apply wp_seq_k; intro K13 hK13
      apply wp_region_lit
      refine sv (.bool (decide (u4 < (l0.length : Int)))) hk rfl rfl rfl fun a hk => ?_
      show wpList _ _ _ [] _ _
      refine wpList_nil ?_
      refine hK13 _ _ ?_
      apply wp_seq_k; intro K14 hK14
      rcases cond_some H with ⟨c15, H⟩ | ⟨c15, H⟩
      · have hk := hk.lit 9 c15 rfl
        refine cnd_true hk rfl rfl ?_
        refine wp_skip ?_
        refine hK14 _ _ ?_
        apply wp_seq_k; intro K16 hK16
        refine wp_block ?_
        apply wp_seq_k; intro K17 hK17
        apply wp_region_lit
        refine sm _ rfl hk rfl rfl rfl fun a hk => ?_
        refine sa _ rfl hk rfl rfl rfl fun a hk => ?_
        show wpList _ _ _ [] _ _
        refine wpList_nil ?_
        refine hK17 _ _ ?_
        apply wp_seq_k; intro K18 hK18
        apply wp_region_lit
        refine sm _ rfl hk rfl rfl rfl fun a hk => ?_
        refine sm _ rfl hk rfl rfl rfl fun a hk => ?_
        refine sm _ rfl hk rfl rfl rfl fun a hk => ?_
        rcases ite_some H with ⟨c19, H⟩ | ⟨_, H⟩
        rotate_left
        · cases H
        obtain ⟨b20, q21, hAc19⟩ := (v0_).some_ u4 c19.1 c19.2
        refine si rfl hk rfl rfl rfl rfl un90 sz120 c19.1 c19.2 hAc19 fun a hk => ?_
        obtain ⟨_, rfl, e22⟩ := (v0_).at_ z_Op u4 c19.1 c19.2
        refine sln [.int .i64 ((l0.getD u4.toNat z_Op).Kind), .int .i64 ((l0.getD u4.toNat z_Op).Key), .int .i64 ((l0.getD u4.toNat z_Op).Value)] rfl hk rfl rfl rfl ag120 sz120 (cells_at e22 (hs.hasD (k := 1) rfl)) fun a hk => ?_
        obtain ⟨y23, h24, H⟩ := bind_some H
        refine scv (vs := ([(.agg #[.int .i64 ((l0.getD u4.toNat z_Op).Kind), .int .i64 ((l0.getD u4.toNat z_Op).Key), .int .i64 ((l0.getD u4.toNat z_Op).Value)])] : List Value) ++ c1_) rfl rfl e1_ hk rfl rfl rfl (t1_ _ (hs.hasD (k := 2) rfl) (l0.getD u4.toNat z_Op) _ h24) ?_
        rintro _ w ⟨rfl, hG⟩ a hk
        have hs := hs.call0 hG
        show wpList _ _ _ [] _ _
        refine wpList_nil ?_
        refine hK18 _ _ ?_
        rcases cond_some H with ⟨c25, H⟩ | ⟨c25, H⟩
        · have hk := hk.lit 16 c25 rfl
          refine cnd_true hk rfl rfl ?_
          apply wp_seq_k; intro K26 hK26
          apply wp_region_lit
          refine sm _ rfl hk rfl rfl rfl fun a hk => ?_
          refine sa _ rfl hk rfl rfl rfl fun a hk => ?_
          show wpList _ _ _ [] _ _
          refine wpList_nil ?_
          refine hK26 _ _ ?_
          refine wp_ret ?_
          obtain rfl := Option.some.inj H
          have ho5 := h12
          try dsimp only at ho5
          subst ho5
          have H := HL7
          try dsimp only at H
          obtain rfl := Option.some.inj H
          exact fin hk _ [(.int .i64 u4)] rfl ⟨rfl, trivial⟩ ⟨rfl, (hs.pick [] rfl).dnil⟩
        · have hk := hk.lit 16 c25 rfl
          refine cnd_false hk rfl rfl ?_
          refine wp_skip ?_
          refine hK16 _ _ ?_
          apply wp_region_lit
          refine sv (.int .i64 (w64 (u4 + 1))) hk rfl rfl rfl fun a hk => ?_
          refine sm _ rfl hk rfl rfl rfl fun a hk => ?_
          show wpList _ _ _ [] _ _
          refine wpList_nil ?_
          obtain rfl := Option.some.inj H
          obtain ⟨m27, hmm27, h12⟩ := h12
          show ∃ n', n' < _ ∧ I9 n' _ _
          refine ⟨m27, hmm27, ?_⟩
          rw [hI9]
          exact ⟨(w64 (u4 + 1)), h12, (hk.c 0 rfl (hk.c 1 rfl (hk.c 7 rfl (hk.c 8 rfl hk.k)))), (hs.pick [] rfl)⟩
      · have hk := hk.lit 9 c15 rfl
        refine cnd_false hk rfl rfl ?_
        refine wp_exit ?_
        obtain rfl := Option.some.inj H
        show R8 _ _
        rw [hR8]
        exact ⟨h12.symm, hk.k, (hs.pick [] rfl)⟩
  · intro a w hR0
    rw [hR8] at hR0
    obtain ⟨rfl, hk, hs⟩ := hR0
    have H := HL7
    try dsimp only at H
    refine hK2 _ _ ?_
    apply wp_seq_k; intro K28 hK28
    apply wp_region_lit
    refine sa _ rfl hk rfl rfl rfl fun a hk => ?_
    show wpList _ _ _ [] _ _
    refine wpList_nil ?_
    refine hK28 _ _ ?_
    refine wp_ret ?_
    obtain rfl := Option.some.inj H
    exact fin hk _ [(.int .i64 (-1))] rfl ⟨rfl, trivial⟩ ⟨rfl, (hs.pick [] rfl).dnil⟩

noncomputable def slices_ContainsFunc_impl_Op_impl_Op.f (l0 : List S_Op) (q1 : S_Op → Option (Bool)) : Option (Bool) :=
  ((slices_IndexFunc_impl_Op_impl_Op.f l0 q1).bind fun y3 => (some (decide (y3 ≥ 0))))
set_option maxRecDepth 100000 in
set_option maxHeartbeats 0 in
theorem slices_ContainsFunc_impl_Op_impl_Op_t (w0 : World) (A0_ : Option Addr) (p0_ : Nat) (l0 : List S_Op) (k0_ : Chunk) (v0_ : View L_Op A0_ p0_ l0 k0_) (w0_ : Has w0 k0_) (f1_ : FuncId) (c1_ : List Value) (e1_ : Enters Try.prog f1_) (q1 : S_Op → Option (Bool)) (k1_ : Chunk) (t1_ : ∀ w, Has w k1_ → ∀ (z0 : S_Op) (r : Bool), q1 z0 = some r → Calls Try.prog f1_ (([.agg #[.int .i64 z0.Kind, .int .i64 z0.Key, .int .i64 z0.Value]] : List Value) ++ c1_).toArray w (Ret (fun v w2 => v = .bool r ∧ Sat [] w w2 [] []))) (w1_ : Has w0 k1_) (r : Bool) (H : slices_ContainsFunc_impl_Op_impl_Op.f l0 q1 = some r) :
    Calls Try.prog 144 #[.slice A0_ l0.length p0_, .func (.func f1_) #[] c1_.toArray] w0 (Ret (fun v w => v = .bool r ∧ Sat [] w0 w [] [])) := by
  have hs : Sat [] w0 w0 [(1, k0_), (2, k1_)] [] := Sat.init w0 [(1, k0_), (2, k1_)] [] (by simp only [List.mem_cons, List.not_mem_nil, or_false]; rintro x (rfl | rfl) <;> assumption) (by simp) List.nodup_nil (by simp [blks])
  unfold slices_ContainsFunc_impl_Op_impl_Op.f at H
  refine enter Try.func144 rfl Try.ntmps144 rfl fun a hk => ?_
  apply wp_seq_k; intro K1 hK1
  apply wp_region_lit
  refine sa _ rfl hk rfl rfl rfl fun a hk => ?_
  show wpList _ _ _ [] _ _
  refine wpList_nil ?_
  refine hK1 _ _ ?_
  apply wp_seq_k; intro K2 hK2
  apply wp_region_lit
  refine sm _ rfl hk rfl rfl rfl fun a hk => ?_
  refine sm _ rfl hk rfl rfl rfl fun a hk => ?_
  obtain ⟨y3, h4, H⟩ := bind_some H
  refine sc rfl en152 hk rfl rfl rfl (slices_IndexFunc_impl_Op_impl_Op_t _ A0_ p0_ l0 _ v0_ (hs.hasD (k := 1) rfl) f1_ c1_ e1_ q1 k1_ t1_ (hs.hasD (k := 2) rfl) _ h4) ?_
  rintro _ w ⟨rfl, hG⟩ a hk
  have hs := hs.call0 hG
  refine sv (.bool (decide (y3 ≥ 0))) hk rfl rfl rfl fun a hk => ?_
  refine sa _ rfl hk rfl rfl rfl fun a hk => ?_
  show wpList _ _ _ [] _ _
  refine wpList_nil ?_
  refine hK2 _ _ ?_
  refine wp_ret ?_
  obtain rfl := Option.some.inj H
  exact fin hk _ [(.bool (decide (y3 ≥ 0)))] rfl ⟨rfl, trivial⟩ ⟨rfl, (hs.pick [] rfl).dnil⟩

noncomputable def impl_areAll_impl_Op__c1.f (x0 : S_Op) (q1 : S_Op → Option (Bool)) : Option (Bool) :=
  ((q1 x0).bind fun y4 => (some (!y4)))
set_option maxRecDepth 100000 in
set_option maxHeartbeats 0 in
theorem impl_areAll_impl_Op__c1_t (w0 : World) (x0 : S_Op) (b1_ : Nat) (f1_ : FuncId) (c1_ : List Value) (e1_ : Enters Try.prog f1_) (q1 : S_Op → Option (Bool)) (k1_ : Chunk) (t1_ : ∀ w, Has w k1_ → ∀ (z0 : S_Op) (r : Bool), q1 z0 = some r → Calls Try.prog f1_ (([.agg #[.int .i64 z0.Kind, .int .i64 z0.Key, .int .i64 z0.Value]] : List Value) ++ c1_).toArray w (Ret (fun v w2 => v = .bool r ∧ Sat [] w w2 [] []))) (w1_ : Has w0 k1_) (h1_ : Has w0 [(b1_, .cells #[.func (.func f1_) #[] c1_.toArray] 136 (0, 0))]) (r : Bool) (H : impl_areAll_impl_Op__c1.f x0 q1 = some r) :
    Calls Try.prog 145 #[.agg #[.int .i64 x0.Kind, .int .i64 x0.Key, .int .i64 x0.Value], .pointer (some ⟨b1_, 0, none⟩)] w0 (Ret (fun v w => v = .bool r ∧ Sat [] w0 w [] [])) := by
  have hs : Sat [] w0 w0 [(2, k1_), (1, [(b1_, .cells #[.func (.func f1_) #[] c1_.toArray] 136 (0, 0))])] [] := Sat.init w0 [(2, k1_), (1, [(b1_, .cells #[.func (.func f1_) #[] c1_.toArray] 136 (0, 0))])] [] (by simp only [List.mem_cons, List.not_mem_nil, or_false]; rintro x (rfl | rfl) <;> assumption) (by simp) List.nodup_nil (by simp [blks])
  unfold impl_areAll_impl_Op__c1.f at H
  refine enter Try.func145 rfl Try.ntmps145 rfl fun a hk => ?_
  apply wp_seq_k; intro K1 hK1
  apply wp_region_lit
  refine sbx 3 hs rfl hk rfl rfl rfl rfl fun b2 w a hk hs => ?_
  refine sa _ rfl hk rfl rfl rfl fun a hk => ?_
  show wpList _ _ _ [] _ _
  refine wpList_nil ?_
  refine hK1 _ _ ?_
  apply wp_seq_k; intro K3 hK3
  apply wp_region_lit
  refine sl rfl hk rfl rfl rfl ag136 (box_cellD hs (k := 1) rfl rfl) fun a hk => ?_
  refine sln [.int .i64 x0.Kind, .int .i64 x0.Key, .int .i64 x0.Value] rfl hk rfl rfl rfl ag120 sz120 (box_cells hs (k := 3) rfl) fun a hk => ?_
  obtain ⟨y4, h5, H⟩ := bind_some H
  refine scv (vs := ([(.agg #[.int .i64 x0.Kind, .int .i64 x0.Key, .int .i64 x0.Value])] : List Value) ++ c1_) rfl rfl e1_ hk rfl rfl rfl (t1_ _ (hs.hasD (k := 2) rfl) x0 _ h5) ?_
  rintro _ w ⟨rfl, hG⟩ a hk
  have hs := hs.call0 hG
  refine sv (.bool (!y4)) hk rfl rfl rfl fun a hk => ?_
  refine sa _ rfl hk rfl rfl rfl fun a hk => ?_
  show wpList _ _ _ [] _ _
  refine wpList_nil ?_
  refine hK3 _ _ ?_
  refine wp_ret ?_
  obtain rfl := Option.some.inj H
  exact fin hk _ [(.bool (!y4))] rfl ⟨rfl, trivial⟩ ⟨rfl, (hs.pick [] rfl).dnil⟩

noncomputable def impl_areAll_impl_Op.f (l0 : List S_Op) (q1 : S_Op → Option (Bool)) : Option (Bool) :=
  ((slices_ContainsFunc_impl_Op_impl_Op.f l0 (fun z0 => impl_areAll_impl_Op__c1.f z0 q1)).bind fun y4 => (some (!y4)))
set_option maxRecDepth 100000 in
set_option maxHeartbeats 0 in
theorem impl_areAll_impl_Op_t (w0 : World) (A0_ : Option Addr) (p0_ : Nat) (l0 : List S_Op) (k0_ : Chunk) (v0_ : View L_Op A0_ p0_ l0 k0_) (w0_ : Has w0 k0_) (f1_ : FuncId) (c1_ : List Value) (e1_ : Enters Try.prog f1_) (q1 : S_Op → Option (Bool)) (k1_ : Chunk) (t1_ : ∀ w, Has w k1_ → ∀ (z0 : S_Op) (r : Bool), q1 z0 = some r → Calls Try.prog f1_ (([.agg #[.int .i64 z0.Kind, .int .i64 z0.Key, .int .i64 z0.Value]] : List Value) ++ c1_).toArray w (Ret (fun v w2 => v = .bool r ∧ Sat [] w w2 [] []))) (w1_ : Has w0 k1_) (r : Bool) (H : impl_areAll_impl_Op.f l0 q1 = some r) :
    Calls Try.prog 133 #[.slice A0_ l0.length p0_, .func (.func f1_) #[] c1_.toArray] w0 (Ret (fun v w => v = .bool r ∧ Sat [] w0 w [] [])) := by
  have hs : Sat [] w0 w0 [(1, k0_), (2, k1_)] [] := Sat.init w0 [(1, k0_), (2, k1_)] [] (by simp only [List.mem_cons, List.not_mem_nil, or_false]; rintro x (rfl | rfl) <;> assumption) (by simp) List.nodup_nil (by simp [blks])
  unfold impl_areAll_impl_Op.f at H
  refine enter Try.func133 rfl Try.ntmps133 rfl fun a hk => ?_
  apply wp_seq_k; intro K1 hK1
  apply wp_region_lit
  refine sbx 3 hs rfl hk rfl rfl rfl rfl fun b2 w a hk hs => ?_
  refine sa _ rfl hk rfl rfl rfl fun a hk => ?_
  show wpList _ _ _ [] _ _
  refine wpList_nil ?_
  refine hK1 _ _ ?_
  apply wp_seq_k; intro K3 hK3
  apply wp_region_lit
  refine sm _ rfl hk rfl rfl rfl fun a hk => ?_
  refine smf (cs := [.pointer (some ⟨b2, 0, none⟩)]) rfl hk rfl rfl rfl fun a hk => ?_
  obtain ⟨y4, h5, H⟩ := bind_some H
  refine sc rfl en144 hk rfl rfl rfl (slices_ContainsFunc_impl_Op_impl_Op_t _ A0_ p0_ l0 _ v0_ (hs.hasD (k := 1) rfl) 145 [.pointer (some ⟨b2, 0, none⟩)] en145 (fun z0 => impl_areAll_impl_Op__c1.f z0 q1) ([(b2, .cells #[.func (.func f1_) #[] c1_.toArray] 136 (0, 0))] ++ k1_) (fun w hz z0 r h => impl_areAll_impl_Op__c1_t w z0 _ f1_ c1_ e1_ q1 k1_ t1_ (Has.right hz) (Has.left hz) r h) (Has.app (hs.hasG (k := 3) rfl) (hs.hasD (k := 2) rfl)) _ h5) ?_
  rintro _ w ⟨rfl, hG⟩ a hk
  have hs := hs.call0 hG
  refine sv (.bool (!y4)) hk rfl rfl rfl fun a hk => ?_
  refine sa _ rfl hk rfl rfl rfl fun a hk => ?_
  show wpList _ _ _ [] _ _
  refine wpList_nil ?_
  refine hK3 _ _ ?_
  refine wp_ret ?_
  obtain rfl := Option.some.inj H
  exact fin hk _ [(.bool (!y4))] rfl ⟨rfl, trivial⟩ ⟨rfl, (hs.pick [] rfl).dnil⟩

noncomputable def impl_isKey.f (x0 : Int) : Option (Bool) :=
  ((impl_within.f x0 1 9999).bind fun y3 => (some y3))
set_option maxRecDepth 100000 in
set_option maxHeartbeats 0 in
theorem impl_isKey_t (w0 : World) (x0 : Int) (r : Bool) (H : impl_isKey.f x0 = some r) :
    Calls Try.prog 146 #[.int .i64 x0] w0 (Ret (fun v w => v = .bool r ∧ Sat [] w0 w [] [])) := by
  have hs : Sat [] w0 w0 [] [] := Sat.init w0 [] [] (by simp) (by simp) List.nodup_nil (by simp [blks])
  unfold impl_isKey.f at H
  refine enter Try.func146 rfl Try.ntmps146 rfl fun a hk => ?_
  apply wp_seq_k; intro K1 hK1
  apply wp_region_lit
  refine sa _ rfl hk rfl rfl rfl fun a hk => ?_
  show wpList _ _ _ [] _ _
  refine wpList_nil ?_
  refine hK1 _ _ ?_
  apply wp_seq_k; intro K2 hK2
  apply wp_region_lit
  refine sm _ rfl hk rfl rfl rfl fun a hk => ?_
  obtain ⟨y3, h4, H⟩ := bind_some H
  refine sc rfl en65 hk rfl rfl rfl (impl_within_t _ x0 1 9999 _ h4) ?_
  rintro _ w ⟨rfl, hG⟩ a hk
  have hs := hs.call0 hG
  refine sa _ rfl hk rfl rfl rfl fun a hk => ?_
  show wpList _ _ _ [] _ _
  refine wpList_nil ?_
  refine hK2 _ _ ?_
  refine wp_ret ?_
  obtain rfl := Option.some.inj H
  exact fin hk _ [(.bool y3)] rfl ⟨rfl, trivial⟩ ⟨rfl, (hs.pick [] rfl).dnil⟩

noncomputable def impl_isBare.f (x0 : Int) : Option (Bool) :=
  (((bif (x0 == 1) then (some true) else (some (x0 == 3))) : Option (Bool)).bind fun u3 => (some u3))
set_option maxRecDepth 100000 in
set_option maxHeartbeats 0 in
theorem impl_isBare_t (w0 : World) (x0 : Int) (r : Bool) (H : impl_isBare.f x0 = some r) :
    Calls Try.prog 147 #[.int .i64 x0] w0 (Ret (fun v w => v = .bool r ∧ Sat [] w0 w [] [])) := by
  have hs : Sat [] w0 w0 [] [] := Sat.init w0 [] [] (by simp) (by simp) List.nodup_nil (by simp [blks])
  unfold impl_isBare.f at H
  refine enter Try.func147 rfl Try.ntmps147 rfl fun a hk => ?_
  apply wp_seq_k; intro K1 hK1
  apply wp_region_lit
  refine sa _ rfl hk rfl rfl rfl fun a hk => ?_
  show wpList _ _ _ [] _ _
  refine wpList_nil ?_
  refine hK1 _ _ ?_
  apply wp_seq_k; intro K2 hK2
  obtain ⟨o4, h5, HL6⟩ := bind_some H
  clear H
  obtain ⟨R7, hR7⟩ : ∃ R : Act → World → Prop, R = fun a w => ∃ (u3 : Bool), u3 = o4 ∧ Kn [(2, (.bool u3))] 9 a ∧ Sat [] w0 w [] [] := ⟨_, rfl⟩
  refine wp_cutq R7 ?_ ?_
  · have H := h5
    apply wp_region_lit
    refine sm _ rfl hk rfl rfl rfl fun a hk => ?_
    refine sv (.bool (x0 == 1)) hk rfl rfl rfl fun a hk => ?_
    refine sm _ rfl hk rfl rfl rfl fun a hk => ?_
    rcases cond_some H with ⟨c8, H⟩ | ⟨c8, H⟩
    · have hk := hk.lit 5 c8 rfl
      refine sk hk rfl rfl rfl fun a hk => ?_
      refine sk hk rfl rfl rfl fun a hk => ?_
      refine sv (.bool true) hk rfl rfl rfl fun a hk => ?_
      refine sa _ rfl hk rfl rfl rfl fun a hk => ?_
      show wpList _ _ _ [] _ _
      refine wpList_nil ?_
      obtain rfl := Option.some.inj H
      show R7 _ _
      rw [hR7]
      exact ⟨true, rfl, (hk.c 2 rfl hk.k), (hs.pick [] rfl)⟩
    · have hk := hk.lit 5 c8 rfl
      refine sm _ rfl hk rfl rfl rfl fun a hk => ?_
      refine sv (.bool (x0 == 3)) hk rfl rfl rfl fun a hk => ?_
      refine sv (.bool (x0 == 3)) hk rfl rfl rfl fun a hk => ?_
      refine sa _ rfl hk rfl rfl rfl fun a hk => ?_
      show wpList _ _ _ [] _ _
      refine wpList_nil ?_
      obtain rfl := Option.some.inj H
      show R7 _ _
      rw [hR7]
      exact ⟨(x0 == 3), rfl, (hk.c 2 rfl hk.k), (hs.pick [] rfl)⟩
  · intro a w hR0
    rw [hR7] at hR0
    obtain ⟨u3, rfl, hk, hs⟩ := hR0
    have H := HL6
    try dsimp only at H
    refine hK2 _ _ ?_
    refine wp_ret ?_
    obtain rfl := Option.some.inj H
    exact fin hk _ [(.bool u3)] rfl ⟨rfl, trivial⟩ ⟨rfl, (hs.pick [] rfl).dnil⟩

noncomputable def impl_isValue.f (x0 : Int) : Option (Bool) :=
  ((impl_within.f x0 0 999999).bind fun y3 => (some y3))
set_option maxRecDepth 100000 in
set_option maxHeartbeats 0 in
theorem impl_isValue_t (w0 : World) (x0 : Int) (r : Bool) (H : impl_isValue.f x0 = some r) :
    Calls Try.prog 148 #[.int .i64 x0] w0 (Ret (fun v w => v = .bool r ∧ Sat [] w0 w [] [])) := by
  have hs : Sat [] w0 w0 [] [] := Sat.init w0 [] [] (by simp) (by simp) List.nodup_nil (by simp [blks])
  unfold impl_isValue.f at H
  refine enter Try.func148 rfl Try.ntmps148 rfl fun a hk => ?_
  apply wp_seq_k; intro K1 hK1
  apply wp_region_lit
  refine sa _ rfl hk rfl rfl rfl fun a hk => ?_
  show wpList _ _ _ [] _ _
  refine wpList_nil ?_
  refine hK1 _ _ ?_
  apply wp_seq_k; intro K2 hK2
  apply wp_region_lit
  refine sm _ rfl hk rfl rfl rfl fun a hk => ?_
  obtain ⟨y3, h4, H⟩ := bind_some H
  refine sc rfl en65 hk rfl rfl rfl (impl_within_t _ x0 0 999999 _ h4) ?_
  rintro _ w ⟨rfl, hG⟩ a hk
  have hs := hs.call0 hG
  refine sa _ rfl hk rfl rfl rfl fun a hk => ?_
  show wpList _ _ _ [] _ _
  refine wpList_nil ?_
  refine hK2 _ _ ?_
  refine wp_ret ?_
  obtain rfl := Option.some.inj H
  exact fin hk _ [(.bool y3)] rfl ⟨rfl, trivial⟩ ⟨rfl, (hs.pick [] rfl).dnil⟩

noncomputable def impl_OpOK.f (x0 : S_Op) : Option (Bool) :=
  ((((impl_within.f x0.Kind 1 6).bind fun y10 => (bif (!y10) then (some true) else ((impl_isKey.f x0.Key).bind fun y13 => (some (!y13))))) : Option (Bool)).bind fun u5 => (bif u5 then (some false) else ((impl_isBare.f x0.Kind).bind fun y19 => (bif y19 then (some (x0.Value == 0)) else (bif (x0.Kind == 6) then ((impl_within.f x0.Value 1 4).bind fun y26 => (some y26)) else ((impl_isValue.f x0.Value).bind fun y29 => (some y29)))))))
set_option maxRecDepth 100000 in
set_option maxHeartbeats 0 in
theorem impl_OpOK_t (w0 : World) (x0 : S_Op) (r : Bool) (H : impl_OpOK.f x0 = some r) :
    Calls Try.prog 134 #[.agg #[.int .i64 x0.Kind, .int .i64 x0.Key, .int .i64 x0.Value]] w0 (Ret (fun v w => v = .bool r ∧ Sat [] w0 w [] [])) := by
  have hs : Sat [] w0 w0 [] [] := Sat.init w0 [] [] (by simp) (by simp) List.nodup_nil (by simp [blks])
  unfold impl_OpOK.f at H
  refine enter Try.func134 rfl Try.ntmps134 rfl fun a hk => ?_
  apply wp_seq_k; intro K1 hK1
  apply wp_region_lit
  refine sbx 1 hs rfl hk rfl rfl rfl rfl fun b2 w a hk hs => ?_
  refine sa _ rfl hk rfl rfl rfl fun a hk => ?_
  show wpList _ _ _ [] _ _
  refine wpList_nil ?_
  refine hK1 _ _ ?_
  apply wp_seq_k; intro K3 hK3
  apply wp_seq_k; intro K4 hK4
  obtain ⟨o6, h7, HL8⟩ := bind_some H
  clear H
  obtain ⟨R9, hR9⟩ : ∃ R : Act → World → Prop, R = fun a w => ∃ (u5 : Bool), u5 = o6 ∧ Kn [(1, (.pointer (some ⟨b2, 0, none⟩))), (12, (.bool u5))] 30 a ∧ Sat [] w0 w [] [(1, [(b2, .cells #[.int .i64 x0.Kind, .int .i64 x0.Key, .int .i64 x0.Value] 120 (0, 0))])] := ⟨_, rfl⟩
  refine wp_cutq R9 ?_ ?_
  · have H := h7
    apply wp_region_lit
    refine sf ⟨b2, 0, none⟩ rfl hk rfl rfl rfl fd120_0 rfl fun a hk => ?_
    refine sl rfl hk rfl rfl rfl ag3 (box_cell hs (k := 1) rfl rfl) fun a hk => ?_
    obtain ⟨y10, h11, H⟩ := bind_some H
    refine sc rfl en65 hk rfl rfl rfl (impl_within_t _ x0.Kind 1 6 _ h11) ?_
    rintro _ w ⟨rfl, hG⟩ a hk
    have hs := hs.call0 hG
    refine sv (.bool (!y10)) hk rfl rfl rfl fun a hk => ?_
    refine sm _ rfl hk rfl rfl rfl fun a hk => ?_
    rcases cond_some H with ⟨c12, H⟩ | ⟨c12, H⟩
    · have hk := hk.lit 7 c12 rfl
      refine sk hk rfl rfl rfl fun a hk => ?_
      refine sk hk rfl rfl rfl fun a hk => ?_
      refine sk hk rfl rfl rfl fun a hk => ?_
      refine sk hk rfl rfl rfl fun a hk => ?_
      refine sv (.bool true) hk rfl rfl rfl fun a hk => ?_
      show wpList _ _ _ [] _ _
      refine wpList_nil ?_
      obtain rfl := Option.some.inj H
      show R9 _ _
      rw [hR9]
      exact ⟨true, rfl, (hk.c 1 rfl (hk.c 12 rfl hk.k)), (hs.pick [(1, 1)] rfl)⟩
    · have hk := hk.lit 7 c12 rfl
      refine sf ⟨b2, 1, none⟩ rfl hk rfl rfl rfl fd120_1 rfl fun a hk => ?_
      refine sl rfl hk rfl rfl rfl ag3 (box_cell hs (k := 1) rfl rfl) fun a hk => ?_
      obtain ⟨y13, h14, H⟩ := bind_some H
      refine sc rfl en146 hk rfl rfl rfl (impl_isKey_t _ x0.Key _ h14) ?_
      rintro _ w ⟨rfl, hG⟩ a hk
      have hs := hs.call0 hG
      refine sv (.bool (!y13)) hk rfl rfl rfl fun a hk => ?_
      refine sv (.bool (!y13)) hk rfl rfl rfl fun a hk => ?_
      show wpList _ _ _ [] _ _
      refine wpList_nil ?_
      obtain rfl := Option.some.inj H
      show R9 _ _
      rw [hR9]
      exact ⟨(!y13), rfl, (hk.c 1 rfl (hk.c 12 rfl hk.k)), (hs.pick [(1, 1)] rfl)⟩
  · intro a w hR0
    rw [hR9] at hR0
    obtain ⟨u5, rfl, hk, hs⟩ := hR0
    have H := HL8
    try dsimp only at H
    refine hK4 _ _ ?_
    rcases cond_some H with ⟨c15, H⟩ | ⟨c15, H⟩
    · have hk := hk.lit 12 c15 rfl
      refine cnd_true hk rfl rfl ?_
      apply wp_seq_k; intro K16 hK16
      apply wp_region_lit
      refine sa _ rfl hk rfl rfl rfl fun a hk => ?_
      show wpList _ _ _ [] _ _
      refine wpList_nil ?_
      refine hK16 _ _ ?_
      refine wp_ret ?_
      obtain rfl := Option.some.inj H
      exact fin hk _ [(.bool false)] rfl ⟨rfl, trivial⟩ ⟨rfl, (hs.pick [] rfl).dnil⟩
    · have hk := hk.lit 12 c15 rfl
      refine cnd_false hk rfl rfl ?_
      refine wp_skip ?_
      refine hK3 _ _ ?_
      apply wp_seq_k; intro K17 hK17
      refine wp_block ?_
      apply wp_seq_k; intro K18 hK18
      apply wp_region_lit
      refine sf ⟨b2, 0, none⟩ rfl hk rfl rfl rfl fd120_0 rfl fun a hk => ?_
      refine sl rfl hk rfl rfl rfl ag3 (box_cell hs (k := 1) rfl rfl) fun a hk => ?_
      obtain ⟨y19, h20, H⟩ := bind_some H
      refine sc rfl en147 hk rfl rfl rfl (impl_isBare_t _ x0.Kind _ h20) ?_
      rintro _ w ⟨rfl, hG⟩ a hk
      have hs := hs.call0 hG
      refine sa _ rfl hk rfl rfl rfl fun a hk => ?_
      show wpList _ _ _ [] _ _
      refine wpList_nil ?_
      refine hK18 _ _ ?_
      rcases cond_some H with ⟨c21, H⟩ | ⟨c21, H⟩
      · have hk := hk.lit 13 c21 rfl
        refine cnd_true hk rfl rfl ?_
        apply wp_seq_k; intro K22 hK22
        apply wp_region_lit
        refine sf ⟨b2, 2, none⟩ rfl hk rfl rfl rfl fd120_2 rfl fun a hk => ?_
        refine sl rfl hk rfl rfl rfl ag3 (box_cell hs (k := 1) rfl rfl) fun a hk => ?_
        refine sv (.bool (x0.Value == 0)) hk rfl rfl rfl fun a hk => ?_
        refine sa _ rfl hk rfl rfl rfl fun a hk => ?_
        show wpList _ _ _ [] _ _
        refine wpList_nil ?_
        refine hK22 _ _ ?_
        refine wp_ret ?_
        obtain rfl := Option.some.inj H
        exact fin hk _ [(.bool (x0.Value == 0))] rfl ⟨rfl, trivial⟩ ⟨rfl, (hs.pick [] rfl).dnil⟩
      · have hk := hk.lit 13 c21 rfl
        refine cnd_false hk rfl rfl ?_
        apply wp_seq_k; intro K23 hK23
        apply wp_region_lit
        refine sf ⟨b2, 0, none⟩ rfl hk rfl rfl rfl fd120_0 rfl fun a hk => ?_
        refine sl rfl hk rfl rfl rfl ag3 (box_cell hs (k := 1) rfl rfl) fun a hk => ?_
        refine sv (.bool (x0.Kind == 6)) hk rfl rfl rfl fun a hk => ?_
        refine sa _ rfl hk rfl rfl rfl fun a hk => ?_
        show wpList _ _ _ [] _ _
        refine wpList_nil ?_
        refine hK23 _ _ ?_
        rcases cond_some H with ⟨c24, H⟩ | ⟨c24, H⟩
        · have hk := hk.lit 20 c24 rfl
          refine cnd_true hk rfl rfl ?_
          apply wp_seq_k; intro K25 hK25
          apply wp_region_lit
          refine sf ⟨b2, 2, none⟩ rfl hk rfl rfl rfl fd120_2 rfl fun a hk => ?_
          refine sl rfl hk rfl rfl rfl ag3 (box_cell hs (k := 1) rfl rfl) fun a hk => ?_
          obtain ⟨y26, h27, H⟩ := bind_some H
          refine sc rfl en65 hk rfl rfl rfl (impl_within_t _ x0.Value 1 4 _ h27) ?_
          rintro _ w ⟨rfl, hG⟩ a hk
          have hs := hs.call0 hG
          refine sa _ rfl hk rfl rfl rfl fun a hk => ?_
          show wpList _ _ _ [] _ _
          refine wpList_nil ?_
          refine hK25 _ _ ?_
          refine wp_ret ?_
          obtain rfl := Option.some.inj H
          exact fin hk _ [(.bool y26)] rfl ⟨rfl, trivial⟩ ⟨rfl, (hs.pick [] rfl).dnil⟩
        · have hk := hk.lit 20 c24 rfl
          refine cnd_false hk rfl rfl ?_
          refine wp_skip ?_
          refine hK17 _ _ ?_
          apply wp_seq_k; intro K28 hK28
          apply wp_region_lit
          refine sf ⟨b2, 2, none⟩ rfl hk rfl rfl rfl fd120_2 rfl fun a hk => ?_
          refine sl rfl hk rfl rfl rfl ag3 (box_cell hs (k := 1) rfl rfl) fun a hk => ?_
          obtain ⟨y29, h30, H⟩ := bind_some H
          refine sc rfl en148 hk rfl rfl rfl (impl_isValue_t _ x0.Value _ h30) ?_
          rintro _ w ⟨rfl, hG⟩ a hk
          have hs := hs.call0 hG
          refine sa _ rfl hk rfl rfl rfl fun a hk => ?_
          show wpList _ _ _ [] _ _
          refine wpList_nil ?_
          refine hK28 _ _ ?_
          refine wp_ret ?_
          obtain rfl := Option.some.inj H
          exact fin hk _ [(.bool y29)] rfl ⟨rfl, trivial⟩ ⟨rfl, (hs.pick [] rfl).dnil⟩

noncomputable def impl_isTxn.f (x0 : S_Txn) : Option (Bool) :=
  ((((impl_within.f (x0.Ops.length : Int) 1 4).bind fun y9 => (bif y9 then ((impl_areAll_impl_Op.f x0.Ops impl_OpOK.f).bind fun y12 => (some y12)) else (some false))) : Option (Bool)).bind fun u4 => (some u4))
set_option maxRecDepth 100000 in
set_option maxHeartbeats 0 in
theorem impl_isTxn_t (w0 : World) (x0 : S_Txn) (A0_0 : Option Addr) (p0_0 : Nat) (k0_0 : Chunk) (v0_0 : View L_Op A0_0 p0_0 x0.Ops k0_0) (w0_0 : Has w0 k0_0) (r : Bool) (H : impl_isTxn.f x0 = some r) :
    Calls Try.prog 108 #[.agg #[.slice A0_0 x0.Ops.length p0_0]] w0 (Ret (fun v w => v = .bool r ∧ Sat [] w0 w [] [])) := by
  have hs : Sat [] w0 w0 [(1, k0_0)] [] := Sat.init w0 [(1, k0_0)] [] (by simp only [List.mem_cons, List.not_mem_nil, or_false]; rintro x (rfl) <;> assumption) (by simp) List.nodup_nil (by simp [blks])
  unfold impl_isTxn.f at H
  refine enter Try.func108 rfl Try.ntmps108 rfl fun a hk => ?_
  apply wp_seq_k; intro K1 hK1
  apply wp_region_lit
  refine sbx 2 hs rfl hk rfl rfl rfl rfl fun b2 w a hk hs => ?_
  refine sa _ rfl hk rfl rfl rfl fun a hk => ?_
  show wpList _ _ _ [] _ _
  refine wpList_nil ?_
  refine hK1 _ _ ?_
  apply wp_seq_k; intro K3 hK3
  obtain ⟨o5, h6, HL7⟩ := bind_some H
  clear H
  obtain ⟨R8, hR8⟩ : ∃ R : Act → World → Prop, R = fun a w => ∃ (u4 : Bool), u4 = o5 ∧ Kn [(2, (.bool u4))] 12 a ∧ Sat [] w0 w [(1, k0_0)] [] := ⟨_, rfl⟩
  refine wp_cutq R8 ?_ ?_
  · have H := h6
    apply wp_region_lit
    refine sf ⟨b2, 0, none⟩ rfl hk rfl rfl rfl fd92_0 rfl fun a hk => ?_
    refine sl rfl hk rfl rfl rfl ag90 (box_cell hs (k := 2) rfl rfl) fun a hk => ?_
    refine sle rfl hk rfl rfl rfl un90 fun a hk => ?_
    obtain ⟨y9, h10, H⟩ := bind_some H
    refine sc rfl en65 hk rfl rfl rfl (impl_within_t _ (x0.Ops.length : Int) 1 4 _ h10) ?_
    rintro _ w ⟨rfl, hG⟩ a hk
    have hs := hs.call0 hG
    refine sm _ rfl hk rfl rfl rfl fun a hk => ?_
    rcases cond_some H with ⟨c11, H⟩ | ⟨c11, H⟩
    · have hk := hk.lit 7 c11 rfl
      refine sf ⟨b2, 0, none⟩ rfl hk rfl rfl rfl fd92_0 rfl fun a hk => ?_
      refine sl rfl hk rfl rfl rfl ag90 (box_cell hs (k := 2) rfl rfl) fun a hk => ?_
      obtain ⟨y12, h13, H⟩ := bind_some H
      refine sc rfl en133 hk rfl rfl rfl (impl_areAll_impl_Op_t _ A0_0 p0_0 x0.Ops _ v0_0 (hs.hasD (k := 1) rfl) 134 [] en134 impl_OpOK.f [] (fun w _ z0 r h => impl_OpOK_t w z0 r h) (Has.nil _) _ h13) ?_
      rintro _ w ⟨rfl, hG⟩ a hk
      have hs := hs.call0 hG
      refine sv (.bool y12) hk rfl rfl rfl fun a hk => ?_
      refine sa _ rfl hk rfl rfl rfl fun a hk => ?_
      show wpList _ _ _ [] _ _
      refine wpList_nil ?_
      obtain rfl := Option.some.inj H
      show R8 _ _
      rw [hR8]
      exact ⟨y12, rfl, (hk.c 2 rfl hk.k), (hs.pick [] rfl)⟩
    · have hk := hk.lit 7 c11 rfl
      refine sk hk rfl rfl rfl fun a hk => ?_
      refine sk hk rfl rfl rfl fun a hk => ?_
      refine sk hk rfl rfl rfl fun a hk => ?_
      refine sv (.bool false) hk rfl rfl rfl fun a hk => ?_
      refine sa _ rfl hk rfl rfl rfl fun a hk => ?_
      show wpList _ _ _ [] _ _
      refine wpList_nil ?_
      obtain rfl := Option.some.inj H
      show R8 _ _
      rw [hR8]
      exact ⟨false, rfl, (hk.c 2 rfl hk.k), (hs.pick [] rfl)⟩
  · intro a w hR0
    rw [hR8] at hR0
    obtain ⟨u4, rfl, hk, hs⟩ := hR0
    have H := HL7
    try dsimp only at H
    refine hK3 _ _ ?_
    refine wp_ret ?_
    obtain rfl := Option.some.inj H
    exact fin hk _ [(.bool u4)] rfl ⟨rfl, trivial⟩ ⟨rfl, (hs.pick [] rfl).dnil⟩

noncomputable def impl_BatchOK.f (l0 : List S_Txn) : Option (Bool) :=
  ((((impl_within.f (l0.length : Int) 1 2).bind fun y8 => (bif y8 then ((impl_areAll_impl_Txn.f l0 impl_isTxn.f).bind fun y11 => (some y11)) else (some false))) : Option (Bool)).bind fun u3 => (some u3))
set_option maxRecDepth 100000 in
set_option maxHeartbeats 0 in
theorem impl_BatchOK_t (w0 : World) (A0_ : Option Addr) (p0_ : Nat) (l0 : List S_Txn) (k0_ : Chunk) (v0_ : View L_impl_Txn A0_ p0_ l0 k0_) (w0_ : Has w0 k0_) (r : Bool) (H : impl_BatchOK.f l0 = some r) :
    Calls Try.prog 70 #[.slice A0_ l0.length p0_] w0 (Ret (fun v w => v = .bool r ∧ Sat [] w0 w [] [])) := by
  have hs : Sat [] w0 w0 [(1, k0_)] [] := Sat.init w0 [(1, k0_)] [] (by simp only [List.mem_cons, List.not_mem_nil, or_false]; rintro x (rfl) <;> assumption) (by simp) List.nodup_nil (by simp [blks])
  unfold impl_BatchOK.f at H
  refine enter Try.func70 rfl Try.ntmps70 rfl fun a hk => ?_
  apply wp_seq_k; intro K1 hK1
  apply wp_region_lit
  refine sa _ rfl hk rfl rfl rfl fun a hk => ?_
  show wpList _ _ _ [] _ _
  refine wpList_nil ?_
  refine hK1 _ _ ?_
  apply wp_seq_k; intro K2 hK2
  obtain ⟨o4, h5, HL6⟩ := bind_some H
  clear H
  obtain ⟨R7, hR7⟩ : ∃ R : Act → World → Prop, R = fun a w => ∃ (u3 : Bool), u3 = o4 ∧ Kn [(2, (.bool u3))] 10 a ∧ Sat [] w0 w [(1, k0_)] [] := ⟨_, rfl⟩
  refine wp_cutq R7 ?_ ?_
  · have H := h5
    apply wp_region_lit
    refine sm _ rfl hk rfl rfl rfl fun a hk => ?_
    refine sle rfl hk rfl rfl rfl un48 fun a hk => ?_
    obtain ⟨y8, h9, H⟩ := bind_some H
    refine sc rfl en65 hk rfl rfl rfl (impl_within_t _ (l0.length : Int) 1 2 _ h9) ?_
    rintro _ w ⟨rfl, hG⟩ a hk
    have hs := hs.call0 hG
    refine sm _ rfl hk rfl rfl rfl fun a hk => ?_
    rcases cond_some H with ⟨c10, H⟩ | ⟨c10, H⟩
    · have hk := hk.lit 6 c10 rfl
      refine sm _ rfl hk rfl rfl rfl fun a hk => ?_
      obtain ⟨y11, h12, H⟩ := bind_some H
      refine sc rfl en107 hk rfl rfl rfl (impl_areAll_impl_Txn_t _ A0_ p0_ l0 _ v0_ (hs.hasD (k := 1) rfl) 108 [] en108 impl_isTxn.f [] (fun w _ z0 z0A0 z0p0 z0k0 z0v0 z0w0 r h => impl_isTxn_t w z0 z0A0 z0p0 z0k0 z0v0 z0w0 r h) (Has.nil _) _ h12) ?_
      rintro _ w ⟨rfl, hG⟩ a hk
      have hs := hs.call0 hG
      refine sv (.bool y11) hk rfl rfl rfl fun a hk => ?_
      refine sa _ rfl hk rfl rfl rfl fun a hk => ?_
      show wpList _ _ _ [] _ _
      refine wpList_nil ?_
      obtain rfl := Option.some.inj H
      show R7 _ _
      rw [hR7]
      exact ⟨y11, rfl, (hk.c 2 rfl hk.k), (hs.pick [] rfl)⟩
    · have hk := hk.lit 6 c10 rfl
      refine sk hk rfl rfl rfl fun a hk => ?_
      refine sk hk rfl rfl rfl fun a hk => ?_
      refine sv (.bool false) hk rfl rfl rfl fun a hk => ?_
      refine sa _ rfl hk rfl rfl rfl fun a hk => ?_
      show wpList _ _ _ [] _ _
      refine wpList_nil ?_
      obtain rfl := Option.some.inj H
      show R7 _ _
      rw [hR7]
      exact ⟨false, rfl, (hk.c 2 rfl hk.k), (hs.pick [] rfl)⟩
  · intro a w hR0
    rw [hR7] at hR0
    obtain ⟨u3, rfl, hk, hs⟩ := hR0
    have H := HL6
    try dsimp only at H
    refine hK2 _ _ ?_
    refine wp_ret ?_
    obtain rfl := Option.some.inj H
    exact fin hk _ [(.bool u3)] rfl ⟨rfl, trivial⟩ ⟨rfl, (hs.pick [] rfl).dnil⟩

noncomputable def slices_IndexFunc_int_int.s0 (l0 : List Int) (q1 : Int → Option (Bool)) (u4 : Int) : Option ((Int) ⊕ Ex (Unit) (Int)) :=
  (bif (decide (u4 < (l0.length : Int))) then (if 0 ≤ u4 ∧ u4 < (l0.length : Int) then ((q1 (l0.getD u4.toNat 0)).bind fun y23 => (bif y23 then (some (.inr (.ret u4))) else (some (.inl (w64 (u4 + 1)))))) else none) else (some (.inr (.out ()))))
noncomputable def slices_IndexFunc_int_int.f (l0 : List Int) (q1 : Int → Option (Bool)) : Option (Int) :=
  ((loopO (fun s => slices_IndexFunc_int_int.s0 l0 q1 s) 0).bind fun o => match o with | .out _ => (some (-1)) | .ret r => (some r))
set_option maxRecDepth 100000 in
set_option maxHeartbeats 0 in
theorem slices_IndexFunc_int_int_t (w0 : World) (A0_ : Option Addr) (p0_ : Nat) (l0 : List Int) (k0_ : Chunk) (v0_ : View (Lay.int .i64) A0_ p0_ l0 k0_) (w0_ : Has w0 k0_) (f1_ : FuncId) (c1_ : List Value) (e1_ : Enters Try.prog f1_) (q1 : Int → Option (Bool)) (k1_ : Chunk) (t1_ : ∀ w, Has w k1_ → ∀ (z0 : Int) (r : Bool), q1 z0 = some r → Calls Try.prog f1_ (([.int .i64 z0] : List Value) ++ c1_).toArray w (Ret (fun v w2 => v = .bool r ∧ Sat [] w w2 [] []))) (w1_ : Has w0 k1_) (r : Int) (H : slices_IndexFunc_int_int.f l0 q1 = some r) :
    Calls Try.prog 151 #[.slice A0_ l0.length p0_, .func (.func f1_) #[] c1_.toArray] w0 (Ret (fun v w => v = .int .i64 r ∧ Sat [] w0 w [] [])) := by
  have hs : Sat [] w0 w0 [(1, k0_), (2, k1_)] [] := Sat.init w0 [(1, k0_), (2, k1_)] [] (by simp only [List.mem_cons, List.not_mem_nil, or_false]; rintro x (rfl | rfl) <;> assumption) (by simp) List.nodup_nil (by simp [blks])
  unfold slices_IndexFunc_int_int.f at H
  refine enter Try.func151 rfl Try.ntmps151 rfl fun a hk => ?_
  apply wp_seq_k; intro K1 hK1
  apply wp_region_lit
  refine sa _ rfl hk rfl rfl rfl fun a hk => ?_
  show wpList _ _ _ [] _ _
  refine wpList_nil ?_
  refine hK1 _ _ ?_
  apply wp_seq_k; intro K2 hK2
  apply wp_seq_k; intro K3 hK3
  apply wp_region_lit
  refine sm _ rfl hk rfl rfl rfl fun a hk => ?_
  refine sle rfl hk rfl rfl rfl un43 fun a hk => ?_
  refine sm _ rfl hk rfl rfl rfl fun a hk => ?_
  show wpList _ _ _ [] _ _
  refine wpList_nil ?_
  refine hK3 _ _ ?_
  obtain ⟨o5, h6, HL7⟩ := bind_some H
  clear H
  obtain ⟨R8, hR8⟩ : ∃ R : Act → World → Prop, R = fun a w => o5 = .out () ∧ Kn [] 19 a ∧ Sat [] w0 w [(1, k0_), (2, k1_)] [] := ⟨_, rfl⟩
  refine wp_cutq R8 ?_ ?_
  · refine wp_block ?_
    obtain ⟨fu10, h6⟩ := loopO_some h6
    obtain ⟨I9, hI9⟩ : ∃ I : Nat → Act → World → Prop, I = fun fu a w => ∃ (u4 : Int), loopN (fun s => slices_IndexFunc_int_int.s0 l0 q1 s) fu u4 = some o5 ∧ Kn [(0, (.slice A0_ l0.length p0_)), (1, (.func (.func f1_) #[] c1_.toArray)), (7, (.int .i64 (l0.length : Int))), (8, (.int .i64 u4))] 19 a ∧ Sat [] w0 w [(1, k0_), (2, k1_)] [] := ⟨_, rfl⟩
    refine wp_loop_ghost I9 fu10 ?_ ?_
    · rw [hI9]
      exact ⟨0, h6, (hk.c 0 rfl (hk.c 1 rfl (hk.c 7 rfl (hk.c 8 rfl hk.k)))), (hs.pick [] rfl)⟩
    · clear h6 hk hs
      intro fu10 a w hI0
      rw [hI9] at hI0
      obtain ⟨u4, hi, hk, hs⟩ := hI0
      obtain ⟨x11, H, h12⟩ := loop_round hi
      try dsimp only at H
      unfold slices_IndexFunc_int_int.s0 at H
      apply wp_seq_k; intro K13 hK13
      apply wp_region_lit
      refine sv (.bool (decide (u4 < (l0.length : Int)))) hk rfl rfl rfl fun a hk => ?_
      show wpList _ _ _ [] _ _
      refine wpList_nil ?_
      refine hK13 _ _ ?_
      apply wp_seq_k; intro K14 hK14
      rcases cond_some H with ⟨c15, H⟩ | ⟨c15, H⟩
      · have hk := hk.lit 9 c15 rfl
        refine cnd_true hk rfl rfl ?_
        refine wp_skip ?_
        refine hK14 _ _ ?_
        apply wp_seq_k; intro K16 hK16
        refine wp_block ?_
        apply wp_seq_k; intro K17 hK17
        apply wp_region_lit
        refine sm _ rfl hk rfl rfl rfl fun a hk => ?_
        refine sa _ rfl hk rfl rfl rfl fun a hk => ?_
        show wpList _ _ _ [] _ _
        refine wpList_nil ?_
        refine hK17 _ _ ?_
        apply wp_seq_k; intro K18 hK18
        apply wp_region_lit
        refine sm _ rfl hk rfl rfl rfl fun a hk => ?_
        refine sm _ rfl hk rfl rfl rfl fun a hk => ?_
        refine sm _ rfl hk rfl rfl rfl fun a hk => ?_
        rcases ite_some H with ⟨c19, H⟩ | ⟨_, H⟩
        rotate_left
        · cases H
        obtain ⟨b20, q21, hAc19⟩ := (v0_).some_ u4 c19.1 c19.2
        refine si rfl hk rfl rfl rfl rfl un43 sz3 c19.1 c19.2 hAc19 fun a hk => ?_
        obtain ⟨_, rfl, e22⟩ := (v0_).at_ 0 u4 c19.1 c19.2
        refine sl (v := (.int .i64 (l0.getD u4.toNat 0))) rfl hk rfl rfl rfl ag3 ((e22 0 _ rfl).cell (hs.hasD (k := 1) rfl)) fun a hk => ?_
        obtain ⟨y23, h24, H⟩ := bind_some H
        refine scv (vs := ([(.int .i64 (l0.getD u4.toNat 0))] : List Value) ++ c1_) rfl rfl e1_ hk rfl rfl rfl (t1_ _ (hs.hasD (k := 2) rfl) (l0.getD u4.toNat 0) _ h24) ?_
        rintro _ w ⟨rfl, hG⟩ a hk
        have hs := hs.call0 hG
        show wpList _ _ _ [] _ _
        refine wpList_nil ?_
        refine hK18 _ _ ?_
        rcases cond_some H with ⟨c25, H⟩ | ⟨c25, H⟩
        · have hk := hk.lit 16 c25 rfl
          refine cnd_true hk rfl rfl ?_
          apply wp_seq_k; intro K26 hK26
          apply wp_region_lit
          refine sm _ rfl hk rfl rfl rfl fun a hk => ?_
          refine sa _ rfl hk rfl rfl rfl fun a hk => ?_
          show wpList _ _ _ [] _ _
          refine wpList_nil ?_
          refine hK26 _ _ ?_
          refine wp_ret ?_
          obtain rfl := Option.some.inj H
          have ho5 := h12
          try dsimp only at ho5
          subst ho5
          have H := HL7
          try dsimp only at H
          obtain rfl := Option.some.inj H
          exact fin hk _ [(.int .i64 u4)] rfl ⟨rfl, trivial⟩ ⟨rfl, (hs.pick [] rfl).dnil⟩
        · have hk := hk.lit 16 c25 rfl
          refine cnd_false hk rfl rfl ?_
          refine wp_skip ?_
          refine hK16 _ _ ?_
          apply wp_region_lit
          refine sv (.int .i64 (w64 (u4 + 1))) hk rfl rfl rfl fun a hk => ?_
          refine sm _ rfl hk rfl rfl rfl fun a hk => ?_
          show wpList _ _ _ [] _ _
          refine wpList_nil ?_
          obtain rfl := Option.some.inj H
          obtain ⟨m27, hmm27, h12⟩ := h12
          show ∃ n', n' < _ ∧ I9 n' _ _
          refine ⟨m27, hmm27, ?_⟩
          rw [hI9]
          exact ⟨(w64 (u4 + 1)), h12, (hk.c 0 rfl (hk.c 1 rfl (hk.c 7 rfl (hk.c 8 rfl hk.k)))), (hs.pick [] rfl)⟩
      · have hk := hk.lit 9 c15 rfl
        refine cnd_false hk rfl rfl ?_
        refine wp_exit ?_
        obtain rfl := Option.some.inj H
        show R8 _ _
        rw [hR8]
        exact ⟨h12.symm, hk.k, (hs.pick [] rfl)⟩
  · intro a w hR0
    rw [hR8] at hR0
    obtain ⟨rfl, hk, hs⟩ := hR0
    have H := HL7
    try dsimp only at H
    refine hK2 _ _ ?_
    apply wp_seq_k; intro K28 hK28
    apply wp_region_lit
    refine sa _ rfl hk rfl rfl rfl fun a hk => ?_
    show wpList _ _ _ [] _ _
    refine wpList_nil ?_
    refine hK28 _ _ ?_
    refine wp_ret ?_
    obtain rfl := Option.some.inj H
    exact fin hk _ [(.int .i64 (-1))] rfl ⟨rfl, trivial⟩ ⟨rfl, (hs.pick [] rfl).dnil⟩

noncomputable def slices_ContainsFunc_int_int.f (l0 : List Int) (q1 : Int → Option (Bool)) : Option (Bool) :=
  ((slices_IndexFunc_int_int.f l0 q1).bind fun y3 => (some (decide (y3 ≥ 0))))
set_option maxRecDepth 100000 in
set_option maxHeartbeats 0 in
theorem slices_ContainsFunc_int_int_t (w0 : World) (A0_ : Option Addr) (p0_ : Nat) (l0 : List Int) (k0_ : Chunk) (v0_ : View (Lay.int .i64) A0_ p0_ l0 k0_) (w0_ : Has w0 k0_) (f1_ : FuncId) (c1_ : List Value) (e1_ : Enters Try.prog f1_) (q1 : Int → Option (Bool)) (k1_ : Chunk) (t1_ : ∀ w, Has w k1_ → ∀ (z0 : Int) (r : Bool), q1 z0 = some r → Calls Try.prog f1_ (([.int .i64 z0] : List Value) ++ c1_).toArray w (Ret (fun v w2 => v = .bool r ∧ Sat [] w w2 [] []))) (w1_ : Has w0 k1_) (r : Bool) (H : slices_ContainsFunc_int_int.f l0 q1 = some r) :
    Calls Try.prog 140 #[.slice A0_ l0.length p0_, .func (.func f1_) #[] c1_.toArray] w0 (Ret (fun v w => v = .bool r ∧ Sat [] w0 w [] [])) := by
  have hs : Sat [] w0 w0 [(1, k0_), (2, k1_)] [] := Sat.init w0 [(1, k0_), (2, k1_)] [] (by simp only [List.mem_cons, List.not_mem_nil, or_false]; rintro x (rfl | rfl) <;> assumption) (by simp) List.nodup_nil (by simp [blks])
  unfold slices_ContainsFunc_int_int.f at H
  refine enter Try.func140 rfl Try.ntmps140 rfl fun a hk => ?_
  apply wp_seq_k; intro K1 hK1
  apply wp_region_lit
  refine sa _ rfl hk rfl rfl rfl fun a hk => ?_
  show wpList _ _ _ [] _ _
  refine wpList_nil ?_
  refine hK1 _ _ ?_
  apply wp_seq_k; intro K2 hK2
  apply wp_region_lit
  refine sm _ rfl hk rfl rfl rfl fun a hk => ?_
  refine sm _ rfl hk rfl rfl rfl fun a hk => ?_
  obtain ⟨y3, h4, H⟩ := bind_some H
  refine sc rfl en151 hk rfl rfl rfl (slices_IndexFunc_int_int_t _ A0_ p0_ l0 _ v0_ (hs.hasD (k := 1) rfl) f1_ c1_ e1_ q1 k1_ t1_ (hs.hasD (k := 2) rfl) _ h4) ?_
  rintro _ w ⟨rfl, hG⟩ a hk
  have hs := hs.call0 hG
  refine sv (.bool (decide (y3 ≥ 0))) hk rfl rfl rfl fun a hk => ?_
  refine sa _ rfl hk rfl rfl rfl fun a hk => ?_
  show wpList _ _ _ [] _ _
  refine wpList_nil ?_
  refine hK2 _ _ ?_
  refine wp_ret ?_
  obtain rfl := Option.some.inj H
  exact fin hk _ [(.bool (decide (y3 ≥ 0)))] rfl ⟨rfl, trivial⟩ ⟨rfl, (hs.pick [] rfl).dnil⟩

noncomputable def impl_areAll_int__c1.f (x0 : Int) (q1 : Int → Option (Bool)) : Option (Bool) :=
  ((q1 x0).bind fun y3 => (some (!y3)))
set_option maxRecDepth 100000 in
set_option maxHeartbeats 0 in
theorem impl_areAll_int__c1_t (w0 : World) (x0 : Int) (b1_ : Nat) (f1_ : FuncId) (c1_ : List Value) (e1_ : Enters Try.prog f1_) (q1 : Int → Option (Bool)) (k1_ : Chunk) (t1_ : ∀ w, Has w k1_ → ∀ (z0 : Int) (r : Bool), q1 z0 = some r → Calls Try.prog f1_ (([.int .i64 z0] : List Value) ++ c1_).toArray w (Ret (fun v w2 => v = .bool r ∧ Sat [] w w2 [] []))) (w1_ : Has w0 k1_) (h1_ : Has w0 [(b1_, .cells #[.func (.func f1_) #[] c1_.toArray] 81 (0, 0))]) (r : Bool) (H : impl_areAll_int__c1.f x0 q1 = some r) :
    Calls Try.prog 141 #[.int .i64 x0, .pointer (some ⟨b1_, 0, none⟩)] w0 (Ret (fun v w => v = .bool r ∧ Sat [] w0 w [] [])) := by
  have hs : Sat [] w0 w0 [(2, k1_), (1, [(b1_, .cells #[.func (.func f1_) #[] c1_.toArray] 81 (0, 0))])] [] := Sat.init w0 [(2, k1_), (1, [(b1_, .cells #[.func (.func f1_) #[] c1_.toArray] 81 (0, 0))])] [] (by simp only [List.mem_cons, List.not_mem_nil, or_false]; rintro x (rfl | rfl) <;> assumption) (by simp) List.nodup_nil (by simp [blks])
  unfold impl_areAll_int__c1.f at H
  refine enter Try.func141 rfl Try.ntmps141 rfl fun a hk => ?_
  apply wp_seq_k; intro K1 hK1
  apply wp_region_lit
  refine sa _ rfl hk rfl rfl rfl fun a hk => ?_
  show wpList _ _ _ [] _ _
  refine wpList_nil ?_
  refine hK1 _ _ ?_
  apply wp_seq_k; intro K2 hK2
  apply wp_region_lit
  refine sl rfl hk rfl rfl rfl ag81 (box_cellD hs (k := 1) rfl rfl) fun a hk => ?_
  refine sm _ rfl hk rfl rfl rfl fun a hk => ?_
  obtain ⟨y3, h4, H⟩ := bind_some H
  refine scv (vs := ([(.int .i64 x0)] : List Value) ++ c1_) rfl rfl e1_ hk rfl rfl rfl (t1_ _ (hs.hasD (k := 2) rfl) x0 _ h4) ?_
  rintro _ w ⟨rfl, hG⟩ a hk
  have hs := hs.call0 hG
  refine sv (.bool (!y3)) hk rfl rfl rfl fun a hk => ?_
  refine sa _ rfl hk rfl rfl rfl fun a hk => ?_
  show wpList _ _ _ [] _ _
  refine wpList_nil ?_
  refine hK2 _ _ ?_
  refine wp_ret ?_
  obtain rfl := Option.some.inj H
  exact fin hk _ [(.bool (!y3))] rfl ⟨rfl, trivial⟩ ⟨rfl, (hs.pick [] rfl).dnil⟩

noncomputable def impl_areAll_int.f (l0 : List Int) (q1 : Int → Option (Bool)) : Option (Bool) :=
  ((slices_ContainsFunc_int_int.f l0 (fun z0 => impl_areAll_int__c1.f z0 q1)).bind fun y4 => (some (!y4)))
set_option maxRecDepth 100000 in
set_option maxHeartbeats 0 in
theorem impl_areAll_int_t (w0 : World) (A0_ : Option Addr) (p0_ : Nat) (l0 : List Int) (k0_ : Chunk) (v0_ : View (Lay.int .i64) A0_ p0_ l0 k0_) (w0_ : Has w0 k0_) (f1_ : FuncId) (c1_ : List Value) (e1_ : Enters Try.prog f1_) (q1 : Int → Option (Bool)) (k1_ : Chunk) (t1_ : ∀ w, Has w k1_ → ∀ (z0 : Int) (r : Bool), q1 z0 = some r → Calls Try.prog f1_ (([.int .i64 z0] : List Value) ++ c1_).toArray w (Ret (fun v w2 => v = .bool r ∧ Sat [] w w2 [] []))) (w1_ : Has w0 k1_) (r : Bool) (H : impl_areAll_int.f l0 q1 = some r) :
    Calls Try.prog 125 #[.slice A0_ l0.length p0_, .func (.func f1_) #[] c1_.toArray] w0 (Ret (fun v w => v = .bool r ∧ Sat [] w0 w [] [])) := by
  have hs : Sat [] w0 w0 [(1, k0_), (2, k1_)] [] := Sat.init w0 [(1, k0_), (2, k1_)] [] (by simp only [List.mem_cons, List.not_mem_nil, or_false]; rintro x (rfl | rfl) <;> assumption) (by simp) List.nodup_nil (by simp [blks])
  unfold impl_areAll_int.f at H
  refine enter Try.func125 rfl Try.ntmps125 rfl fun a hk => ?_
  apply wp_seq_k; intro K1 hK1
  apply wp_region_lit
  refine sbx 3 hs rfl hk rfl rfl rfl rfl fun b2 w a hk hs => ?_
  refine sa _ rfl hk rfl rfl rfl fun a hk => ?_
  show wpList _ _ _ [] _ _
  refine wpList_nil ?_
  refine hK1 _ _ ?_
  apply wp_seq_k; intro K3 hK3
  apply wp_region_lit
  refine sm _ rfl hk rfl rfl rfl fun a hk => ?_
  refine smf (cs := [.pointer (some ⟨b2, 0, none⟩)]) rfl hk rfl rfl rfl fun a hk => ?_
  obtain ⟨y4, h5, H⟩ := bind_some H
  refine sc rfl en140 hk rfl rfl rfl (slices_ContainsFunc_int_int_t _ A0_ p0_ l0 _ v0_ (hs.hasD (k := 1) rfl) 141 [.pointer (some ⟨b2, 0, none⟩)] en141 (fun z0 => impl_areAll_int__c1.f z0 q1) ([(b2, .cells #[.func (.func f1_) #[] c1_.toArray] 81 (0, 0))] ++ k1_) (fun w hz z0 r h => impl_areAll_int__c1_t w z0 _ f1_ c1_ e1_ q1 k1_ t1_ (Has.right hz) (Has.left hz) r h) (Has.app (hs.hasG (k := 3) rfl) (hs.hasD (k := 2) rfl)) _ h5) ?_
  rintro _ w ⟨rfl, hG⟩ a hk
  have hs := hs.call0 hG
  refine sv (.bool (!y4)) hk rfl rfl rfl fun a hk => ?_
  refine sa _ rfl hk rfl rfl rfl fun a hk => ?_
  show wpList _ _ _ [] _ _
  refine wpList_nil ?_
  refine hK3 _ _ ?_
  refine wp_ret ?_
  obtain rfl := Option.some.inj H
  exact fin hk _ [(.bool (!y4))] rfl ⟨rfl, trivial⟩ ⟨rfl, (hs.pick [] rfl).dnil⟩

noncomputable def impl_isLeaf.f (x0 : Int) : Option (Bool) :=
  ((impl_within.f x0 0 7).bind fun y3 => (some y3))
set_option maxRecDepth 100000 in
set_option maxHeartbeats 0 in
theorem impl_isLeaf_t (w0 : World) (x0 : Int) (r : Bool) (H : impl_isLeaf.f x0 = some r) :
    Calls Try.prog 126 #[.int .i64 x0] w0 (Ret (fun v w => v = .bool r ∧ Sat [] w0 w [] [])) := by
  have hs : Sat [] w0 w0 [] [] := Sat.init w0 [] [] (by simp) (by simp) List.nodup_nil (by simp [blks])
  unfold impl_isLeaf.f at H
  refine enter Try.func126 rfl Try.ntmps126 rfl fun a hk => ?_
  apply wp_seq_k; intro K1 hK1
  apply wp_region_lit
  refine sa _ rfl hk rfl rfl rfl fun a hk => ?_
  show wpList _ _ _ [] _ _
  refine wpList_nil ?_
  refine hK1 _ _ ?_
  apply wp_seq_k; intro K2 hK2
  apply wp_region_lit
  refine sm _ rfl hk rfl rfl rfl fun a hk => ?_
  obtain ⟨y3, h4, H⟩ := bind_some H
  refine sc rfl en65 hk rfl rfl rfl (impl_within_t _ x0 0 7 _ h4) ?_
  rintro _ w ⟨rfl, hG⟩ a hk
  have hs := hs.call0 hG
  refine sa _ rfl hk rfl rfl rfl fun a hk => ?_
  show wpList _ _ _ [] _ _
  refine wpList_nil ?_
  refine hK2 _ _ ?_
  refine wp_ret ?_
  obtain rfl := Option.some.inj H
  exact fin hk _ [(.bool y3)] rfl ⟨rfl, trivial⟩ ⟨rfl, (hs.pick [] rfl).dnil⟩

noncomputable def impl_drawsCode.f (l0 : List Int) (x1 : Int) : Option (Int) :=
  (bif ((l0.length : Int) != x1) then (some 13) else ((impl_areAll_int.f l0 impl_isLeaf.f).bind fun y7 => (bif (!y7) then (some 4) else (some 0))))
set_option maxRecDepth 100000 in
set_option maxHeartbeats 0 in
theorem impl_drawsCode_t (w0 : World) (A0_ : Option Addr) (p0_ : Nat) (l0 : List Int) (k0_ : Chunk) (v0_ : View (Lay.int .i64) A0_ p0_ l0 k0_) (w0_ : Has w0 k0_) (x1 : Int) (r : Int) (H : impl_drawsCode.f l0 x1 = some r) :
    Calls Try.prog 101 #[.slice A0_ l0.length p0_, .int .i64 x1] w0 (Ret (fun v w => v = .int .i64 r ∧ Sat [] w0 w [] [])) := by
  have hs : Sat [] w0 w0 [(1, k0_)] [] := Sat.init w0 [(1, k0_)] [] (by simp only [List.mem_cons, List.not_mem_nil, or_false]; rintro x (rfl) <;> assumption) (by simp) List.nodup_nil (by simp [blks])
  unfold impl_drawsCode.f at H
  refine enter Try.func101 rfl Try.ntmps101 rfl fun a hk => ?_
  apply wp_seq_k; intro K1 hK1
  apply wp_region_lit
  refine sa _ rfl hk rfl rfl rfl fun a hk => ?_
  show wpList _ _ _ [] _ _
  refine wpList_nil ?_
  refine hK1 _ _ ?_
  apply wp_seq_k; intro K2 hK2
  refine wp_block ?_
  apply wp_seq_k; intro K3 hK3
  apply wp_region_lit
  refine sm _ rfl hk rfl rfl rfl fun a hk => ?_
  refine sle rfl hk rfl rfl rfl un43 fun a hk => ?_
  refine sm _ rfl hk rfl rfl rfl fun a hk => ?_
  refine sv (.bool ((l0.length : Int) != x1)) hk rfl rfl rfl fun a hk => ?_
  refine sa _ rfl hk rfl rfl rfl fun a hk => ?_
  show wpList _ _ _ [] _ _
  refine wpList_nil ?_
  refine hK3 _ _ ?_
  rcases cond_some H with ⟨c4, H⟩ | ⟨c4, H⟩
  · have hk := hk.lit 5 c4 rfl
    refine cnd_true hk rfl rfl ?_
    apply wp_seq_k; intro K5 hK5
    apply wp_region_lit
    refine sa _ rfl hk rfl rfl rfl fun a hk => ?_
    show wpList _ _ _ [] _ _
    refine wpList_nil ?_
    refine hK5 _ _ ?_
    refine wp_ret ?_
    obtain rfl := Option.some.inj H
    exact fin hk _ [(.int .i64 13)] rfl ⟨rfl, trivial⟩ ⟨rfl, (hs.pick [] rfl).dnil⟩
  · have hk := hk.lit 5 c4 rfl
    refine cnd_false hk rfl rfl ?_
    apply wp_seq_k; intro K6 hK6
    apply wp_region_lit
    refine sm _ rfl hk rfl rfl rfl fun a hk => ?_
    obtain ⟨y7, h8, H⟩ := bind_some H
    refine sc rfl en125 hk rfl rfl rfl (impl_areAll_int_t _ A0_ p0_ l0 _ v0_ (hs.hasD (k := 1) rfl) 126 [] en126 impl_isLeaf.f [] (fun w _ z0 r h => impl_isLeaf_t w z0 r h) (Has.nil _) _ h8) ?_
    rintro _ w ⟨rfl, hG⟩ a hk
    have hs := hs.call0 hG
    refine sv (.bool (!y7)) hk rfl rfl rfl fun a hk => ?_
    refine sa _ rfl hk rfl rfl rfl fun a hk => ?_
    show wpList _ _ _ [] _ _
    refine wpList_nil ?_
    refine hK6 _ _ ?_
    rcases cond_some H with ⟨c9, H⟩ | ⟨c9, H⟩
    · have hk := hk.lit 10 c9 rfl
      refine cnd_true hk rfl rfl ?_
      apply wp_seq_k; intro K10 hK10
      apply wp_region_lit
      refine sa _ rfl hk rfl rfl rfl fun a hk => ?_
      show wpList _ _ _ [] _ _
      refine wpList_nil ?_
      refine hK10 _ _ ?_
      refine wp_ret ?_
      obtain rfl := Option.some.inj H
      exact fin hk _ [(.int .i64 4)] rfl ⟨rfl, trivial⟩ ⟨rfl, (hs.pick [] rfl).dnil⟩
    · have hk := hk.lit 10 c9 rfl
      refine cnd_false hk rfl rfl ?_
      refine wp_skip ?_
      refine hK2 _ _ ?_
      apply wp_seq_k; intro K11 hK11
      apply wp_region_lit
      refine sa _ rfl hk rfl rfl rfl fun a hk => ?_
      show wpList _ _ _ [] _ _
      refine wpList_nil ?_
      refine hK11 _ _ ?_
      refine wp_ret ?_
      obtain rfl := Option.some.inj H
      exact fin hk _ [(.int .i64 0)] rfl ⟨rfl, trivial⟩ ⟨rfl, (hs.pick [] rfl).dnil⟩

noncomputable def impl_Act_isSubmission.f (x0 : S_Act) : Option (Bool) :=
  ((((impl_BatchOK.f x0.Batch).bind fun y9 => (bif y9 then ((impl_drawsCode.f x0.Draws 40).bind fun y12 => (some (y12 == 0))) else (some false))) : Option (Bool)).bind fun u4 => (some u4))
set_option maxRecDepth 100000 in
set_option maxHeartbeats 0 in
theorem impl_Act_isSubmission_t (w0 : World) (x0 : S_Act) (A0_0 : Option Addr) (p0_0 : Nat) (k0_0 : Chunk) (v0_0 : View L_impl_Txn A0_0 p0_0 x0.Batch k0_0) (w0_0 : Has w0 k0_0) (A0_1 : Option Addr) (p0_1 : Nat) (k0_1 : Chunk) (v0_1 : View (Lay.int .i64) A0_1 p0_1 x0.Draws k0_1) (w0_1 : Has w0 k0_1) (A0_2 : Option Addr) (p0_2 : Nat) (k0_2 : Chunk) (v0_2 : View (Lay.int .i64) A0_2 p0_2 x0.Fates k0_2) (w0_2 : Has w0 k0_2) (r : Bool) (H : impl_Act_isSubmission.f x0 = some r) :
    Calls Try.prog 59 #[.agg #[.int .i64 x0.Kind, .int .i64 x0.Phase, .int .i64 x0.At, .int .i64 x0.Place, .int .i64 x0.By, .slice A0_0 x0.Batch.length p0_0, .slice A0_1 x0.Draws.length p0_1, .slice A0_2 x0.Fates.length p0_2]] w0 (Ret (fun v w => v = .bool r ∧ Sat [] w0 w [] [])) := by
  have hs : Sat [] w0 w0 [(1, k0_0), (2, k0_1), (3, k0_2)] [] := Sat.init w0 [(1, k0_0), (2, k0_1), (3, k0_2)] [] (by simp only [List.mem_cons, List.not_mem_nil, or_false]; rintro x (rfl | rfl | rfl) <;> assumption) (by simp) List.nodup_nil (by simp [blks])
  unfold impl_Act_isSubmission.f at H
  refine enter Try.func59 rfl Try.ntmps59 rfl fun a hk => ?_
  apply wp_seq_k; intro K1 hK1
  apply wp_region_lit
  refine sbx 4 hs rfl hk rfl rfl rfl rfl fun b2 w a hk hs => ?_
  refine sa _ rfl hk rfl rfl rfl fun a hk => ?_
  show wpList _ _ _ [] _ _
  refine wpList_nil ?_
  refine hK1 _ _ ?_
  apply wp_seq_k; intro K3 hK3
  obtain ⟨o5, h6, HL7⟩ := bind_some H
  clear H
  obtain ⟨R8, hR8⟩ : ∃ R : Act → World → Prop, R = fun a w => ∃ (u4 : Bool), u4 = o5 ∧ Kn [(2, (.bool u4))] 12 a ∧ Sat [] w0 w [(1, k0_0), (2, k0_1), (3, k0_2)] [] := ⟨_, rfl⟩
  refine wp_cutq R8 ?_ ?_
  · have H := h6
    apply wp_region_lit
    refine sf ⟨b2, 5, none⟩ rfl hk rfl rfl rfl fd50_5 rfl fun a hk => ?_
    refine sl rfl hk rfl rfl rfl ag48 (box_cell hs (k := 4) rfl rfl) fun a hk => ?_
    obtain ⟨y9, h10, H⟩ := bind_some H
    refine sc rfl en70 hk rfl rfl rfl (impl_BatchOK_t _ A0_0 p0_0 x0.Batch _ v0_0 (hs.hasD (k := 1) rfl) _ h10) ?_
    rintro _ w ⟨rfl, hG⟩ a hk
    have hs := hs.call0 hG
    refine sm _ rfl hk rfl rfl rfl fun a hk => ?_
    rcases cond_some H with ⟨c11, H⟩ | ⟨c11, H⟩
    · have hk := hk.lit 6 c11 rfl
      refine sf ⟨b2, 6, none⟩ rfl hk rfl rfl rfl fd50_6 rfl fun a hk => ?_
      refine sl rfl hk rfl rfl rfl ag43 (box_cell hs (k := 4) rfl rfl) fun a hk => ?_
      obtain ⟨y12, h13, H⟩ := bind_some H
      refine sc rfl en101 hk rfl rfl rfl (impl_drawsCode_t _ A0_1 p0_1 x0.Draws _ v0_1 (hs.hasD (k := 2) rfl) 40 _ h13) ?_
      rintro _ w ⟨rfl, hG⟩ a hk
      have hs := hs.call0 hG
      refine sv (.bool (y12 == 0)) hk rfl rfl rfl fun a hk => ?_
      refine sv (.bool (y12 == 0)) hk rfl rfl rfl fun a hk => ?_
      refine sa _ rfl hk rfl rfl rfl fun a hk => ?_
      show wpList _ _ _ [] _ _
      refine wpList_nil ?_
      obtain rfl := Option.some.inj H
      show R8 _ _
      rw [hR8]
      exact ⟨(y12 == 0), rfl, (hk.c 2 rfl hk.k), (hs.pick [] rfl)⟩
    · have hk := hk.lit 6 c11 rfl
      refine sk hk rfl rfl rfl fun a hk => ?_
      refine sk hk rfl rfl rfl fun a hk => ?_
      refine sk hk rfl rfl rfl fun a hk => ?_
      refine sk hk rfl rfl rfl fun a hk => ?_
      refine sv (.bool false) hk rfl rfl rfl fun a hk => ?_
      refine sa _ rfl hk rfl rfl rfl fun a hk => ?_
      show wpList _ _ _ [] _ _
      refine wpList_nil ?_
      obtain rfl := Option.some.inj H
      show R8 _ _
      rw [hR8]
      exact ⟨false, rfl, (hk.c 2 rfl hk.k), (hs.pick [] rfl)⟩
  · intro a w hR0
    rw [hR8] at hR0
    obtain ⟨u4, rfl, hk, hs⟩ := hR0
    have H := HL7
    try dsimp only at H
    refine hK3 _ _ ?_
    refine wp_ret ?_
    obtain rfl := Option.some.inj H
    exact fin hk _ [(.bool u4)] rfl ⟨rfl, trivial⟩ ⟨rfl, (hs.pick [] rfl).dnil⟩

noncomputable def impl_Act_isFateless.f (x0 : S_Act) : Option (Bool) :=
  (((bif (x0.Phase == 0) then (some ((x0.Fates.length : Int) == 0)) else (some false)) : Option (Bool)).bind fun u4 => (some u4))
set_option maxRecDepth 100000 in
set_option maxHeartbeats 0 in
theorem impl_Act_isFateless_t (w0 : World) (x0 : S_Act) (A0_0 : Option Addr) (p0_0 : Nat) (k0_0 : Chunk) (v0_0 : View L_impl_Txn A0_0 p0_0 x0.Batch k0_0) (w0_0 : Has w0 k0_0) (A0_1 : Option Addr) (p0_1 : Nat) (k0_1 : Chunk) (v0_1 : View (Lay.int .i64) A0_1 p0_1 x0.Draws k0_1) (w0_1 : Has w0 k0_1) (A0_2 : Option Addr) (p0_2 : Nat) (k0_2 : Chunk) (v0_2 : View (Lay.int .i64) A0_2 p0_2 x0.Fates k0_2) (w0_2 : Has w0 k0_2) (r : Bool) (H : impl_Act_isFateless.f x0 = some r) :
    Calls Try.prog 60 #[.agg #[.int .i64 x0.Kind, .int .i64 x0.Phase, .int .i64 x0.At, .int .i64 x0.Place, .int .i64 x0.By, .slice A0_0 x0.Batch.length p0_0, .slice A0_1 x0.Draws.length p0_1, .slice A0_2 x0.Fates.length p0_2]] w0 (Ret (fun v w => v = .bool r ∧ Sat [] w0 w [] [])) := by
  have hs : Sat [] w0 w0 [(1, k0_0), (2, k0_1), (3, k0_2)] [] := Sat.init w0 [(1, k0_0), (2, k0_1), (3, k0_2)] [] (by simp only [List.mem_cons, List.not_mem_nil, or_false]; rintro x (rfl | rfl | rfl) <;> assumption) (by simp) List.nodup_nil (by simp [blks])
  unfold impl_Act_isFateless.f at H
  refine enter Try.func60 rfl Try.ntmps60 rfl fun a hk => ?_
  apply wp_seq_k; intro K1 hK1
  apply wp_region_lit
  refine sbx 4 hs rfl hk rfl rfl rfl rfl fun b2 w a hk hs => ?_
  refine sa _ rfl hk rfl rfl rfl fun a hk => ?_
  show wpList _ _ _ [] _ _
  refine wpList_nil ?_
  refine hK1 _ _ ?_
  apply wp_seq_k; intro K3 hK3
  obtain ⟨o5, h6, HL7⟩ := bind_some H
  clear H
  obtain ⟨R8, hR8⟩ : ∃ R : Act → World → Prop, R = fun a w => ∃ (u4 : Bool), u4 = o5 ∧ Kn [(2, (.bool u4))] 12 a ∧ Sat [] w0 w [(1, k0_0), (2, k0_1), (3, k0_2)] [] := ⟨_, rfl⟩
  refine wp_cutq R8 ?_ ?_
  · have H := h6
    apply wp_region_lit
    refine sf ⟨b2, 1, none⟩ rfl hk rfl rfl rfl fd50_1 rfl fun a hk => ?_
    refine sl rfl hk rfl rfl rfl ag3 (box_cell hs (k := 4) rfl rfl) fun a hk => ?_
    refine sv (.bool (x0.Phase == 0)) hk rfl rfl rfl fun a hk => ?_
    refine sm _ rfl hk rfl rfl rfl fun a hk => ?_
    rcases cond_some H with ⟨c9, H⟩ | ⟨c9, H⟩
    · have hk := hk.lit 6 c9 rfl
      refine sf ⟨b2, 7, none⟩ rfl hk rfl rfl rfl fd50_7 rfl fun a hk => ?_
      refine sl rfl hk rfl rfl rfl ag43 (box_cell hs (k := 4) rfl rfl) fun a hk => ?_
      refine sle rfl hk rfl rfl rfl un43 fun a hk => ?_
      refine sv (.bool ((x0.Fates.length : Int) == 0)) hk rfl rfl rfl fun a hk => ?_
      refine sv (.bool ((x0.Fates.length : Int) == 0)) hk rfl rfl rfl fun a hk => ?_
      refine sa _ rfl hk rfl rfl rfl fun a hk => ?_
      show wpList _ _ _ [] _ _
      refine wpList_nil ?_
      obtain rfl := Option.some.inj H
      show R8 _ _
      rw [hR8]
      exact ⟨((x0.Fates.length : Int) == 0), rfl, (hk.c 2 rfl hk.k), (hs.pick [] rfl)⟩
    · have hk := hk.lit 6 c9 rfl
      refine sk hk rfl rfl rfl fun a hk => ?_
      refine sk hk rfl rfl rfl fun a hk => ?_
      refine sk hk rfl rfl rfl fun a hk => ?_
      refine sk hk rfl rfl rfl fun a hk => ?_
      refine sv (.bool false) hk rfl rfl rfl fun a hk => ?_
      refine sa _ rfl hk rfl rfl rfl fun a hk => ?_
      show wpList _ _ _ [] _ _
      refine wpList_nil ?_
      obtain rfl := Option.some.inj H
      show R8 _ _
      rw [hR8]
      exact ⟨false, rfl, (hk.c 2 rfl hk.k), (hs.pick [] rfl)⟩
  · intro a w hR0
    rw [hR8] at hR0
    obtain ⟨u4, rfl, hk, hs⟩ := hR0
    have H := HL7
    try dsimp only at H
    refine hK3 _ _ ?_
    refine wp_ret ?_
    obtain rfl := Option.some.inj H
    exact fin hk _ [(.bool u4)] rfl ⟨rfl, trivial⟩ ⟨rfl, (hs.pick [] rfl).dnil⟩

noncomputable def impl_Act_isNowhere.f (x0 : S_Act) : Option (Bool) :=
  (((bif (x0.At == 0) then (bif (x0.Place == 0) then (some (x0.By == 0)) else (some false)) else (some false)) : Option (Bool)).bind fun u4 => (some u4))
set_option maxRecDepth 100000 in
set_option maxHeartbeats 0 in
theorem impl_Act_isNowhere_t (w0 : World) (x0 : S_Act) (A0_0 : Option Addr) (p0_0 : Nat) (k0_0 : Chunk) (v0_0 : View L_impl_Txn A0_0 p0_0 x0.Batch k0_0) (w0_0 : Has w0 k0_0) (A0_1 : Option Addr) (p0_1 : Nat) (k0_1 : Chunk) (v0_1 : View (Lay.int .i64) A0_1 p0_1 x0.Draws k0_1) (w0_1 : Has w0 k0_1) (A0_2 : Option Addr) (p0_2 : Nat) (k0_2 : Chunk) (v0_2 : View (Lay.int .i64) A0_2 p0_2 x0.Fates k0_2) (w0_2 : Has w0 k0_2) (r : Bool) (H : impl_Act_isNowhere.f x0 = some r) :
    Calls Try.prog 61 #[.agg #[.int .i64 x0.Kind, .int .i64 x0.Phase, .int .i64 x0.At, .int .i64 x0.Place, .int .i64 x0.By, .slice A0_0 x0.Batch.length p0_0, .slice A0_1 x0.Draws.length p0_1, .slice A0_2 x0.Fates.length p0_2]] w0 (Ret (fun v w => v = .bool r ∧ Sat [] w0 w [] [])) := by
  have hs : Sat [] w0 w0 [(1, k0_0), (2, k0_1), (3, k0_2)] [] := Sat.init w0 [(1, k0_0), (2, k0_1), (3, k0_2)] [] (by simp only [List.mem_cons, List.not_mem_nil, or_false]; rintro x (rfl | rfl | rfl) <;> assumption) (by simp) List.nodup_nil (by simp [blks])
  unfold impl_Act_isNowhere.f at H
  refine enter Try.func61 rfl Try.ntmps61 rfl fun a hk => ?_
  apply wp_seq_k; intro K1 hK1
  apply wp_region_lit
  refine sbx 4 hs rfl hk rfl rfl rfl rfl fun b2 w a hk hs => ?_
  refine sa _ rfl hk rfl rfl rfl fun a hk => ?_
  show wpList _ _ _ [] _ _
  refine wpList_nil ?_
  refine hK1 _ _ ?_
  apply wp_seq_k; intro K3 hK3
  obtain ⟨o5, h6, HL7⟩ := bind_some H
  clear H
  obtain ⟨R8, hR8⟩ : ∃ R : Act → World → Prop, R = fun a w => ∃ (u4 : Bool), u4 = o5 ∧ Kn [(2, (.bool u4))] 16 a ∧ Sat [] w0 w [(1, k0_0), (2, k0_1), (3, k0_2)] [] := ⟨_, rfl⟩
  refine wp_cutq R8 ?_ ?_
  · have H := h6
    apply wp_region_lit
    refine sf ⟨b2, 2, none⟩ rfl hk rfl rfl rfl fd50_2 rfl fun a hk => ?_
    refine sl rfl hk rfl rfl rfl ag3 (box_cell hs (k := 4) rfl rfl) fun a hk => ?_
    refine sv (.bool (x0.At == 0)) hk rfl rfl rfl fun a hk => ?_
    refine sm _ rfl hk rfl rfl rfl fun a hk => ?_
    rcases cond_some H with ⟨c9, H⟩ | ⟨c9, H⟩
    · have hk := hk.lit 6 c9 rfl
      refine sf ⟨b2, 3, none⟩ rfl hk rfl rfl rfl fd50_3 rfl fun a hk => ?_
      refine sl rfl hk rfl rfl rfl ag3 (box_cell hs (k := 4) rfl rfl) fun a hk => ?_
      refine sv (.bool (x0.Place == 0)) hk rfl rfl rfl fun a hk => ?_
      refine sv (.bool (x0.Place == 0)) hk rfl rfl rfl fun a hk => ?_
      refine sm _ rfl hk rfl rfl rfl fun a hk => ?_
      rcases cond_some H with ⟨c10, H⟩ | ⟨c10, H⟩
      · have hk := hk.lit 11 c10 rfl
        refine sf ⟨b2, 4, none⟩ rfl hk rfl rfl rfl fd50_4 rfl fun a hk => ?_
        refine sl rfl hk rfl rfl rfl ag3 (box_cell hs (k := 4) rfl rfl) fun a hk => ?_
        refine sv (.bool (x0.By == 0)) hk rfl rfl rfl fun a hk => ?_
        refine sv (.bool (x0.By == 0)) hk rfl rfl rfl fun a hk => ?_
        refine sa _ rfl hk rfl rfl rfl fun a hk => ?_
        show wpList _ _ _ [] _ _
        refine wpList_nil ?_
        obtain rfl := Option.some.inj H
        show R8 _ _
        rw [hR8]
        exact ⟨(x0.By == 0), rfl, (hk.c 2 rfl hk.k), (hs.pick [] rfl)⟩
      · have hk := hk.lit 11 c10 rfl
        refine sk hk rfl rfl rfl fun a hk => ?_
        refine sk hk rfl rfl rfl fun a hk => ?_
        refine sk hk rfl rfl rfl fun a hk => ?_
        refine sv (.bool false) hk rfl rfl rfl fun a hk => ?_
        refine sa _ rfl hk rfl rfl rfl fun a hk => ?_
        show wpList _ _ _ [] _ _
        refine wpList_nil ?_
        obtain rfl := Option.some.inj H
        show R8 _ _
        rw [hR8]
        exact ⟨false, rfl, (hk.c 2 rfl hk.k), (hs.pick [] rfl)⟩
    · have hk := hk.lit 6 c9 rfl
      refine sk hk rfl rfl rfl fun a hk => ?_
      refine sk hk rfl rfl rfl fun a hk => ?_
      refine sk hk rfl rfl rfl fun a hk => ?_
      refine sv (.bool false) hk rfl rfl rfl fun a hk => ?_
      refine sm _ rfl hk rfl rfl rfl fun a hk => ?_
      refine sk hk rfl rfl rfl fun a hk => ?_
      refine sk hk rfl rfl rfl fun a hk => ?_
      refine sk hk rfl rfl rfl fun a hk => ?_
      refine sv (.bool false) hk rfl rfl rfl fun a hk => ?_
      refine sa _ rfl hk rfl rfl rfl fun a hk => ?_
      show wpList _ _ _ [] _ _
      refine wpList_nil ?_
      obtain rfl := Option.some.inj H
      show R8 _ _
      rw [hR8]
      exact ⟨false, rfl, (hk.c 2 rfl hk.k), (hs.pick [] rfl)⟩
  · intro a w hR0
    rw [hR8] at hR0
    obtain ⟨u4, rfl, hk, hs⟩ := hR0
    have H := HL7
    try dsimp only at H
    refine hK3 _ _ ?_
    refine wp_ret ?_
    obtain rfl := Option.some.inj H
    exact fin hk _ [(.bool u4)] rfl ⟨rfl, trivial⟩ ⟨rfl, (hs.pick [] rfl).dnil⟩

noncomputable def impl_areFates_c1.f (x0 : Int) : Option (Bool) :=
  ((impl_within.f x0 0 2).bind fun y3 => (some y3))
set_option maxRecDepth 100000 in
set_option maxHeartbeats 0 in
theorem impl_areFates_c1_t (w0 : World) (x0 : Int) (r : Bool) (H : impl_areFates_c1.f x0 = some r) :
    Calls Try.prog 142 #[.int .i64 x0] w0 (Ret (fun v w => v = .bool r ∧ Sat [] w0 w [] [])) := by
  have hs : Sat [] w0 w0 [] [] := Sat.init w0 [] [] (by simp) (by simp) List.nodup_nil (by simp [blks])
  unfold impl_areFates_c1.f at H
  refine enter Try.func142 rfl Try.ntmps142 rfl fun a hk => ?_
  apply wp_seq_k; intro K1 hK1
  apply wp_region_lit
  refine sa _ rfl hk rfl rfl rfl fun a hk => ?_
  show wpList _ _ _ [] _ _
  refine wpList_nil ?_
  refine hK1 _ _ ?_
  apply wp_seq_k; intro K2 hK2
  apply wp_region_lit
  refine sm _ rfl hk rfl rfl rfl fun a hk => ?_
  obtain ⟨y3, h4, H⟩ := bind_some H
  refine sc rfl en65 hk rfl rfl rfl (impl_within_t _ x0 0 2 _ h4) ?_
  rintro _ w ⟨rfl, hG⟩ a hk
  have hs := hs.call0 hG
  refine sa _ rfl hk rfl rfl rfl fun a hk => ?_
  show wpList _ _ _ [] _ _
  refine wpList_nil ?_
  refine hK2 _ _ ?_
  refine wp_ret ?_
  obtain rfl := Option.some.inj H
  exact fin hk _ [(.bool y3)] rfl ⟨rfl, trivial⟩ ⟨rfl, (hs.pick [] rfl).dnil⟩

noncomputable def impl_areFates.f (l0 : List Int) : Option (Bool) :=
  ((impl_areAll_int.f l0 impl_areFates_c1.f).bind fun y3 => (some y3))
set_option maxRecDepth 100000 in
set_option maxHeartbeats 0 in
theorem impl_areFates_t (w0 : World) (A0_ : Option Addr) (p0_ : Nat) (l0 : List Int) (k0_ : Chunk) (v0_ : View (Lay.int .i64) A0_ p0_ l0 k0_) (w0_ : Has w0 k0_) (r : Bool) (H : impl_areFates.f l0 = some r) :
    Calls Try.prog 127 #[.slice A0_ l0.length p0_] w0 (Ret (fun v w => v = .bool r ∧ Sat [] w0 w [] [])) := by
  have hs : Sat [] w0 w0 [(1, k0_)] [] := Sat.init w0 [(1, k0_)] [] (by simp only [List.mem_cons, List.not_mem_nil, or_false]; rintro x (rfl) <;> assumption) (by simp) List.nodup_nil (by simp [blks])
  unfold impl_areFates.f at H
  refine enter Try.func127 rfl Try.ntmps127 rfl fun a hk => ?_
  apply wp_seq_k; intro K1 hK1
  apply wp_region_lit
  refine sa _ rfl hk rfl rfl rfl fun a hk => ?_
  show wpList _ _ _ [] _ _
  refine wpList_nil ?_
  refine hK1 _ _ ?_
  apply wp_seq_k; intro K2 hK2
  apply wp_region_lit
  refine sm _ rfl hk rfl rfl rfl fun a hk => ?_
  obtain ⟨y3, h4, H⟩ := bind_some H
  refine sc rfl en125 hk rfl rfl rfl (impl_areAll_int_t _ A0_ p0_ l0 _ v0_ (hs.hasD (k := 1) rfl) 142 [] en142 impl_areFates_c1.f [] (fun w _ z0 r h => impl_areFates_c1_t w z0 r h) (Has.nil _) _ h4) ?_
  rintro _ w ⟨rfl, hG⟩ a hk
  have hs := hs.call0 hG
  refine sa _ rfl hk rfl rfl rfl fun a hk => ?_
  show wpList _ _ _ [] _ _
  refine wpList_nil ?_
  refine hK2 _ _ ?_
  refine wp_ret ?_
  obtain rfl := Option.some.inj H
  exact fin hk _ [(.bool y3)] rfl ⟨rfl, trivial⟩ ⟨rfl, (hs.pick [] rfl).dnil⟩

noncomputable def impl_isTear.f (x0 : Int) (l1 : List Int) : Option (Bool) :=
  ((((impl_within.f x0 0 2).bind fun y8 => (bif y8 then ((impl_areFates.f l1).bind fun y11 => (some y11)) else (some false))) : Option (Bool)).bind fun u3 => (some u3))
set_option maxRecDepth 100000 in
set_option maxHeartbeats 0 in
theorem impl_isTear_t (w0 : World) (x0 : Int) (A1_ : Option Addr) (p1_ : Nat) (l1 : List Int) (k1_ : Chunk) (v1_ : View (Lay.int .i64) A1_ p1_ l1 k1_) (w1_ : Has w0 k1_) (r : Bool) (H : impl_isTear.f x0 l1 = some r) :
    Calls Try.prog 102 #[.int .i64 x0, .slice A1_ l1.length p1_] w0 (Ret (fun v w => v = .bool r ∧ Sat [] w0 w [] [])) := by
  have hs : Sat [] w0 w0 [(1, k1_)] [] := Sat.init w0 [(1, k1_)] [] (by simp only [List.mem_cons, List.not_mem_nil, or_false]; rintro x (rfl) <;> assumption) (by simp) List.nodup_nil (by simp [blks])
  unfold impl_isTear.f at H
  refine enter Try.func102 rfl Try.ntmps102 rfl fun a hk => ?_
  apply wp_seq_k; intro K1 hK1
  apply wp_region_lit
  refine sa _ rfl hk rfl rfl rfl fun a hk => ?_
  show wpList _ _ _ [] _ _
  refine wpList_nil ?_
  refine hK1 _ _ ?_
  apply wp_seq_k; intro K2 hK2
  obtain ⟨o4, h5, HL6⟩ := bind_some H
  clear H
  obtain ⟨R7, hR7⟩ : ∃ R : Act → World → Prop, R = fun a w => ∃ (u3 : Bool), u3 = o4 ∧ Kn [(4, (.bool u3))] 11 a ∧ Sat [] w0 w [(1, k1_)] [] := ⟨_, rfl⟩
  refine wp_cutq R7 ?_ ?_
  · have H := h5
    apply wp_region_lit
    refine sm _ rfl hk rfl rfl rfl fun a hk => ?_
    obtain ⟨y8, h9, H⟩ := bind_some H
    refine sc rfl en65 hk rfl rfl rfl (impl_within_t _ x0 0 2 _ h9) ?_
    rintro _ w ⟨rfl, hG⟩ a hk
    have hs := hs.call0 hG
    refine sm _ rfl hk rfl rfl rfl fun a hk => ?_
    rcases cond_some H with ⟨c10, H⟩ | ⟨c10, H⟩
    · have hk := hk.lit 7 c10 rfl
      refine sm _ rfl hk rfl rfl rfl fun a hk => ?_
      obtain ⟨y11, h12, H⟩ := bind_some H
      refine sc rfl en127 hk rfl rfl rfl (impl_areFates_t _ A1_ p1_ l1 _ v1_ (hs.hasD (k := 1) rfl) _ h12) ?_
      rintro _ w ⟨rfl, hG⟩ a hk
      have hs := hs.call0 hG
      refine sv (.bool y11) hk rfl rfl rfl fun a hk => ?_
      refine sa _ rfl hk rfl rfl rfl fun a hk => ?_
      show wpList _ _ _ [] _ _
      refine wpList_nil ?_
      obtain rfl := Option.some.inj H
      show R7 _ _
      rw [hR7]
      exact ⟨y11, rfl, (hk.c 4 rfl hk.k), (hs.pick [] rfl)⟩
    · have hk := hk.lit 7 c10 rfl
      refine sk hk rfl rfl rfl fun a hk => ?_
      refine sk hk rfl rfl rfl fun a hk => ?_
      refine sv (.bool false) hk rfl rfl rfl fun a hk => ?_
      refine sa _ rfl hk rfl rfl rfl fun a hk => ?_
      show wpList _ _ _ [] _ _
      refine wpList_nil ?_
      obtain rfl := Option.some.inj H
      show R7 _ _
      rw [hR7]
      exact ⟨false, rfl, (hk.c 4 rfl hk.k), (hs.pick [] rfl)⟩
  · intro a w hR0
    rw [hR7] at hR0
    obtain ⟨u3, rfl, hk, hs⟩ := hR0
    have H := HL6
    try dsimp only at H
    refine hK2 _ _ ?_
    refine wp_ret ?_
    obtain rfl := Option.some.inj H
    exact fin hk _ [(.bool u3)] rfl ⟨rfl, trivial⟩ ⟨rfl, (hs.pick [] rfl).dnil⟩

end Go.Proofs.Ytmafglodgnbajaa
