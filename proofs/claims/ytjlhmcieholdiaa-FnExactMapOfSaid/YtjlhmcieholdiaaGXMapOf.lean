/- The functions that FnExactMapOf reaches: for each a model and the walk that shows that the Go code comes to it. -/
import Derived.Test.YtjlhmcieholdiaaT
namespace Go.Proofs.Ytjlhmcieholdiaa
open Go Go.Z Go.Proofs Go.MuLone Go.ChangeShapes Go.WideShapes Go.ChangeAt Go.RowKit
set_option linter.unusedVariables false
set_option linter.unusedSimpArgs false
noncomputable def laws_szIntS.f (l0 : List Int) (x1 : Int) : Option (Int) :=
  (bif (decide ((w64 (x1 - (l0.length : Int))) < 0)) then (some (-1)) else (some (w64 (x1 - (l0.length : Int)))))
set_option maxRecDepth 100000 in
set_option maxHeartbeats 0 in
theorem laws_szIntS_t (w0 : World) (A0_ : Option Addr) (p0_ : Nat) (l0 : List Int) (k0_ : Chunk) (v0_ : View (Lay.int .i64) A0_ p0_ l0 k0_) (w0_ : Has w0 k0_) (x1 : Int) (r : Int) (H : laws_szIntS.f l0 x1 = some r) :
    Calls Try.prog 54 #[.slice A0_ l0.length p0_, .int .i64 x1] w0 (Ret (fun v w => v = .int .i64 r ∧ Sat [] w0 w [] [])) := by
  have hs : Sat [] w0 w0 [(1, k0_)] [] := Sat.init w0 [(1, k0_)] [] (by simp only [List.mem_cons, List.not_mem_nil, or_false]; rintro x (rfl) <;> assumption) (by simp) List.nodup_nil (by simp [blks])
  unfold laws_szIntS.f at H
  refine enter Try.func54 rfl Try.ntmps54 rfl fun a hk => ?_
  apply wp_seq_k; intro K1 hK1
  apply wp_region_lit
  refine sa _ rfl hk rfl rfl rfl fun a hk => ?_
  show wpList _ _ _ [] _ _
  refine wpList_nil ?_
  refine hK1 _ _ ?_
  apply wp_seq_k; intro K2 hK2
  apply wp_region_lit
  refine sm _ rfl hk rfl rfl rfl fun a hk => ?_
  refine sm _ rfl hk rfl rfl rfl fun a hk => ?_
  refine sle rfl hk rfl rfl rfl un22 fun a hk => ?_
  refine sv (.int .i64 (w64 (x1 - (l0.length : Int)))) hk rfl rfl rfl fun a hk => ?_
  refine sa _ rfl hk rfl rfl rfl fun a hk => ?_
  show wpList _ _ _ [] _ _
  refine wpList_nil ?_
  refine hK2 _ _ ?_
  apply wp_seq_k; intro K3 hK3
  apply wp_seq_k; intro K4 hK4
  apply wp_region_lit
  refine sm _ rfl hk rfl rfl rfl fun a hk => ?_
  refine sv (.bool (decide ((w64 (x1 - (l0.length : Int))) < 0))) hk rfl rfl rfl fun a hk => ?_
  show wpList _ _ _ [] _ _
  refine wpList_nil ?_
  refine hK4 _ _ ?_
  rcases cond_some H with ⟨c5, H⟩ | ⟨c5, H⟩
  · have hk := hk.lit 10 c5 rfl
    refine cnd_true hk rfl rfl ?_
    apply wp_seq_k; intro K6 hK6
    apply wp_region_lit
    refine sa _ rfl hk rfl rfl rfl fun a hk => ?_
    show wpList _ _ _ [] _ _
    refine wpList_nil ?_
    refine hK6 _ _ ?_
    refine wp_ret ?_
    obtain rfl := Option.some.inj H
    exact fin hk _ [(.int .i64 (-1))] rfl ⟨rfl, trivial⟩ ⟨rfl, (hs.pick [] rfl).dnil⟩
  · have hk := hk.lit 10 c5 rfl
    refine cnd_false hk rfl rfl ?_
    refine wp_skip ?_
    refine hK3 _ _ ?_
    apply wp_seq_k; intro K7 hK7
    apply wp_region_lit
    refine sm _ rfl hk rfl rfl rfl fun a hk => ?_
    refine sa _ rfl hk rfl rfl rfl fun a hk => ?_
    show wpList _ _ _ [] _ _
    refine wpList_nil ?_
    refine hK7 _ _ ?_
    refine wp_ret ?_
    obtain rfl := Option.some.inj H
    exact fin hk _ [(.int .i64 (w64 (x1 - (l0.length : Int))))] rfl ⟨rfl, trivial⟩ ⟨rfl, (hs.pick [] rfl).dnil⟩

noncomputable def laws_szBlockS.f (l0 : List S_Block) (x1 : Int) : Option (Int) :=
  (bif (decide ((w64 (x1 - (l0.length : Int))) < 0)) then (some (-1)) else (some (w64 (x1 - (l0.length : Int)))))
set_option maxRecDepth 100000 in
set_option maxHeartbeats 0 in
theorem laws_szBlockS_t (w0 : World) (A0_ : Option Addr) (p0_ : Nat) (l0 : List S_Block) (k0_ : Chunk) (v0_ : View L_Block A0_ p0_ l0 k0_) (w0_ : Has w0 k0_) (x1 : Int) (r : Int) (H : laws_szBlockS.f l0 x1 = some r) :
    Calls Try.prog 55 #[.slice A0_ l0.length p0_, .int .i64 x1] w0 (Ret (fun v w => v = .int .i64 r ∧ Sat [] w0 w [] [])) := by
  have hs : Sat [] w0 w0 [(1, k0_)] [] := Sat.init w0 [(1, k0_)] [] (by simp only [List.mem_cons, List.not_mem_nil, or_false]; rintro x (rfl) <;> assumption) (by simp) List.nodup_nil (by simp [blks])
  unfold laws_szBlockS.f at H
  refine enter Try.func55 rfl Try.ntmps55 rfl fun a hk => ?_
  apply wp_seq_k; intro K1 hK1
  apply wp_region_lit
  refine sa _ rfl hk rfl rfl rfl fun a hk => ?_
  show wpList _ _ _ [] _ _
  refine wpList_nil ?_
  refine hK1 _ _ ?_
  apply wp_seq_k; intro K2 hK2
  apply wp_region_lit
  refine sm _ rfl hk rfl rfl rfl fun a hk => ?_
  refine sm _ rfl hk rfl rfl rfl fun a hk => ?_
  refine sle rfl hk rfl rfl rfl un23 fun a hk => ?_
  refine sv (.int .i64 (w64 (x1 - (l0.length : Int)))) hk rfl rfl rfl fun a hk => ?_
  refine sa _ rfl hk rfl rfl rfl fun a hk => ?_
  show wpList _ _ _ [] _ _
  refine wpList_nil ?_
  refine hK2 _ _ ?_
  apply wp_seq_k; intro K3 hK3
  apply wp_seq_k; intro K4 hK4
  apply wp_region_lit
  refine sm _ rfl hk rfl rfl rfl fun a hk => ?_
  refine sv (.bool (decide ((w64 (x1 - (l0.length : Int))) < 0))) hk rfl rfl rfl fun a hk => ?_
  show wpList _ _ _ [] _ _
  refine wpList_nil ?_
  refine hK4 _ _ ?_
  rcases cond_some H with ⟨c5, H⟩ | ⟨c5, H⟩
  · have hk := hk.lit 10 c5 rfl
    refine cnd_true hk rfl rfl ?_
    apply wp_seq_k; intro K6 hK6
    apply wp_region_lit
    refine sa _ rfl hk rfl rfl rfl fun a hk => ?_
    show wpList _ _ _ [] _ _
    refine wpList_nil ?_
    refine hK6 _ _ ?_
    refine wp_ret ?_
    obtain rfl := Option.some.inj H
    exact fin hk _ [(.int .i64 (-1))] rfl ⟨rfl, trivial⟩ ⟨rfl, (hs.pick [] rfl).dnil⟩
  · have hk := hk.lit 10 c5 rfl
    refine cnd_false hk rfl rfl ?_
    refine wp_skip ?_
    refine hK3 _ _ ?_
    apply wp_seq_k; intro K7 hK7
    apply wp_region_lit
    refine sm _ rfl hk rfl rfl rfl fun a hk => ?_
    refine sa _ rfl hk rfl rfl rfl fun a hk => ?_
    show wpList _ _ _ [] _ _
    refine wpList_nil ?_
    refine hK7 _ _ ?_
    refine wp_ret ?_
    obtain rfl := Option.some.inj H
    exact fin hk _ [(.int .i64 (w64 (x1 - (l0.length : Int))))] rfl ⟨rfl, trivial⟩ ⟨rfl, (hs.pick [] rfl).dnil⟩

noncomputable def laws_szBlockSS.s0 (l0 : List (List S_Block)) (u11 : Int) (u12 : Int) : Option ((Int × Int) ⊕ Ex (Int) (Int)) :=
  (bif (decide (u12 < (l0.length : Int))) then (if 0 ≤ u12 ∧ u12 < (l0.length : Int) then ((laws_szBlockS.f (l0.getD u12.toNat []) u11).bind fun y34 => (bif (decide (y34 < 0)) then (some (.inr (.ret (-1)))) else (some (.inl (y34, (w64 (u12 + 1))))))) else none) else (some (.inr (.out u11))))
noncomputable def laws_szBlockSS.f (l0 : List (List S_Block)) (x1 : Int) : Option (Int) :=
  (bif (decide ((w64 (x1 - (l0.length : Int))) < 0)) then (some (-1)) else ((loopO (fun s => laws_szBlockSS.s0 l0 s.1 s.2) ((w64 (x1 - (l0.length : Int))), 0)).bind fun o => match o with | .out u13 => (some u13) | .ret r => (some r)))
set_option maxRecDepth 100000 in
set_option maxHeartbeats 0 in
theorem laws_szBlockSS_t (w0 : World) (A0_ : Option Addr) (p0_ : Nat) (l0 : List (List S_Block)) (k0_ : Chunk) (v0_ : View (Lay.sl L_Block 135) A0_ p0_ l0 k0_) (w0_ : Has w0 k0_) (x1 : Int) (r : Int) (H : laws_szBlockSS.f l0 x1 = some r) :
    Calls Try.prog 56 #[.slice A0_ l0.length p0_, .int .i64 x1] w0 (Ret (fun v w => v = .int .i64 r ∧ Sat [] w0 w [] [])) := by
  have hs : Sat [] w0 w0 [(1, k0_)] [] := Sat.init w0 [(1, k0_)] [] (by simp only [List.mem_cons, List.not_mem_nil, or_false]; rintro x (rfl) <;> assumption) (by simp) List.nodup_nil (by simp [blks])
  unfold laws_szBlockSS.f at H
  refine enter Try.func56 rfl Try.ntmps56 rfl fun a hk => ?_
  apply wp_seq_k; intro K1 hK1
  apply wp_region_lit
  refine sa _ rfl hk rfl rfl rfl fun a hk => ?_
  show wpList _ _ _ [] _ _
  refine wpList_nil ?_
  refine hK1 _ _ ?_
  apply wp_seq_k; intro K2 hK2
  apply wp_region_lit
  refine sm _ rfl hk rfl rfl rfl fun a hk => ?_
  refine sm _ rfl hk rfl rfl rfl fun a hk => ?_
  refine sle rfl hk rfl rfl rfl un24 fun a hk => ?_
  refine sv (.int .i64 (w64 (x1 - (l0.length : Int)))) hk rfl rfl rfl fun a hk => ?_
  refine sa _ rfl hk rfl rfl rfl fun a hk => ?_
  show wpList _ _ _ [] _ _
  refine wpList_nil ?_
  refine hK2 _ _ ?_
  apply wp_seq_k; intro K3 hK3
  apply wp_seq_k; intro K4 hK4
  apply wp_region_lit
  refine sm _ rfl hk rfl rfl rfl fun a hk => ?_
  refine sv (.bool (decide ((w64 (x1 - (l0.length : Int))) < 0))) hk rfl rfl rfl fun a hk => ?_
  show wpList _ _ _ [] _ _
  refine wpList_nil ?_
  refine hK4 _ _ ?_
  rcases cond_some H with ⟨c5, H⟩ | ⟨c5, H⟩
  · have hk := hk.lit 11 c5 rfl
    refine cnd_true hk rfl rfl ?_
    apply wp_seq_k; intro K6 hK6
    apply wp_region_lit
    refine sa _ rfl hk rfl rfl rfl fun a hk => ?_
    show wpList _ _ _ [] _ _
    refine wpList_nil ?_
    refine hK6 _ _ ?_
    refine wp_ret ?_
    obtain rfl := Option.some.inj H
    exact fin hk _ [(.int .i64 (-1))] rfl ⟨rfl, trivial⟩ ⟨rfl, (hs.pick [] rfl).dnil⟩
  · have hk := hk.lit 11 c5 rfl
    refine cnd_false hk rfl rfl ?_
    refine wp_skip ?_
    refine hK3 _ _ ?_
    apply wp_seq_k; intro K7 hK7
    apply wp_seq_k; intro K8 hK8
    apply wp_region_lit
    refine sa _ rfl hk rfl rfl rfl fun a hk => ?_
    show wpList _ _ _ [] _ _
    refine wpList_nil ?_
    refine hK8 _ _ ?_
    obtain ⟨o14, h15, HL16⟩ := bind_some H
    clear H
    obtain ⟨R17, hR17⟩ : ∃ R : Act → World → Prop, R = fun a w => ∃ (u13 : Int), o14 = .out u13 ∧ Kn [(1, (.int .i64 u13))] 27 a ∧ Sat [] w0 w [(1, k0_)] [] := ⟨_, rfl⟩
    refine wp_cutq R17 ?_ ?_
    · refine wp_block ?_
      obtain ⟨fu19, h15⟩ := loopO_some h15
      obtain ⟨I18, hI18⟩ : ∃ I : Nat → Act → World → Prop, I = fun fu a w => ∃ (u11 : Int) (u12 : Int), loopN (fun s => laws_szBlockSS.s0 l0 s.1 s.2) fu (u11, u12) = some o14 ∧ Kn [(0, (.slice A0_ l0.length p0_)), (1, (.int .i64 u11)), (5, (.int .i64 u12))] 27 a ∧ Sat [] w0 w [(1, k0_)] [] := ⟨_, rfl⟩
      refine wp_loop_ghost I18 fu19 ?_ ?_
      · rw [hI18]
        exact ⟨(w64 (x1 - (l0.length : Int))), 0, h15, (hk.c 0 rfl (hk.c 1 rfl (hk.c 5 rfl hk.k))), (hs.pick [] rfl)⟩
      · clear h15 hk hs
        intro fu19 a w hI0
        rw [hI18] at hI0
        obtain ⟨u11, u12, hi, hk, hs⟩ := hI0
        obtain ⟨x20, H, h21⟩ := loop_round hi
        try dsimp only at H
        unfold laws_szBlockSS.s0 at H
        apply wp_seq_k; intro K22 hK22
        apply wp_seq_k; intro K23 hK23
        apply wp_region_lit
        refine sm _ rfl hk rfl rfl rfl fun a hk => ?_
        refine sm _ rfl hk rfl rfl rfl fun a hk => ?_
        refine sle rfl hk rfl rfl rfl un24 fun a hk => ?_
        refine sv (.bool (decide (u12 < (l0.length : Int)))) hk rfl rfl rfl fun a hk => ?_
        show wpList _ _ _ [] _ _
        refine wpList_nil ?_
        refine hK23 _ _ ?_
        rcases cond_some H with ⟨c24, H⟩ | ⟨c24, H⟩
        · have hk := hk.lit 15 c24 rfl
          refine cnd_true hk rfl rfl ?_
          refine wp_skip ?_
          refine hK22 _ _ ?_
          apply wp_seq_k; intro K25 hK25
          refine wp_block ?_
          apply wp_seq_k; intro K26 hK26
          apply wp_region_lit
          refine sm _ rfl hk rfl rfl rfl fun a hk => ?_
          refine sm _ rfl hk rfl rfl rfl fun a hk => ?_
          rcases ite_some H with ⟨c27, H⟩ | ⟨_, H⟩
          rotate_left
          · cases H
          obtain ⟨b28, q29, hAc27⟩ := (v0_).some_ u12 c27.1 c27.2
          refine si rfl hk rfl rfl rfl rfl un24 sz23 c27.1 c27.2 hAc27 fun a hk => ?_
          obtain ⟨_, ⟨_, rfl, A31, p32, rfl, v33⟩, e30⟩ := (v0_).at_ [] u12 c27.1 c27.2
          refine sl (v := (.slice A31 (l0.getD u12.toNat []).length p32)) rfl hk rfl rfl rfl ag23 ((e30 0 _ rfl).cell (hs.hasD (k := 1) rfl)) fun a hk => ?_
          refine sm _ rfl hk rfl rfl rfl fun a hk => ?_
          obtain ⟨y34, h35, H⟩ := bind_some H
          refine sc rfl en55 hk rfl rfl rfl (laws_szBlockS_t _ A31 p32 (l0.getD u12.toNat []) _ v33 (hs.hasD (k := 1) rfl) u11 _ h35) ?_
          rintro _ w ⟨rfl, hG⟩ a hk
          have hs := hs.call0 hG
          refine sa _ rfl hk rfl rfl rfl fun a hk => ?_
          show wpList _ _ _ [] _ _
          refine wpList_nil ?_
          refine hK26 _ _ ?_
          apply wp_seq_k; intro K36 hK36
          apply wp_region_lit
          refine sm _ rfl hk rfl rfl rfl fun a hk => ?_
          refine sv (.bool (decide (y34 < 0))) hk rfl rfl rfl fun a hk => ?_
          show wpList _ _ _ [] _ _
          refine wpList_nil ?_
          refine hK36 _ _ ?_
          rcases cond_some H with ⟨c37, H⟩ | ⟨c37, H⟩
          · have hk := hk.lit 25 c37 rfl
            refine cnd_true hk rfl rfl ?_
            apply wp_seq_k; intro K38 hK38
            apply wp_region_lit
            refine sa _ rfl hk rfl rfl rfl fun a hk => ?_
            show wpList _ _ _ [] _ _
            refine wpList_nil ?_
            refine hK38 _ _ ?_
            refine wp_ret ?_
            obtain rfl := Option.some.inj H
            have ho14 := h21
            try dsimp only at ho14
            subst ho14
            have H := HL16
            try dsimp only at H
            obtain rfl := Option.some.inj H
            exact fin hk _ [(.int .i64 (-1))] rfl ⟨rfl, trivial⟩ ⟨rfl, (hs.pick [] rfl).dnil⟩
          · have hk := hk.lit 25 c37 rfl
            refine cnd_false hk rfl rfl ?_
            refine wp_skip ?_
            refine hK25 _ _ ?_
            apply wp_region_lit
            refine sm _ rfl hk rfl rfl rfl fun a hk => ?_
            refine sv (.int .i64 (w64 (u12 + 1))) hk rfl rfl rfl fun a hk => ?_
            refine sa _ rfl hk rfl rfl rfl fun a hk => ?_
            show wpList _ _ _ [] _ _
            refine wpList_nil ?_
            obtain rfl := Option.some.inj H
            obtain ⟨m39, hmm39, h21⟩ := h21
            show ∃ n', n' < _ ∧ I18 n' _ _
            refine ⟨m39, hmm39, ?_⟩
            rw [hI18]
            exact ⟨y34, (w64 (u12 + 1)), h21, (hk.c 0 rfl (hk.c 1 rfl (hk.c 5 rfl hk.k))), (hs.pick [] rfl)⟩
        · have hk := hk.lit 15 c24 rfl
          refine cnd_false hk rfl rfl ?_
          refine wp_exit ?_
          obtain rfl := Option.some.inj H
          show R17 _ _
          rw [hR17]
          exact ⟨u11, h21.symm, (hk.c 1 rfl hk.k), (hs.pick [] rfl)⟩
    · intro a w hR0
      rw [hR17] at hR0
      obtain ⟨u13, rfl, hk, hs⟩ := hR0
      have H := HL16
      try dsimp only at H
      refine hK7 _ _ ?_
      apply wp_seq_k; intro K40 hK40
      apply wp_region_lit
      refine sm _ rfl hk rfl rfl rfl fun a hk => ?_
      refine sa _ rfl hk rfl rfl rfl fun a hk => ?_
      show wpList _ _ _ [] _ _
      refine wpList_nil ?_
      refine hK40 _ _ ?_
      refine wp_ret ?_
      obtain rfl := Option.some.inj H
      exact fin hk _ [(.int .i64 u13)] rfl ⟨rfl, trivial⟩ ⟨rfl, (hs.pick [] rfl).dnil⟩

noncomputable def laws_szOram.f (x0 : S_Oram) (x1 : Int) : Option (Int) :=
  ((laws_szIntS.f x0.Pos x1).bind fun y4 => (bif (decide (y4 < 0)) then (some (-1)) else ((laws_szBlockS.f x0.Stash y4).bind fun y11 => (bif (decide (y11 < 0)) then (some (-1)) else ((laws_szBlockSS.f x0.Buckets y11).bind fun y18 => (bif (decide (y18 < 0)) then (some (-1)) else (some y18)))))))
set_option maxRecDepth 100000 in
set_option maxHeartbeats 0 in
theorem laws_szOram_t (w0 : World) (x0 : S_Oram) (A0_0 : Option Addr) (p0_0 : Nat) (k0_0 : Chunk) (v0_0 : View (Lay.int .i64) A0_0 p0_0 x0.Pos k0_0) (w0_0 : Has w0 k0_0) (A0_1 : Option Addr) (p0_1 : Nat) (k0_1 : Chunk) (v0_1 : View L_Block A0_1 p0_1 x0.Stash k0_1) (w0_1 : Has w0 k0_1) (A0_2 : Option Addr) (p0_2 : Nat) (k0_2 : Chunk) (v0_2 : View (Lay.sl L_Block 135) A0_2 p0_2 x0.Buckets k0_2) (w0_2 : Has w0 k0_2) (x1 : Int) (r : Int) (H : laws_szOram.f x0 x1 = some r) :
    Calls Try.prog 9 #[.agg #[.slice A0_0 x0.Pos.length p0_0, .slice A0_1 x0.Stash.length p0_1, .slice A0_2 x0.Buckets.length p0_2], .int .i64 x1] w0 (Ret (fun v w => v = .int .i64 r ∧ Sat [] w0 w [] [])) := by
  have hs : Sat [] w0 w0 [(1, k0_0), (2, k0_1), (3, k0_2)] [] := Sat.init w0 [(1, k0_0), (2, k0_1), (3, k0_2)] [] (by simp only [List.mem_cons, List.not_mem_nil, or_false]; rintro x (rfl | rfl | rfl) <;> assumption) (by simp) List.nodup_nil (by simp [blks])
  unfold laws_szOram.f at H
  refine enter Try.func9 rfl Try.ntmps9 rfl fun a hk => ?_
  apply wp_seq_k; intro K1 hK1
  apply wp_region_lit
  refine sbx 4 hs rfl hk rfl rfl rfl rfl fun b2 w a hk hs => ?_
  refine sa _ rfl hk rfl rfl rfl fun a hk => ?_
  show wpList _ _ _ [] _ _
  refine wpList_nil ?_
  refine hK1 _ _ ?_
  apply wp_seq_k; intro K3 hK3
  apply wp_region_lit
  refine sf ⟨b2, 0, none⟩ rfl hk rfl rfl rfl fd26_0 rfl fun a hk => ?_
  refine sl rfl hk rfl rfl rfl ag22 (box_cell hs (k := 4) rfl rfl) fun a hk => ?_
  refine sm _ rfl hk rfl rfl rfl fun a hk => ?_
  obtain ⟨y4, h5, H⟩ := bind_some H
  refine sc rfl en54 hk rfl rfl rfl (laws_szIntS_t _ A0_0 p0_0 x0.Pos _ v0_0 (hs.hasD (k := 1) rfl) x1 _ h5) ?_
  rintro _ w ⟨rfl, hG⟩ a hk
  have hs := hs.call0 hG
  refine sa _ rfl hk rfl rfl rfl fun a hk => ?_
  show wpList _ _ _ [] _ _
  refine wpList_nil ?_
  refine hK3 _ _ ?_
  apply wp_seq_k; intro K6 hK6
  apply wp_seq_k; intro K7 hK7
  apply wp_region_lit
  refine sm _ rfl hk rfl rfl rfl fun a hk => ?_
  refine sv (.bool (decide (y4 < 0))) hk rfl rfl rfl fun a hk => ?_
  show wpList _ _ _ [] _ _
  refine wpList_nil ?_
  refine hK7 _ _ ?_
  rcases cond_some H with ⟨c8, H⟩ | ⟨c8, H⟩
  · have hk := hk.lit 10 c8 rfl
    refine cnd_true hk rfl rfl ?_
    apply wp_seq_k; intro K9 hK9
    apply wp_region_lit
    refine sa _ rfl hk rfl rfl rfl fun a hk => ?_
    show wpList _ _ _ [] _ _
    refine wpList_nil ?_
    refine hK9 _ _ ?_
    refine wp_ret ?_
    obtain rfl := Option.some.inj H
    exact fin hk _ [(.int .i64 (-1))] rfl ⟨rfl, trivial⟩ ⟨rfl, (hs.pick [] rfl).dnil⟩
  · have hk := hk.lit 10 c8 rfl
    refine cnd_false hk rfl rfl ?_
    refine wp_skip ?_
    refine hK6 _ _ ?_
    apply wp_seq_k; intro K10 hK10
    apply wp_region_lit
    refine sf ⟨b2, 1, none⟩ rfl hk rfl rfl rfl fd26_1 rfl fun a hk => ?_
    refine sl rfl hk rfl rfl rfl ag23 (box_cell hs (k := 4) rfl rfl) fun a hk => ?_
    refine sm _ rfl hk rfl rfl rfl fun a hk => ?_
    obtain ⟨y11, h12, H⟩ := bind_some H
    refine sc rfl en55 hk rfl rfl rfl (laws_szBlockS_t _ A0_1 p0_1 x0.Stash _ v0_1 (hs.hasD (k := 2) rfl) y4 _ h12) ?_
    rintro _ w ⟨rfl, hG⟩ a hk
    have hs := hs.call0 hG
    refine sa _ rfl hk rfl rfl rfl fun a hk => ?_
    show wpList _ _ _ [] _ _
    refine wpList_nil ?_
    refine hK10 _ _ ?_
    apply wp_seq_k; intro K13 hK13
    apply wp_seq_k; intro K14 hK14
    apply wp_region_lit
    refine sm _ rfl hk rfl rfl rfl fun a hk => ?_
    refine sv (.bool (decide (y11 < 0))) hk rfl rfl rfl fun a hk => ?_
    show wpList _ _ _ [] _ _
    refine wpList_nil ?_
    refine hK14 _ _ ?_
    rcases cond_some H with ⟨c15, H⟩ | ⟨c15, H⟩
    · have hk := hk.lit 16 c15 rfl
      refine cnd_true hk rfl rfl ?_
      apply wp_seq_k; intro K16 hK16
      apply wp_region_lit
      refine sa _ rfl hk rfl rfl rfl fun a hk => ?_
      show wpList _ _ _ [] _ _
      refine wpList_nil ?_
      refine hK16 _ _ ?_
      refine wp_ret ?_
      obtain rfl := Option.some.inj H
      exact fin hk _ [(.int .i64 (-1))] rfl ⟨rfl, trivial⟩ ⟨rfl, (hs.pick [] rfl).dnil⟩
    · have hk := hk.lit 16 c15 rfl
      refine cnd_false hk rfl rfl ?_
      refine wp_skip ?_
      refine hK13 _ _ ?_
      apply wp_seq_k; intro K17 hK17
      apply wp_region_lit
      refine sf ⟨b2, 2, none⟩ rfl hk rfl rfl rfl fd26_2 rfl fun a hk => ?_
      refine sl rfl hk rfl rfl rfl ag24 (box_cell hs (k := 4) rfl rfl) fun a hk => ?_
      refine sm _ rfl hk rfl rfl rfl fun a hk => ?_
      obtain ⟨y18, h19, H⟩ := bind_some H
      refine sc rfl en56 hk rfl rfl rfl (laws_szBlockSS_t _ A0_2 p0_2 x0.Buckets _ v0_2 (hs.hasD (k := 3) rfl) y11 _ h19) ?_
      rintro _ w ⟨rfl, hG⟩ a hk
      have hs := hs.call0 hG
      refine sa _ rfl hk rfl rfl rfl fun a hk => ?_
      show wpList _ _ _ [] _ _
      refine wpList_nil ?_
      refine hK17 _ _ ?_
      apply wp_seq_k; intro K20 hK20
      apply wp_seq_k; intro K21 hK21
      apply wp_region_lit
      refine sm _ rfl hk rfl rfl rfl fun a hk => ?_
      refine sv (.bool (decide (y18 < 0))) hk rfl rfl rfl fun a hk => ?_
      show wpList _ _ _ [] _ _
      refine wpList_nil ?_
      refine hK21 _ _ ?_
      rcases cond_some H with ⟨c22, H⟩ | ⟨c22, H⟩
      · have hk := hk.lit 22 c22 rfl
        refine cnd_true hk rfl rfl ?_
        apply wp_seq_k; intro K23 hK23
        apply wp_region_lit
        refine sa _ rfl hk rfl rfl rfl fun a hk => ?_
        show wpList _ _ _ [] _ _
        refine wpList_nil ?_
        refine hK23 _ _ ?_
        refine wp_ret ?_
        obtain rfl := Option.some.inj H
        exact fin hk _ [(.int .i64 (-1))] rfl ⟨rfl, trivial⟩ ⟨rfl, (hs.pick [] rfl).dnil⟩
      · have hk := hk.lit 22 c22 rfl
        refine cnd_false hk rfl rfl ?_
        refine wp_skip ?_
        refine hK20 _ _ ?_
        apply wp_seq_k; intro K24 hK24
        apply wp_region_lit
        refine sm _ rfl hk rfl rfl rfl fun a hk => ?_
        refine sa _ rfl hk rfl rfl rfl fun a hk => ?_
        show wpList _ _ _ [] _ _
        refine wpList_nil ?_
        refine hK24 _ _ ?_
        refine wp_ret ?_
        obtain rfl := Option.some.inj H
        exact fin hk _ [(.int .i64 y18)] rfl ⟨rfl, trivial⟩ ⟨rfl, (hs.pick [] rfl).dnil⟩

noncomputable def laws_szEnc.f (x0 : S_Enc) (x1 : Int) : Option (Int) :=
  ((laws_szIntS.f x0.Keys x1).bind fun y4 => (bif (decide (y4 < 0)) then (some (-1)) else ((laws_szOram.f x0.Oram y4).bind fun y11 => (bif (decide (y11 < 0)) then (some (-1)) else (some y11)))))
set_option maxRecDepth 100000 in
set_option maxHeartbeats 0 in
theorem laws_szEnc_t (w0 : World) (x0 : S_Enc) (A0_0 : Option Addr) (p0_0 : Nat) (k0_0 : Chunk) (v0_0 : View (Lay.int .i64) A0_0 p0_0 x0.Keys k0_0) (w0_0 : Has w0 k0_0) (A0_1 : Option Addr) (p0_1 : Nat) (k0_1 : Chunk) (v0_1 : View (Lay.int .i64) A0_1 p0_1 x0.Oram.Pos k0_1) (w0_1 : Has w0 k0_1) (A0_2 : Option Addr) (p0_2 : Nat) (k0_2 : Chunk) (v0_2 : View L_Block A0_2 p0_2 x0.Oram.Stash k0_2) (w0_2 : Has w0 k0_2) (A0_3 : Option Addr) (p0_3 : Nat) (k0_3 : Chunk) (v0_3 : View (Lay.sl L_Block 135) A0_3 p0_3 x0.Oram.Buckets k0_3) (w0_3 : Has w0 k0_3) (x1 : Int) (r : Int) (H : laws_szEnc.f x0 x1 = some r) :
    Calls Try.prog 24 #[.agg #[.slice A0_0 x0.Keys.length p0_0, .slice A0_1 x0.Oram.Pos.length p0_1, .slice A0_2 x0.Oram.Stash.length p0_2, .slice A0_3 x0.Oram.Buckets.length p0_3], .int .i64 x1] w0 (Ret (fun v w => v = .int .i64 r ∧ Sat [] w0 w [] [])) := by
  have hs : Sat [] w0 w0 [(1, k0_0), (2, k0_1), (3, k0_2), (4, k0_3)] [] := Sat.init w0 [(1, k0_0), (2, k0_1), (3, k0_2), (4, k0_3)] [] (by simp only [List.mem_cons, List.not_mem_nil, or_false]; rintro x (rfl | rfl | rfl | rfl) <;> assumption) (by simp) List.nodup_nil (by simp [blks])
  unfold laws_szEnc.f at H
  refine enter Try.func24 rfl Try.ntmps24 rfl fun a hk => ?_
  apply wp_seq_k; intro K1 hK1
  apply wp_region_lit
  refine sbx 5 hs rfl hk rfl rfl rfl rfl fun b2 w a hk hs => ?_
  refine sa _ rfl hk rfl rfl rfl fun a hk => ?_
  show wpList _ _ _ [] _ _
  refine wpList_nil ?_
  refine hK1 _ _ ?_
  apply wp_seq_k; intro K3 hK3
  apply wp_region_lit
  refine sf ⟨b2, 0, none⟩ rfl hk rfl rfl rfl fd48_0 rfl fun a hk => ?_
  refine sl rfl hk rfl rfl rfl ag22 (box_cell hs (k := 5) rfl rfl) fun a hk => ?_
  refine sm _ rfl hk rfl rfl rfl fun a hk => ?_
  obtain ⟨y4, h5, H⟩ := bind_some H
  refine sc rfl en54 hk rfl rfl rfl (laws_szIntS_t _ A0_0 p0_0 x0.Keys _ v0_0 (hs.hasD (k := 1) rfl) x1 _ h5) ?_
  rintro _ w ⟨rfl, hG⟩ a hk
  have hs := hs.call0 hG
  refine sa _ rfl hk rfl rfl rfl fun a hk => ?_
  show wpList _ _ _ [] _ _
  refine wpList_nil ?_
  refine hK3 _ _ ?_
  apply wp_seq_k; intro K6 hK6
  apply wp_seq_k; intro K7 hK7
  apply wp_region_lit
  refine sm _ rfl hk rfl rfl rfl fun a hk => ?_
  refine sv (.bool (decide (y4 < 0))) hk rfl rfl rfl fun a hk => ?_
  show wpList _ _ _ [] _ _
  refine wpList_nil ?_
  refine hK7 _ _ ?_
  rcases cond_some H with ⟨c8, H⟩ | ⟨c8, H⟩
  · have hk := hk.lit 10 c8 rfl
    refine cnd_true hk rfl rfl ?_
    apply wp_seq_k; intro K9 hK9
    apply wp_region_lit
    refine sa _ rfl hk rfl rfl rfl fun a hk => ?_
    show wpList _ _ _ [] _ _
    refine wpList_nil ?_
    refine hK9 _ _ ?_
    refine wp_ret ?_
    obtain rfl := Option.some.inj H
    exact fin hk _ [(.int .i64 (-1))] rfl ⟨rfl, trivial⟩ ⟨rfl, (hs.pick [] rfl).dnil⟩
  · have hk := hk.lit 10 c8 rfl
    refine cnd_false hk rfl rfl ?_
    refine wp_skip ?_
    refine hK6 _ _ ?_
    apply wp_seq_k; intro K10 hK10
    apply wp_region_lit
    refine sf ⟨b2, 1, none⟩ rfl hk rfl rfl rfl fd48_1 rfl fun a hk => ?_
    refine sln [.slice A0_1 x0.Oram.Pos.length p0_1, .slice A0_2 x0.Oram.Stash.length p0_2, .slice A0_3 x0.Oram.Buckets.length p0_3] rfl hk rfl rfl rfl ag26 sz26 (box_part hs (k := 5) rfl rfl) fun a hk => ?_
    refine sm _ rfl hk rfl rfl rfl fun a hk => ?_
    obtain ⟨y11, h12, H⟩ := bind_some H
    refine sc rfl en9 hk rfl rfl rfl (laws_szOram_t _ x0.Oram A0_1 p0_1 _ v0_1 (hs.hasD (k := 2) rfl) A0_2 p0_2 _ v0_2 (hs.hasD (k := 3) rfl) A0_3 p0_3 _ v0_3 (hs.hasD (k := 4) rfl) y4 _ h12) ?_
    rintro _ w ⟨rfl, hG⟩ a hk
    have hs := hs.call0 hG
    refine sa _ rfl hk rfl rfl rfl fun a hk => ?_
    show wpList _ _ _ [] _ _
    refine wpList_nil ?_
    refine hK10 _ _ ?_
    apply wp_seq_k; intro K13 hK13
    apply wp_seq_k; intro K14 hK14
    apply wp_region_lit
    refine sm _ rfl hk rfl rfl rfl fun a hk => ?_
    refine sv (.bool (decide (y11 < 0))) hk rfl rfl rfl fun a hk => ?_
    show wpList _ _ _ [] _ _
    refine wpList_nil ?_
    refine hK14 _ _ ?_
    rcases cond_some H with ⟨c15, H⟩ | ⟨c15, H⟩
    · have hk := hk.lit 16 c15 rfl
      refine cnd_true hk rfl rfl ?_
      apply wp_seq_k; intro K16 hK16
      apply wp_region_lit
      refine sa _ rfl hk rfl rfl rfl fun a hk => ?_
      show wpList _ _ _ [] _ _
      refine wpList_nil ?_
      refine hK16 _ _ ?_
      refine wp_ret ?_
      obtain rfl := Option.some.inj H
      exact fin hk _ [(.int .i64 (-1))] rfl ⟨rfl, trivial⟩ ⟨rfl, (hs.pick [] rfl).dnil⟩
    · have hk := hk.lit 16 c15 rfl
      refine cnd_false hk rfl rfl ?_
      refine wp_skip ?_
      refine hK13 _ _ ?_
      apply wp_seq_k; intro K17 hK17
      apply wp_region_lit
      refine sm _ rfl hk rfl rfl rfl fun a hk => ?_
      refine sa _ rfl hk rfl rfl rfl fun a hk => ?_
      show wpList _ _ _ [] _ _
      refine wpList_nil ?_
      refine hK17 _ _ ?_
      refine wp_ret ?_
      obtain rfl := Option.some.inj H
      exact fin hk _ [(.int .i64 y11)] rfl ⟨rfl, trivial⟩ ⟨rfl, (hs.pick [] rfl).dnil⟩

noncomputable def spec_l01In.f (x0 : Int) (x1 : Int) (x2 : Int) : Option (Bool) :=
  (((bif (decide (x1 ≤ x0)) then (some (decide (x0 ≤ x2))) else (some false)) : Option (Bool)).bind fun u4 => (some u4))
set_option maxRecDepth 100000 in
set_option maxHeartbeats 0 in
theorem spec_l01In_t (w0 : World) (x0 : Int) (x1 : Int) (x2 : Int) (r : Bool) (H : spec_l01In.f x0 x1 x2 = some r) :
    Calls Try.prog 58 #[.int .i64 x0, .int .i64 x1, .int .i64 x2] w0 (Ret (fun v w => v = .bool r ∧ Sat [] w0 w [] [])) := by
  have hs : Sat [] w0 w0 [] [] := Sat.init w0 [] [] (by simp) (by simp) List.nodup_nil (by simp [blks])
  unfold spec_l01In.f at H
  refine enter Try.func58 rfl Try.ntmps58 rfl fun a hk => ?_
  apply wp_seq_k; intro K1 hK1
  apply wp_region_lit
  refine sa _ rfl hk rfl rfl rfl fun a hk => ?_
  show wpList _ _ _ [] _ _
  refine wpList_nil ?_
  refine hK1 _ _ ?_
  apply wp_seq_k; intro K2 hK2
  obtain ⟨o5, h6, HL7⟩ := bind_some H
  clear H
  obtain ⟨R8, hR8⟩ : ∃ R : Act → World → Prop, R = fun a w => ∃ (u4 : Bool), u4 = o5 ∧ Kn [(6, (.bool u4))] 15 a ∧ Sat [] w0 w [] [] := ⟨_, rfl⟩
  refine wp_cutq R8 ?_ ?_
  · have H := h6
    apply wp_region_lit
    refine sm _ rfl hk rfl rfl rfl fun a hk => ?_
    refine sm _ rfl hk rfl rfl rfl fun a hk => ?_
    refine sv (.bool (decide (x1 ≤ x0))) hk rfl rfl rfl fun a hk => ?_
    refine sm _ rfl hk rfl rfl rfl fun a hk => ?_
    rcases cond_some H with ⟨c9, H⟩ | ⟨c9, H⟩
    · have hk := hk.lit 10 c9 rfl
      refine sm _ rfl hk rfl rfl rfl fun a hk => ?_
      refine sm _ rfl hk rfl rfl rfl fun a hk => ?_
      refine sv (.bool (decide (x0 ≤ x2))) hk rfl rfl rfl fun a hk => ?_
      refine sv (.bool (decide (x0 ≤ x2))) hk rfl rfl rfl fun a hk => ?_
      refine sa _ rfl hk rfl rfl rfl fun a hk => ?_
      show wpList _ _ _ [] _ _
      refine wpList_nil ?_
      obtain rfl := Option.some.inj H
      show R8 _ _
      rw [hR8]
      exact ⟨(decide (x0 ≤ x2)), rfl, (hk.c 6 rfl hk.k), (hs.pick [] rfl)⟩
    · have hk := hk.lit 10 c9 rfl
      refine sk hk rfl rfl rfl fun a hk => ?_
      refine sk hk rfl rfl rfl fun a hk => ?_
      refine sk hk rfl rfl rfl fun a hk => ?_
      refine sv (.bool false) hk rfl rfl rfl fun a hk => ?_
      refine sa _ rfl hk rfl rfl rfl fun a hk => ?_
      show wpList _ _ _ [] _ _
      refine wpList_nil ?_
      obtain rfl := Option.some.inj H
      show R8 _ _
      rw [hR8]
      exact ⟨false, rfl, (hk.c 6 rfl hk.k), (hs.pick [] rfl)⟩
  · intro a w hR0
    rw [hR8] at hR0
    obtain ⟨u4, rfl, hk, hs⟩ := hR0
    have H := HL7
    try dsimp only at H
    refine hK2 _ _ ?_
    refine wp_ret ?_
    obtain rfl := Option.some.inj H
    exact fin hk _ [(.bool u4)] rfl ⟨rfl, trivial⟩ ⟨rfl, (hs.pick [] rfl).dnil⟩

noncomputable def spec_l08Leaves.s0 (l0 : List Int) (u6 : Int) : Option ((Int) ⊕ Ex (Unit) (Bool)) :=
  (bif (decide (u6 < (l0.length : Int))) then (if 0 ≤ u6 ∧ u6 < (l0.length : Int) then ((spec_l01In.f (l0.getD u6.toNat 0) 0 7).bind fun y24 => (bif (!y24) then (some (.inr (.ret false))) else (some (.inl (w64 (u6 + 1)))))) else none) else (some (.inr (.out ()))))
noncomputable def spec_l08Leaves.f (l0 : List Int) : Option (Bool) :=
  ((loopO (fun s => spec_l08Leaves.s0 l0 s) 0).bind fun o => match o with | .out _ => (some true) | .ret r => (some r))
set_option maxRecDepth 100000 in
set_option maxHeartbeats 0 in
theorem spec_l08Leaves_t (w0 : World) (A0_ : Option Addr) (p0_ : Nat) (l0 : List Int) (k0_ : Chunk) (v0_ : View (Lay.int .i64) A0_ p0_ l0 k0_) (w0_ : Has w0 k0_) (r : Bool) (H : spec_l08Leaves.f l0 = some r) :
    Calls Try.prog 123 #[.slice A0_ l0.length p0_] w0 (Ret (fun v w => v = .bool r ∧ Sat [] w0 w [] [])) := by
  have hs : Sat [] w0 w0 [(1, k0_)] [] := Sat.init w0 [(1, k0_)] [] (by simp only [List.mem_cons, List.not_mem_nil, or_false]; rintro x (rfl) <;> assumption) (by simp) List.nodup_nil (by simp [blks])
  unfold spec_l08Leaves.f at H
  refine enter Try.func123 rfl Try.ntmps123 rfl fun a hk => ?_
  apply wp_seq_k; intro K1 hK1
  apply wp_region_lit
  refine sa _ rfl hk rfl rfl rfl fun a hk => ?_
  show wpList _ _ _ [] _ _
  refine wpList_nil ?_
  refine hK1 _ _ ?_
  apply wp_seq_k; intro K2 hK2
  apply wp_seq_k; intro K3 hK3
  apply wp_region_lit
  refine sa _ rfl hk rfl rfl rfl fun a hk => ?_
  show wpList _ _ _ [] _ _
  refine wpList_nil ?_
  refine hK3 _ _ ?_
  obtain ⟨o7, h8, HL9⟩ := bind_some H
  clear H
  obtain ⟨R10, hR10⟩ : ∃ R : Act → World → Prop, R = fun a w => o7 = .out () ∧ Kn [] 16 a ∧ Sat [] w0 w [(1, k0_)] [] := ⟨_, rfl⟩
  refine wp_cutq R10 ?_ ?_
  · refine wp_block ?_
    obtain ⟨fu12, h8⟩ := loopO_some h8
    obtain ⟨I11, hI11⟩ : ∃ I : Nat → Act → World → Prop, I = fun fu a w => ∃ (u6 : Int), loopN (fun s => spec_l08Leaves.s0 l0 s) fu u6 = some o7 ∧ Kn [(0, (.slice A0_ l0.length p0_)), (3, (.int .i64 u6))] 16 a ∧ Sat [] w0 w [(1, k0_)] [] := ⟨_, rfl⟩
    refine wp_loop_ghost I11 fu12 ?_ ?_
    · rw [hI11]
      exact ⟨0, h8, (hk.c 0 rfl (hk.c 3 rfl hk.k)), (hs.pick [] rfl)⟩
    · clear h8 hk hs
      intro fu12 a w hI0
      rw [hI11] at hI0
      obtain ⟨u6, hi, hk, hs⟩ := hI0
      obtain ⟨x13, H, h14⟩ := loop_round hi
      try dsimp only at H
      unfold spec_l08Leaves.s0 at H
      apply wp_seq_k; intro K15 hK15
      apply wp_seq_k; intro K16 hK16
      apply wp_region_lit
      refine sm _ rfl hk rfl rfl rfl fun a hk => ?_
      refine sm _ rfl hk rfl rfl rfl fun a hk => ?_
      refine sle rfl hk rfl rfl rfl un22 fun a hk => ?_
      refine sv (.bool (decide (u6 < (l0.length : Int)))) hk rfl rfl rfl fun a hk => ?_
      show wpList _ _ _ [] _ _
      refine wpList_nil ?_
      refine hK16 _ _ ?_
      rcases cond_some H with ⟨c17, H⟩ | ⟨c17, H⟩
      · have hk := hk.lit 7 c17 rfl
        refine cnd_true hk rfl rfl ?_
        refine wp_skip ?_
        refine hK15 _ _ ?_
        apply wp_seq_k; intro K18 hK18
        refine wp_block ?_
        apply wp_seq_k; intro K19 hK19
        apply wp_region_lit
        refine sm _ rfl hk rfl rfl rfl fun a hk => ?_
        refine sm _ rfl hk rfl rfl rfl fun a hk => ?_
        rcases ite_some H with ⟨c20, H⟩ | ⟨_, H⟩
        rotate_left
        · cases H
        obtain ⟨b21, q22, hAc20⟩ := (v0_).some_ u6 c20.1 c20.2
        refine si rfl hk rfl rfl rfl rfl un22 sz3 c20.1 c20.2 hAc20 fun a hk => ?_
        obtain ⟨_, rfl, e23⟩ := (v0_).at_ 0 u6 c20.1 c20.2
        refine sl (v := (.int .i64 (l0.getD u6.toNat 0))) rfl hk rfl rfl rfl ag3 ((e23 0 _ rfl).cell (hs.hasD (k := 1) rfl)) fun a hk => ?_
        obtain ⟨y24, h25, H⟩ := bind_some H
        refine sc rfl en58 hk rfl rfl rfl (spec_l01In_t _ (l0.getD u6.toNat 0) 0 7 _ h25) ?_
        rintro _ w ⟨rfl, hG⟩ a hk
        have hs := hs.call0 hG
        refine sv (.bool (!y24)) hk rfl rfl rfl fun a hk => ?_
        show wpList _ _ _ [] _ _
        refine wpList_nil ?_
        refine hK19 _ _ ?_
        rcases cond_some H with ⟨c26, H⟩ | ⟨c26, H⟩
        · have hk := hk.lit 15 c26 rfl
          refine cnd_true hk rfl rfl ?_
          apply wp_seq_k; intro K27 hK27
          apply wp_region_lit
          refine sa _ rfl hk rfl rfl rfl fun a hk => ?_
          show wpList _ _ _ [] _ _
          refine wpList_nil ?_
          refine hK27 _ _ ?_
          refine wp_ret ?_
          obtain rfl := Option.some.inj H
          have ho7 := h14
          try dsimp only at ho7
          subst ho7
          have H := HL9
          try dsimp only at H
          obtain rfl := Option.some.inj H
          exact fin hk _ [(.bool false)] rfl ⟨rfl, trivial⟩ ⟨rfl, (hs.pick [] rfl).dnil⟩
        · have hk := hk.lit 15 c26 rfl
          refine cnd_false hk rfl rfl ?_
          refine wp_skip ?_
          refine hK18 _ _ ?_
          apply wp_region_lit
          refine sm _ rfl hk rfl rfl rfl fun a hk => ?_
          refine sv (.int .i64 (w64 (u6 + 1))) hk rfl rfl rfl fun a hk => ?_
          refine sa _ rfl hk rfl rfl rfl fun a hk => ?_
          show wpList _ _ _ [] _ _
          refine wpList_nil ?_
          obtain rfl := Option.some.inj H
          obtain ⟨m28, hmm28, h14⟩ := h14
          show ∃ n', n' < _ ∧ I11 n' _ _
          refine ⟨m28, hmm28, ?_⟩
          rw [hI11]
          exact ⟨(w64 (u6 + 1)), h14, (hk.c 0 rfl (hk.c 3 rfl hk.k)), (hs.pick [] rfl)⟩
      · have hk := hk.lit 7 c17 rfl
        refine cnd_false hk rfl rfl ?_
        refine wp_exit ?_
        obtain rfl := Option.some.inj H
        show R10 _ _
        rw [hR10]
        exact ⟨h14.symm, hk.k, (hs.pick [] rfl)⟩
  · intro a w hR0
    rw [hR10] at hR0
    obtain ⟨rfl, hk, hs⟩ := hR0
    have H := HL9
    try dsimp only at H
    refine hK2 _ _ ?_
    apply wp_seq_k; intro K29 hK29
    apply wp_region_lit
    refine sa _ rfl hk rfl rfl rfl fun a hk => ?_
    show wpList _ _ _ [] _ _
    refine wpList_nil ?_
    refine hK29 _ _ ?_
    refine wp_ret ?_
    obtain rfl := Option.some.inj H
    exact fin hk _ [(.bool true)] rfl ⟨rfl, trivial⟩ ⟨rfl, (hs.pick [] rfl).dnil⟩

noncomputable def spec_l08In.s0 (l0 : List Int) (x1 : Int) (u6 : Int) : Option ((Int) ⊕ Ex (Unit) (Bool)) :=
  (bif (decide (u6 < (l0.length : Int))) then (if 0 ≤ u6 ∧ u6 < (l0.length : Int) then (bif ((l0.getD u6.toNat 0) == x1) then (some (.inr (.ret true))) else (some (.inl (w64 (u6 + 1))))) else none) else (some (.inr (.out ()))))
noncomputable def spec_l08In.f (l0 : List Int) (x1 : Int) : Option (Bool) :=
  ((loopO (fun s => spec_l08In.s0 l0 x1 s) 0).bind fun o => match o with | .out _ => (some false) | .ret r => (some r))
set_option maxRecDepth 100000 in
set_option maxHeartbeats 0 in
theorem spec_l08In_t (w0 : World) (A0_ : Option Addr) (p0_ : Nat) (l0 : List Int) (k0_ : Chunk) (v0_ : View (Lay.int .i64) A0_ p0_ l0 k0_) (w0_ : Has w0 k0_) (x1 : Int) (r : Bool) (H : spec_l08In.f l0 x1 = some r) :
    Calls Try.prog 147 #[.slice A0_ l0.length p0_, .int .i64 x1] w0 (Ret (fun v w => v = .bool r ∧ Sat [] w0 w [] [])) := by
  have hs : Sat [] w0 w0 [(1, k0_)] [] := Sat.init w0 [(1, k0_)] [] (by simp only [List.mem_cons, List.not_mem_nil, or_false]; rintro x (rfl) <;> assumption) (by simp) List.nodup_nil (by simp [blks])
  unfold spec_l08In.f at H
  refine enter Try.func147 rfl Try.ntmps147 rfl fun a hk => ?_
  apply wp_seq_k; intro K1 hK1
  apply wp_region_lit
  refine sa _ rfl hk rfl rfl rfl fun a hk => ?_
  show wpList _ _ _ [] _ _
  refine wpList_nil ?_
  refine hK1 _ _ ?_
  apply wp_seq_k; intro K2 hK2
  apply wp_seq_k; intro K3 hK3
  apply wp_region_lit
  refine sa _ rfl hk rfl rfl rfl fun a hk => ?_
  show wpList _ _ _ [] _ _
  refine wpList_nil ?_
  refine hK3 _ _ ?_
  obtain ⟨o7, h8, HL9⟩ := bind_some H
  clear H
  obtain ⟨R10, hR10⟩ : ∃ R : Act → World → Prop, R = fun a w => o7 = .out () ∧ Kn [] 18 a ∧ Sat [] w0 w [(1, k0_)] [] := ⟨_, rfl⟩
  refine wp_cutq R10 ?_ ?_
  · refine wp_block ?_
    obtain ⟨fu12, h8⟩ := loopO_some h8
    obtain ⟨I11, hI11⟩ : ∃ I : Nat → Act → World → Prop, I = fun fu a w => ∃ (u6 : Int), loopN (fun s => spec_l08In.s0 l0 x1 s) fu u6 = some o7 ∧ Kn [(0, (.slice A0_ l0.length p0_)), (1, (.int .i64 x1)), (5, (.int .i64 u6))] 18 a ∧ Sat [] w0 w [(1, k0_)] [] := ⟨_, rfl⟩
    refine wp_loop_ghost I11 fu12 ?_ ?_
    · rw [hI11]
      exact ⟨0, h8, (hk.c 0 rfl (hk.c 1 rfl (hk.c 5 rfl hk.k))), (hs.pick [] rfl)⟩
    · clear h8 hk hs
      intro fu12 a w hI0
      rw [hI11] at hI0
      obtain ⟨u6, hi, hk, hs⟩ := hI0
      obtain ⟨x13, H, h14⟩ := loop_round hi
      try dsimp only at H
      unfold spec_l08In.s0 at H
      apply wp_seq_k; intro K15 hK15
      apply wp_seq_k; intro K16 hK16
      apply wp_region_lit
      refine sm _ rfl hk rfl rfl rfl fun a hk => ?_
      refine sm _ rfl hk rfl rfl rfl fun a hk => ?_
      refine sle rfl hk rfl rfl rfl un22 fun a hk => ?_
      refine sv (.bool (decide (u6 < (l0.length : Int)))) hk rfl rfl rfl fun a hk => ?_
      show wpList _ _ _ [] _ _
      refine wpList_nil ?_
      refine hK16 _ _ ?_
      rcases cond_some H with ⟨c17, H⟩ | ⟨c17, H⟩
      · have hk := hk.lit 9 c17 rfl
        refine cnd_true hk rfl rfl ?_
        refine wp_skip ?_
        refine hK15 _ _ ?_
        apply wp_seq_k; intro K18 hK18
        refine wp_block ?_
        apply wp_seq_k; intro K19 hK19
        apply wp_region_lit
        refine sm _ rfl hk rfl rfl rfl fun a hk => ?_
        refine sm _ rfl hk rfl rfl rfl fun a hk => ?_
        rcases ite_some H with ⟨c20, H⟩ | ⟨_, H⟩
        rotate_left
        · cases H
        obtain ⟨b21, q22, hAc20⟩ := (v0_).some_ u6 c20.1 c20.2
        refine si rfl hk rfl rfl rfl rfl un22 sz3 c20.1 c20.2 hAc20 fun a hk => ?_
        obtain ⟨_, rfl, e23⟩ := (v0_).at_ 0 u6 c20.1 c20.2
        refine sl (v := (.int .i64 (l0.getD u6.toNat 0))) rfl hk rfl rfl rfl ag3 ((e23 0 _ rfl).cell (hs.hasD (k := 1) rfl)) fun a hk => ?_
        refine sm _ rfl hk rfl rfl rfl fun a hk => ?_
        refine sv (.bool ((l0.getD u6.toNat 0) == x1)) hk rfl rfl rfl fun a hk => ?_
        show wpList _ _ _ [] _ _
        refine wpList_nil ?_
        refine hK19 _ _ ?_
        rcases cond_some H with ⟨c24, H⟩ | ⟨c24, H⟩
        · have hk := hk.lit 17 c24 rfl
          refine cnd_true hk rfl rfl ?_
          apply wp_seq_k; intro K25 hK25
          apply wp_region_lit
          refine sa _ rfl hk rfl rfl rfl fun a hk => ?_
          show wpList _ _ _ [] _ _
          refine wpList_nil ?_
          refine hK25 _ _ ?_
          refine wp_ret ?_
          obtain rfl := Option.some.inj H
          have ho7 := h14
          try dsimp only at ho7
          subst ho7
          have H := HL9
          try dsimp only at H
          obtain rfl := Option.some.inj H
          exact fin hk _ [(.bool true)] rfl ⟨rfl, trivial⟩ ⟨rfl, (hs.pick [] rfl).dnil⟩
        · have hk := hk.lit 17 c24 rfl
          refine cnd_false hk rfl rfl ?_
          refine wp_skip ?_
          refine hK18 _ _ ?_
          apply wp_region_lit
          refine sm _ rfl hk rfl rfl rfl fun a hk => ?_
          refine sv (.int .i64 (w64 (u6 + 1))) hk rfl rfl rfl fun a hk => ?_
          refine sa _ rfl hk rfl rfl rfl fun a hk => ?_
          show wpList _ _ _ [] _ _
          refine wpList_nil ?_
          obtain rfl := Option.some.inj H
          obtain ⟨m26, hmm26, h14⟩ := h14
          show ∃ n', n' < _ ∧ I11 n' _ _
          refine ⟨m26, hmm26, ?_⟩
          rw [hI11]
          exact ⟨(w64 (u6 + 1)), h14, (hk.c 0 rfl (hk.c 1 rfl (hk.c 5 rfl hk.k))), (hs.pick [] rfl)⟩
      · have hk := hk.lit 9 c17 rfl
        refine cnd_false hk rfl rfl ?_
        refine wp_exit ?_
        obtain rfl := Option.some.inj H
        show R10 _ _
        rw [hR10]
        exact ⟨h14.symm, hk.k, (hs.pick [] rfl)⟩
  · intro a w hR0
    rw [hR10] at hR0
    obtain ⟨rfl, hk, hs⟩ := hR0
    have H := HL9
    try dsimp only at H
    refine hK2 _ _ ?_
    apply wp_seq_k; intro K27 hK27
    apply wp_region_lit
    refine sa _ rfl hk rfl rfl rfl fun a hk => ?_
    show wpList _ _ _ [] _ _
    refine wpList_nil ?_
    refine hK27 _ _ ?_
    refine wp_ret ?_
    obtain rfl := Option.some.inj H
    exact fin hk _ [(.bool false)] rfl ⟨rfl, trivial⟩ ⟨rfl, (hs.pick [] rfl).dnil⟩

noncomputable def spec_l08Block.f (x0 : S_Oram) (x1 : S_Block) (l2 : List Int) : Option (Bool) :=
  ((((spec_l01In.f x1.Id 0 11).bind fun y11 => (bif y11 then (if 0 ≤ x1.Id ∧ x1.Id < (x0.Pos.length : Int) then (bif ((x0.Pos.getD (x1.Id).toNat 0) == x1.Leaf) then ((spec_l01In.f x1.Value 0 999999).bind fun y19 => (bif y19 then ((spec_l08In.f l2 x1.Id).bind fun y22 => (some (!y22))) else (some false))) else (some false)) else none) else (some false))) : Option (Bool)).bind fun u6 => (some u6))
set_option maxRecDepth 100000 in
set_option maxHeartbeats 0 in
theorem spec_l08Block_t (w0 : World) (x0 : S_Oram) (A0_0 : Option Addr) (p0_0 : Nat) (k0_0 : Chunk) (v0_0 : View (Lay.int .i64) A0_0 p0_0 x0.Pos k0_0) (w0_0 : Has w0 k0_0) (A0_1 : Option Addr) (p0_1 : Nat) (k0_1 : Chunk) (v0_1 : View L_Block A0_1 p0_1 x0.Stash k0_1) (w0_1 : Has w0 k0_1) (A0_2 : Option Addr) (p0_2 : Nat) (k0_2 : Chunk) (v0_2 : View (Lay.sl L_Block 102) A0_2 p0_2 x0.Buckets k0_2) (w0_2 : Has w0 k0_2) (x1 : S_Block) (A2_ : Option Addr) (p2_ : Nat) (l2 : List Int) (k2_ : Chunk) (v2_ : View (Lay.int .i64) A2_ p2_ l2 k2_) (w2_ : Has w0 k2_) (r : Bool) (H : spec_l08Block.f x0 x1 l2 = some r) :
    Calls Try.prog 124 #[.agg #[.slice A0_0 x0.Pos.length p0_0, .slice A0_1 x0.Stash.length p0_1, .slice A0_2 x0.Buckets.length p0_2], .agg #[.int .i64 x1.Id, .int .i64 x1.Leaf, .int .i64 x1.Value], .slice A2_ l2.length p2_] w0 (Ret (fun v w => v = .bool r ∧ Sat [] w0 w [] [])) := by
  have hs : Sat [] w0 w0 [(1, k0_0), (2, k0_1), (3, k0_2), (4, k2_)] [] := Sat.init w0 [(1, k0_0), (2, k0_1), (3, k0_2), (4, k2_)] [] (by simp only [List.mem_cons, List.not_mem_nil, or_false]; rintro x (rfl | rfl | rfl | rfl) <;> assumption) (by simp) List.nodup_nil (by simp [blks])
  unfold spec_l08Block.f at H
  refine enter Try.func124 rfl Try.ntmps124 rfl fun a hk => ?_
  apply wp_seq_k; intro K1 hK1
  apply wp_region_lit
  refine sbx 5 hs rfl hk rfl rfl rfl rfl fun b2 w a hk hs => ?_
  refine sbx 6 hs rfl hk rfl rfl rfl rfl fun b3 w a hk hs => ?_
  refine sa _ rfl hk rfl rfl rfl fun a hk => ?_
  show wpList _ _ _ [] _ _
  refine wpList_nil ?_
  refine hK1 _ _ ?_
  apply wp_seq_k; intro K4 hK4
  obtain ⟨o7, h8, HL9⟩ := bind_some H
  clear H
  obtain ⟨R10, hR10⟩ : ∃ R : Act → World → Prop, R = fun a w => ∃ (u6 : Bool), u6 = o7 ∧ Kn [(6, (.bool u6))] 33 a ∧ Sat [] w0 w [(1, k0_0), (2, k0_1), (3, k0_2), (4, k2_)] [] := ⟨_, rfl⟩
  refine wp_cutq R10 ?_ ?_
  · have H := h8
    refine wp_region_mix [(0, true), (1, true), (2, true), (3, true), (4, true), (5, true), (6, true), (7, true), (8, true), (9, true), (10, true), (11, true), (12, true), (13, true), (14, true), (15, true), (16, true), (17, true), (18, true), (19, true), (20, true), (21, true), (22, true), (23, true), (24, true), (25, true), (26, true)] mo (by kernel_rfl) hs fun _ => ?_
    have hs := hs.drew
    refine qst (.pointer (some ⟨b3, 0, none⟩)) hk rfl rfl rfl rfl (fun w hs => sf ⟨b3, 0, none⟩ rfl hk rfl rfl rfl fd102_0 rfl fun a hk => qe hk) fun a hk => ?_
    refine qst (.int .i64 x1.Id) hk rfl rfl rfl rfl (fun w hs => sl rfl hk rfl rfl rfl ag3 (box_cell hs (k := 6) rfl rfl) fun a hk => qe hk) fun a hk => ?_
    obtain ⟨y11, h12, H⟩ := bind_some H
    refine qst (.bool y11) hk rfl rfl rfl rfl (fun w hs => sc rfl en58 hk rfl rfl rfl (spec_l01In_t _ x1.Id 0 11 _ h12) fun _ w hR a hk => qc hR hk) fun a hk => ?_
    refine qst (.bool y11) hk rfl rfl rfl rfl (fun w hs => sm _ rfl hk rfl rfl rfl fun a hk => qe hk) fun a hk => ?_
    rcases cond_some H with ⟨c13, H⟩ | ⟨c13, H⟩
    · have hk := hk.lit 10 c13 rfl
      refine qst (.pointer (some ⟨b2, 0, none⟩)) hk rfl rfl rfl rfl (fun w hs => sf ⟨b2, 0, none⟩ rfl hk rfl rfl rfl fd31_0 rfl fun a hk => qe hk) fun a hk => ?_
      refine qst (.slice A0_0 x0.Pos.length p0_0) hk rfl rfl rfl rfl (fun w hs => sl rfl hk rfl rfl rfl ag22 (box_cell hs (k := 5) rfl rfl) fun a hk => qe hk) fun a hk => ?_
      refine qst (.pointer (some ⟨b3, 0, none⟩)) hk rfl rfl rfl rfl (fun w hs => sf ⟨b3, 0, none⟩ rfl hk rfl rfl rfl fd102_0 rfl fun a hk => qe hk) fun a hk => ?_
      refine qst (.int .i64 x1.Id) hk rfl rfl rfl rfl (fun w hs => sl rfl hk rfl rfl rfl ag3 (box_cell hs (k := 6) rfl rfl) fun a hk => qe hk) fun a hk => ?_
      rcases ite_some H with ⟨c14, H⟩ | ⟨_, H⟩
      rotate_left
      · cases H
      obtain ⟨b15, q16, hAc14⟩ := (v0_0).some_ x1.Id c14.1 c14.2
      refine qst (.pointer (some (padd A0_0 ((x1.Id).toNat * 1)))) hk rfl rfl rfl rfl (fun w hs => si rfl hk rfl rfl rfl rfl un22 sz3 c14.1 c14.2 hAc14 fun a hk => qe hk) fun a hk => ?_
      obtain ⟨_, rfl, e17⟩ := (v0_0).at_ 0 x1.Id c14.1 c14.2
      refine qst (.int .i64 (x0.Pos.getD (x1.Id).toNat 0)) hk rfl rfl rfl rfl (fun w hs => sl (v := (.int .i64 (x0.Pos.getD (x1.Id).toNat 0))) rfl hk rfl rfl rfl ag3 ((e17 0 _ rfl).cell (hs.hasD (k := 1) rfl)) fun a hk => qe hk) fun a hk => ?_
      refine qst (.pointer (some ⟨b3, 1, none⟩)) hk rfl rfl rfl rfl (fun w hs => sf ⟨b3, 1, none⟩ rfl hk rfl rfl rfl fd102_1 rfl fun a hk => qe hk) fun a hk => ?_
      refine qst (.int .i64 x1.Leaf) hk rfl rfl rfl rfl (fun w hs => sl rfl hk rfl rfl rfl ag3 (box_cell hs (k := 6) rfl rfl) fun a hk => qe hk) fun a hk => ?_
      refine qst (.bool ((x0.Pos.getD (x1.Id).toNat 0) == x1.Leaf)) hk rfl rfl rfl rfl (fun w hs => sv (.bool ((x0.Pos.getD (x1.Id).toNat 0) == x1.Leaf)) hk rfl rfl rfl fun a hk => qe hk) fun a hk => ?_
      refine qst (.bool ((x0.Pos.getD (x1.Id).toNat 0) == x1.Leaf)) hk rfl rfl rfl rfl (fun w hs => sv (.bool ((x0.Pos.getD (x1.Id).toNat 0) == x1.Leaf)) hk rfl rfl rfl fun a hk => qe hk) fun a hk => ?_
      refine qst (.bool ((x0.Pos.getD (x1.Id).toNat 0) == x1.Leaf)) hk rfl rfl rfl rfl (fun w hs => sm _ rfl hk rfl rfl rfl fun a hk => qe hk) fun a hk => ?_
      rcases cond_some H with ⟨c18, H⟩ | ⟨c18, H⟩
      · have hk := hk.lit 21 c18 rfl
        refine qst (.pointer (some ⟨b3, 2, none⟩)) hk rfl rfl rfl rfl (fun w hs => sf ⟨b3, 2, none⟩ rfl hk rfl rfl rfl fd102_2 rfl fun a hk => qe hk) fun a hk => ?_
        refine qst (.int .i64 x1.Value) hk rfl rfl rfl rfl (fun w hs => sl rfl hk rfl rfl rfl ag3 (box_cell hs (k := 6) rfl rfl) fun a hk => qe hk) fun a hk => ?_
        obtain ⟨y19, h20, H⟩ := bind_some H
        refine qst (.bool y19) hk rfl rfl rfl rfl (fun w hs => sc rfl en58 hk rfl rfl rfl (spec_l01In_t _ x1.Value 0 999999 _ h20) fun _ w hR a hk => qc hR hk) fun a hk => ?_
        refine qst (.bool y19) hk rfl rfl rfl rfl (fun w hs => sv (.bool y19) hk rfl rfl rfl fun a hk => qe hk) fun a hk => ?_
        refine qst (.bool y19) hk rfl rfl rfl rfl (fun w hs => sm _ rfl hk rfl rfl rfl fun a hk => qe hk) fun a hk => ?_
        rcases cond_some H with ⟨c21, H⟩ | ⟨c21, H⟩
        · have hk := hk.lit 26 c21 rfl
          refine qst (.slice A2_ l2.length p2_) hk rfl rfl rfl rfl (fun w hs => sm _ rfl hk rfl rfl rfl fun a hk => qe hk) fun a hk => ?_
          refine qst (.pointer (some ⟨b3, 0, none⟩)) hk rfl rfl rfl rfl (fun w hs => sf ⟨b3, 0, none⟩ rfl hk rfl rfl rfl fd102_0 rfl fun a hk => qe hk) fun a hk => ?_
          refine qst (.int .i64 x1.Id) hk rfl rfl rfl rfl (fun w hs => sl rfl hk rfl rfl rfl ag3 (box_cell hs (k := 6) rfl rfl) fun a hk => qe hk) fun a hk => ?_
          obtain ⟨y22, h23, H⟩ := bind_some H
          refine qst (.bool y22) hk rfl rfl rfl rfl (fun w hs => sc rfl en147 hk rfl rfl rfl (spec_l08In_t _ A2_ p2_ l2 _ v2_ (hs.hasD (k := 4) rfl) x1.Id _ h23) fun _ w hR a hk => qc hR hk) fun a hk => ?_
          refine qst (.bool (!y22)) hk rfl rfl rfl rfl (fun w hs => sv (.bool (!y22)) hk rfl rfl rfl fun a hk => qe hk) fun a hk => ?_
          refine qst (.bool (!y22)) hk rfl rfl rfl rfl (fun w hs => sv (.bool (!y22)) hk rfl rfl rfl fun a hk => qe hk) fun a hk => ?_
          refine qst (.bool (!y22)) hk rfl rfl rfl rfl (fun w hs => sa _ rfl hk rfl rfl rfl fun a hk => qe hk) fun a hk => ?_
          refine wml_nil fun w hF _ => ?_
          have hs := hs.f hF
          obtain rfl := Option.some.inj H
          show R10 _ _
          rw [hR10]
          exact ⟨(!y22), rfl, (hk.c 6 rfl hk.k), (hs.pick [] rfl)⟩
        · have hk := hk.lit 26 c21 rfl
          refine qsk hk rfl rfl rfl rfl fun a hk => ?_
          refine qsk hk rfl rfl rfl rfl fun a hk => ?_
          refine qsk hk rfl rfl rfl rfl fun a hk => ?_
          refine qsk hk rfl rfl rfl rfl fun a hk => ?_
          refine qsk hk rfl rfl rfl rfl fun a hk => ?_
          refine qst (.bool false) hk rfl rfl rfl rfl (fun w hs => sv (.bool false) hk rfl rfl rfl fun a hk => qe hk) fun a hk => ?_
          refine qst (.bool false) hk rfl rfl rfl rfl (fun w hs => sa _ rfl hk rfl rfl rfl fun a hk => qe hk) fun a hk => ?_
          refine wml_nil fun w hF _ => ?_
          have hs := hs.f hF
          obtain rfl := Option.some.inj H
          show R10 _ _
          rw [hR10]
          exact ⟨false, rfl, (hk.c 6 rfl hk.k), (hs.pick [] rfl)⟩
      · have hk := hk.lit 21 c18 rfl
        refine qsk hk rfl rfl rfl rfl fun a hk => ?_
        refine qsk hk rfl rfl rfl rfl fun a hk => ?_
        refine qsk hk rfl rfl rfl rfl fun a hk => ?_
        refine qst (.bool false) hk rfl rfl rfl rfl (fun w hs => sv (.bool false) hk rfl rfl rfl fun a hk => qe hk) fun a hk => ?_
        refine qst (.bool false) hk rfl rfl rfl rfl (fun w hs => sm _ rfl hk rfl rfl rfl fun a hk => qe hk) fun a hk => ?_
        refine qsk hk rfl rfl rfl rfl fun a hk => ?_
        refine qsk hk rfl rfl rfl rfl fun a hk => ?_
        refine qsk hk rfl rfl rfl rfl fun a hk => ?_
        refine qsk hk rfl rfl rfl rfl fun a hk => ?_
        refine qsk hk rfl rfl rfl rfl fun a hk => ?_
        refine qst (.bool false) hk rfl rfl rfl rfl (fun w hs => sv (.bool false) hk rfl rfl rfl fun a hk => qe hk) fun a hk => ?_
        refine qst (.bool false) hk rfl rfl rfl rfl (fun w hs => sa _ rfl hk rfl rfl rfl fun a hk => qe hk) fun a hk => ?_
        refine wml_nil fun w hF _ => ?_
        have hs := hs.f hF
        obtain rfl := Option.some.inj H
        show R10 _ _
        rw [hR10]
        exact ⟨false, rfl, (hk.c 6 rfl hk.k), (hs.pick [] rfl)⟩
    · have hk := hk.lit 10 c13 rfl
      refine qsk hk rfl rfl rfl rfl fun a hk => ?_
      refine qsk hk rfl rfl rfl rfl fun a hk => ?_
      refine qsk hk rfl rfl rfl rfl fun a hk => ?_
      refine qsk hk rfl rfl rfl rfl fun a hk => ?_
      refine qsk hk rfl rfl rfl rfl fun a hk => ?_
      refine qsk hk rfl rfl rfl rfl fun a hk => ?_
      refine qsk hk rfl rfl rfl rfl fun a hk => ?_
      refine qsk hk rfl rfl rfl rfl fun a hk => ?_
      refine qsk hk rfl rfl rfl rfl fun a hk => ?_
      refine qst (.bool false) hk rfl rfl rfl rfl (fun w hs => sv (.bool false) hk rfl rfl rfl fun a hk => qe hk) fun a hk => ?_
      refine qst (.bool false) hk rfl rfl rfl rfl (fun w hs => sm _ rfl hk rfl rfl rfl fun a hk => qe hk) fun a hk => ?_
      refine qsk hk rfl rfl rfl rfl fun a hk => ?_
      refine qsk hk rfl rfl rfl rfl fun a hk => ?_
      refine qsk hk rfl rfl rfl rfl fun a hk => ?_
      refine qst (.bool false) hk rfl rfl rfl rfl (fun w hs => sv (.bool false) hk rfl rfl rfl fun a hk => qe hk) fun a hk => ?_
      refine qst (.bool false) hk rfl rfl rfl rfl (fun w hs => sm _ rfl hk rfl rfl rfl fun a hk => qe hk) fun a hk => ?_
      refine qsk hk rfl rfl rfl rfl fun a hk => ?_
      refine qsk hk rfl rfl rfl rfl fun a hk => ?_
      refine qsk hk rfl rfl rfl rfl fun a hk => ?_
      refine qsk hk rfl rfl rfl rfl fun a hk => ?_
      refine qsk hk rfl rfl rfl rfl fun a hk => ?_
      refine qst (.bool false) hk rfl rfl rfl rfl (fun w hs => sv (.bool false) hk rfl rfl rfl fun a hk => qe hk) fun a hk => ?_
      refine qst (.bool false) hk rfl rfl rfl rfl (fun w hs => sa _ rfl hk rfl rfl rfl fun a hk => qe hk) fun a hk => ?_
      refine wml_nil fun w hF _ => ?_
      have hs := hs.f hF
      obtain rfl := Option.some.inj H
      show R10 _ _
      rw [hR10]
      exact ⟨false, rfl, (hk.c 6 rfl hk.k), (hs.pick [] rfl)⟩
  · intro a w hR0
    rw [hR10] at hR0
    obtain ⟨u6, rfl, hk, hs⟩ := hR0
    have H := HL9
    try dsimp only at H
    refine hK4 _ _ ?_
    refine wp_ret ?_
    obtain rfl := Option.some.inj H
    exact fin hk _ [(.bool u6)] rfl ⟨rfl, trivial⟩ ⟨rfl, (hs.pick [] rfl).dnil⟩

noncomputable def spec_l08Path.s0  (u14 : List Int) (u13 : Int) : Option (((List Int) × Int) ⊕ Ex (Unit) ((List Int))) :=
  (if ([u13]).length + u14.length ≤ 1073741824 then (bif (u13 == 0) then (some (.inr (.ret (([u13]) ++ u14)))) else (some (.inl ((([u13]) ++ u14), (IntKind.wrap .i64 (Int.tdiv (w64 (u13 - 1)) 2)))))) else none)
noncomputable def spec_l08Path.f (x0 : Int) : Option ((List Int)) :=
  ((loopO (fun s => spec_l08Path.s0  s.1 s.2) (([] : List Int), (w64 (7 + x0)))).bind fun o => match o with | .out _ => none | .ret r => (some r))
set_option maxRecDepth 100000 in
set_option maxHeartbeats 0 in
theorem spec_l08Path_t (w0 : World) (x0 : Int) (r : (List Int)) (H : spec_l08Path.f x0 = some r) :
    Calls Try.prog 127 #[.int .i64 x0] w0 (Ret (fun v w => ∃ (A0 : Option Addr) (p0 : Nat) (k0 : Chunk), v = .slice A0 r.length p0 ∧ Own (Lay.int .i64) 3 A0 p0 r k0 ∧ Sat [] w0 w [] [(0, k0)])) := by
  have hs : Sat [] w0 w0 [] [] := Sat.init w0 [] [] (by simp) (by simp) List.nodup_nil (by simp [blks])
  unfold spec_l08Path.f at H
  refine enter Try.func127 rfl Try.ntmps127 rfl fun a hk => ?_
  apply wp_seq_k; intro K1 hK1
  apply wp_region_lit
  refine sa _ rfl hk rfl rfl rfl fun a hk => ?_
  show wpList _ _ _ [] _ _
  refine wpList_nil ?_
  refine hK1 _ _ ?_
  apply wp_seq_k; intro K2 hK2
  apply wp_region_lit
  refine sbs0 1 (Lay.int .i64) hs rfl hk rfl rfl un22 sz3 fun b3 k4 w a hk o5 hs => ?_
  refine sa _ rfl hk rfl rfl rfl fun a hk => ?_
  show wpList _ _ _ [] _ _
  refine wpList_nil ?_
  refine hK2 _ _ ?_
  apply wp_seq_k; intro K6 hK6
  apply wp_region_lit
  refine sm _ rfl hk rfl rfl rfl fun a hk => ?_
  refine sv (.int .i64 (w64 (7 + x0))) hk rfl rfl rfl fun a hk => ?_
  refine sa _ rfl hk rfl rfl rfl fun a hk => ?_
  show wpList _ _ _ [] _ _
  refine wpList_nil ?_
  refine hK6 _ _ ?_
  obtain ⟨o19, h20, HL21⟩ := bind_some H
  clear H
  obtain ⟨R22, hR22⟩ : ∃ R : Act → World → Prop, R = fun a w => o19 = .out () ∧ Kn [] 18 a ∧ Sat [] w0 w [] [] := ⟨_, rfl⟩
  refine wp_cutq R22 ?_ ?_
  · refine wp_block ?_
    obtain ⟨fu24, h20⟩ := loopO_some h20
    obtain ⟨I23, hI23⟩ : ∃ I : Nat → Act → World → Prop, I = fun fu a w => ∃ (u14 : List Int) (u13 : Int) (A17 : Option Addr) (p18 : Nat) (k15 : Chunk), loopN (fun s => spec_l08Path.s0  s.1 s.2) fu (u14, u13) = some o19 ∧ Kn [(3, (.slice A17 u14.length p18)), (4, (.int .i64 u13))] 18 a ∧ Sat [] w0 w [] [(1, k15)] ∧ Own (Lay.int .i64) 3 A17 p18 u14 k15 := ⟨_, rfl⟩
    refine wp_loop_ghost I23 fu24 ?_ ?_
    · rw [hI23]
      exact ⟨([] : List Int), (w64 (7 + x0)), (some ⟨b3, 0, none⟩), 0, _, h20, (hk.c 3 rfl (hk.c 4 rfl hk.k)), (hs.pick [(1, 1)] rfl), o5⟩
    · clear h20 hk hs
      intro fu24 a w hI0
      rw [hI23] at hI0
      obtain ⟨u14, u13, A17, p18, k15, hi, hk, hs, o16⟩ := hI0
      obtain ⟨x25, H, h26⟩ := loop_round hi
      try dsimp only at H
      unfold spec_l08Path.s0 at H
      apply wp_seq_k; intro K27 hK27
      refine wp_block ?_
      apply wp_seq_k; intro K28 hK28
      apply wp_region_lit
      refine sm _ rfl hk rfl rfl rfl fun a hk => ?_
      refine sbs (L := (Lay.int .i64)) (pv := [(0, (.int .i64 u13))]) (xs := [u13]) (ess := [[.int .i64 u13]]) 3 hs rfl hk rfl rfl rfl un22 (bs3_0 u13) (AllOwn.cons0 ⟨rfl, rfl⟩ AllOwn.nil) rfl rfl rfl fun b29 k30 w a hk o31 hs => ?_
      refine sm _ rfl hk rfl rfl rfl fun a hk => ?_
      rcases ite_some H with ⟨c32, H⟩ | ⟨_, H⟩
      rotate_left
      · cases H
      refine sap 3 (xs := [u13]) (ys := u14) (flat_flat : ((Lay.int .i64)).Flat) hs rfl o31 o16.view (hs.hasG (k := 1) rfl) rfl hk rfl rfl rfl rfl rfl rfl un22 mk3 rfl rfl rfl c32 fun A33 p34 k35 w a hk o36 hs => ?_
      refine sa _ rfl hk rfl rfl rfl fun a hk => ?_
      show wpList _ _ _ [] _ _
      refine wpList_nil ?_
      refine hK28 _ _ ?_
      apply wp_seq_k; intro K37 hK37
      apply wp_region_lit
      refine sm _ rfl hk rfl rfl rfl fun a hk => ?_
      refine sv (.bool (u13 == 0)) hk rfl rfl rfl fun a hk => ?_
      show wpList _ _ _ [] _ _
      refine wpList_nil ?_
      refine hK37 _ _ ?_
      rcases cond_some H with ⟨c38, H⟩ | ⟨c38, H⟩
      · have hk := hk.lit 16 c38 rfl
        refine cnd_true hk rfl rfl ?_
        apply wp_seq_k; intro K39 hK39
        apply wp_region_lit
        refine sm _ rfl hk rfl rfl rfl fun a hk => ?_
        refine sa _ rfl hk rfl rfl rfl fun a hk => ?_
        show wpList _ _ _ [] _ _
        refine wpList_nil ?_
        refine hK39 _ _ ?_
        refine wp_ret ?_
        obtain rfl := Option.some.inj H
        have ho19 := h26
        try dsimp only at ho19
        subst ho19
        have H := HL21
        try dsimp only at H
        obtain rfl := Option.some.inj H
        exact fin hk _ [(.slice A33 (([u13]) ++ u14).length p34)] rfl ⟨rfl, trivial⟩ ⟨A33, p34, _, rfl, o36, (hs.pick [(0, 3)] rfl).dnil⟩
      · have hk := hk.lit 16 c38 rfl
        refine cnd_false hk rfl rfl ?_
        refine wp_skip ?_
        refine hK27 _ _ ?_
        apply wp_region_lit
        refine sm _ rfl hk rfl rfl rfl fun a hk => ?_
        refine sv (.int .i64 (w64 (u13 - 1))) hk rfl rfl rfl fun a hk => ?_
        refine sv (.int .i64 (IntKind.wrap .i64 (Int.tdiv (w64 (u13 - 1)) 2))) hk rfl rfl rfl fun a hk => ?_
        refine sa _ rfl hk rfl rfl rfl fun a hk => ?_
        show wpList _ _ _ [] _ _
        refine wpList_nil ?_
        obtain rfl := Option.some.inj H
        obtain ⟨m40, hmm40, h26⟩ := h26
        show ∃ n', n' < _ ∧ I23 n' _ _
        refine ⟨m40, hmm40, ?_⟩
        rw [hI23]
        exact ⟨(([u13]) ++ u14), (IntKind.wrap .i64 (Int.tdiv (w64 (u13 - 1)) 2)), A33, p34, _, h26, (hk.c 3 rfl (hk.c 4 rfl hk.k)), (hs.pick [(1, 3)] rfl), o36⟩
  · intro a w hR0
    rw [hR22] at hR0
    obtain ⟨rfl, hk, hs⟩ := hR0
    have H := HL21
    try dsimp only at H
    cases H

noncomputable def spec_l08On.s0 (x0 : Int) (y3 : (List Int)) (u13 : Int) : Option ((Int) ⊕ Ex (Unit) (Bool)) :=
  (bif (decide (u13 < (y3.length : Int))) then (if 0 ≤ u13 ∧ u13 < (y3.length : Int) then (bif ((y3.getD u13.toNat 0) == x0) then (some (.inr (.ret true))) else (some (.inl (w64 (u13 + 1))))) else none) else (some (.inr (.out ()))))
noncomputable def spec_l08On.f (x0 : Int) (x1 : Int) : Option (Bool) :=
  ((spec_l08Path.f x1).bind fun y3 => ((loopO (fun s => spec_l08On.s0 x0 y3 s) 0).bind fun o => match o with | .out _ => (some false) | .ret r => (some r)))
set_option maxRecDepth 100000 in
set_option maxHeartbeats 0 in
theorem spec_l08On_t (w0 : World) (x0 : Int) (x1 : Int) (r : Bool) (H : spec_l08On.f x0 x1 = some r) :
    Calls Try.prog 125 #[.int .i64 x0, .int .i64 x1] w0 (Ret (fun v w => v = .bool r ∧ Sat [] w0 w [] [])) := by
  have hs : Sat [] w0 w0 [] [] := Sat.init w0 [] [] (by simp) (by simp) List.nodup_nil (by simp [blks])
  unfold spec_l08On.f at H
  refine enter Try.func125 rfl Try.ntmps125 rfl fun a hk => ?_
  apply wp_seq_k; intro K1 hK1
  apply wp_region_lit
  refine sa _ rfl hk rfl rfl rfl fun a hk => ?_
  show wpList _ _ _ [] _ _
  refine wpList_nil ?_
  refine hK1 _ _ ?_
  apply wp_seq_k; intro K2 hK2
  apply wp_region_lit
  refine sm _ rfl hk rfl rfl rfl fun a hk => ?_
  obtain ⟨y3, h4, H⟩ := bind_some H
  refine sc rfl en127 hk rfl rfl rfl (spec_l08Path_t _ x1 _ h4) ?_
  rintro _ w ⟨A5, p6, k7, rfl, o8, hG⟩ a hk
  have hs := hs.call0k hG [1] rfl
  refine sa _ rfl hk rfl rfl rfl fun a hk => ?_
  show wpList _ _ _ [] _ _
  refine wpList_nil ?_
  refine hK2 _ _ ?_
  apply wp_seq_k; intro K9 hK9
  apply wp_seq_k; intro K10 hK10
  apply wp_region_lit
  refine sa _ rfl hk rfl rfl rfl fun a hk => ?_
  show wpList _ _ _ [] _ _
  refine wpList_nil ?_
  refine hK10 _ _ ?_
  obtain ⟨o14, h15, HL16⟩ := bind_some H
  clear H
  obtain ⟨R17, hR17⟩ : ∃ R : Act → World → Prop, R = fun a w => o14 = .out () ∧ Kn [] 21 a ∧ Sat [] w0 w [] [] := ⟨_, rfl⟩
  refine wp_cutq R17 ?_ ?_
  · refine wp_block ?_
    obtain ⟨fu19, h15⟩ := loopO_some h15
    obtain ⟨I18, hI18⟩ : ∃ I : Nat → Act → World → Prop, I = fun fu a w => ∃ (u13 : Int), loopN (fun s => spec_l08On.s0 x0 y3 s) fu u13 = some o14 ∧ Kn [(0, (.int .i64 x0)), (5, (.slice A5 y3.length p6)), (6, (.int .i64 u13))] 21 a ∧ Sat [] w0 w [] [(1, k7)] := ⟨_, rfl⟩
    refine wp_loop_ghost I18 fu19 ?_ ?_
    · rw [hI18]
      exact ⟨0, h15, (hk.c 0 rfl (hk.c 5 rfl (hk.c 6 rfl hk.k))), (hs.pick [(1, 1)] rfl)⟩
    · clear h15 hk hs
      intro fu19 a w hI0
      rw [hI18] at hI0
      obtain ⟨u13, hi, hk, hs⟩ := hI0
      obtain ⟨x20, H, h21⟩ := loop_round hi
      try dsimp only at H
      unfold spec_l08On.s0 at H
      apply wp_seq_k; intro K22 hK22
      apply wp_seq_k; intro K23 hK23
      apply wp_region_lit
      refine sm _ rfl hk rfl rfl rfl fun a hk => ?_
      refine sm _ rfl hk rfl rfl rfl fun a hk => ?_
      refine sle rfl hk rfl rfl rfl un22 fun a hk => ?_
      refine sv (.bool (decide (u13 < (y3.length : Int)))) hk rfl rfl rfl fun a hk => ?_
      show wpList _ _ _ [] _ _
      refine wpList_nil ?_
      refine hK23 _ _ ?_
      rcases cond_some H with ⟨c24, H⟩ | ⟨c24, H⟩
      · have hk := hk.lit 12 c24 rfl
        refine cnd_true hk rfl rfl ?_
        refine wp_skip ?_
        refine hK22 _ _ ?_
        apply wp_seq_k; intro K25 hK25
        refine wp_block ?_
        apply wp_seq_k; intro K26 hK26
        apply wp_region_lit
        refine sm _ rfl hk rfl rfl rfl fun a hk => ?_
        refine sm _ rfl hk rfl rfl rfl fun a hk => ?_
        rcases ite_some H with ⟨c27, H⟩ | ⟨_, H⟩
        rotate_left
        · cases H
        obtain ⟨b28, q29, hAc27⟩ := (o8.view).some_ u13 c27.1 c27.2
        refine si rfl hk rfl rfl rfl rfl un22 sz3 c27.1 c27.2 hAc27 fun a hk => ?_
        obtain ⟨_, rfl, e30⟩ := (o8.view).at_ 0 u13 c27.1 c27.2
        refine sl (v := (.int .i64 (y3.getD u13.toNat 0))) rfl hk rfl rfl rfl ag3 ((e30 0 _ rfl).cell (hs.hasG (k := 1) rfl)) fun a hk => ?_
        refine sm _ rfl hk rfl rfl rfl fun a hk => ?_
        refine sv (.bool ((y3.getD u13.toNat 0) == x0)) hk rfl rfl rfl fun a hk => ?_
        show wpList _ _ _ [] _ _
        refine wpList_nil ?_
        refine hK26 _ _ ?_
        rcases cond_some H with ⟨c31, H⟩ | ⟨c31, H⟩
        · have hk := hk.lit 20 c31 rfl
          refine cnd_true hk rfl rfl ?_
          apply wp_seq_k; intro K32 hK32
          apply wp_region_lit
          refine sa _ rfl hk rfl rfl rfl fun a hk => ?_
          show wpList _ _ _ [] _ _
          refine wpList_nil ?_
          refine hK32 _ _ ?_
          refine wp_ret ?_
          obtain rfl := Option.some.inj H
          have ho14 := h21
          try dsimp only at ho14
          subst ho14
          have H := HL16
          try dsimp only at H
          obtain rfl := Option.some.inj H
          exact fin hk _ [(.bool true)] rfl ⟨rfl, trivial⟩ ⟨rfl, (hs.pick [] rfl).dnil⟩
        · have hk := hk.lit 20 c31 rfl
          refine cnd_false hk rfl rfl ?_
          refine wp_skip ?_
          refine hK25 _ _ ?_
          apply wp_region_lit
          refine sm _ rfl hk rfl rfl rfl fun a hk => ?_
          refine sv (.int .i64 (w64 (u13 + 1))) hk rfl rfl rfl fun a hk => ?_
          refine sa _ rfl hk rfl rfl rfl fun a hk => ?_
          show wpList _ _ _ [] _ _
          refine wpList_nil ?_
          obtain rfl := Option.some.inj H
          obtain ⟨m33, hmm33, h21⟩ := h21
          show ∃ n', n' < _ ∧ I18 n' _ _
          refine ⟨m33, hmm33, ?_⟩
          rw [hI18]
          exact ⟨(w64 (u13 + 1)), h21, (hk.c 0 rfl (hk.c 5 rfl (hk.c 6 rfl hk.k))), (hs.pick [(1, 1)] rfl)⟩
      · have hk := hk.lit 12 c24 rfl
        refine cnd_false hk rfl rfl ?_
        refine wp_exit ?_
        obtain rfl := Option.some.inj H
        show R17 _ _
        rw [hR17]
        exact ⟨h21.symm, hk.k, (hs.pick [] rfl)⟩
  · intro a w hR0
    rw [hR17] at hR0
    obtain ⟨rfl, hk, hs⟩ := hR0
    have H := HL16
    try dsimp only at H
    refine hK9 _ _ ?_
    apply wp_seq_k; intro K34 hK34
    apply wp_region_lit
    refine sa _ rfl hk rfl rfl rfl fun a hk => ?_
    show wpList _ _ _ [] _ _
    refine wpList_nil ?_
    refine hK34 _ _ ?_
    refine wp_ret ?_
    obtain rfl := Option.some.inj H
    exact fin hk _ [(.bool false)] rfl ⟨rfl, trivial⟩ ⟨rfl, (hs.pick [] rfl).dnil⟩

noncomputable def spec_OramOK.s0 (x0 : S_Oram) (u31 : List Int) (u30 : Int) : Option (((List Int) × Int) ⊕ Ex ((List Int)) (Bool)) :=
  (bif (decide (u30 < (x0.Stash.length : Int))) then (if 0 ≤ u30 ∧ u30 < (x0.Stash.length : Int) then ((spec_l08Block.f x0 (x0.Stash.getD u30.toNat z_Block) u31).bind fun y60 => (bif (!y60) then (some (.inr (.ret false))) else (if 0 ≤ u30 ∧ u30 < (x0.Stash.length : Int) then (if u31.length + ([(x0.Stash.getD u30.toNat z_Block).Id]).length ≤ 1073741824 then (some (.inl ((u31 ++ ([(x0.Stash.getD u30.toNat z_Block).Id])), (w64 (u30 + 1))))) else none) else none))) else none) else (some (.inr (.out u31))))
noncomputable def spec_OramOK.s2 (x0 : S_Oram) (u85 : Int) (u122 : List Int) (u121 : Int) : Option (((List Int) × Int) ⊕ Ex ((List Int)) (Bool)) :=
  (if 0 ≤ u85 ∧ u85 < (x0.Buckets.length : Int) then (bif (decide (u121 < ((x0.Buckets.getD u85.toNat []).length : Int))) then (if 0 ≤ u85 ∧ u85 < (x0.Buckets.length : Int) then (if 0 ≤ u121 ∧ u121 < ((x0.Buckets.getD u85.toNat []).length : Int) then ((((spec_l08Block.f x0 ((x0.Buckets.getD u85.toNat []).getD u121.toNat z_Block) u122).bind fun y172 => (bif (!y172) then (some true) else ((spec_l08On.f u85 (((x0.Buckets.getD u85.toNat []).getD u121.toNat z_Block).Leaf)).bind fun y175 => (some (!y175))))) : Option (Bool)).bind fun u167 => (bif u167 then (some (.inr (.ret false))) else (if u122.length + ([((x0.Buckets.getD u85.toNat []).getD u121.toNat z_Block).Id]).length ≤ 1073741824 then (some (.inl ((u122 ++ ([((x0.Buckets.getD u85.toNat []).getD u121.toNat z_Block).Id])), (w64 (u121 + 1))))) else none))) else none) else none) else (some (.inr (.out u122)))) else none)
noncomputable def spec_OramOK.s1 (x0 : S_Oram) (u86 : List Int) (u85 : Int) : Option (((List Int) × Int) ⊕ Ex (Unit) (Bool)) :=
  (bif (decide (u85 < 15)) then (if 0 ≤ u85 ∧ u85 < (x0.Buckets.length : Int) then (bif (decide (((x0.Buckets.getD u85.toNat []).length : Int) > 2)) then (some (.inr (.ret false))) else ((loopO (fun s => spec_OramOK.s2 x0 u85 s.1 s.2) (u86, 0)).bind fun o => match o with | .out u127 => (some (.inl (u127, (w64 (u85 + 1))))) | .ret r => (some (.inr (.ret r))))) else none) else (some (.inr (.out ()))))
noncomputable def spec_OramOK.f (x0 : S_Oram) : Option (Bool) :=
  (((bif ((x0.Pos.length : Int) != 12) then (some true) else ((spec_l08Leaves.f x0.Pos).bind fun y12 => (bif (!y12) then (some true) else (bif (decide ((x0.Stash.length : Int) > 12)) then (some true) else (some ((x0.Buckets.length : Int) != 15)))))) : Option (Bool)).bind fun u6 => (bif u6 then (some false) else ((loopO (fun s => spec_OramOK.s0 x0 s.1 s.2) (([] : List Int), 0)).bind fun o => match o with | .out u36 => ((loopO (fun s => spec_OramOK.s1 x0 s.1 s.2) (u36, 0)).bind fun o => match o with | .out _ => (some true) | .ret r => (some r)) | .ret r => (some r))))
set_option maxRecDepth 100000 in
set_option maxHeartbeats 0 in
theorem spec_OramOK_t (w0 : World) (x0 : S_Oram) (A0_0 : Option Addr) (p0_0 : Nat) (k0_0 : Chunk) (v0_0 : View (Lay.int .i64) A0_0 p0_0 x0.Pos k0_0) (w0_0 : Has w0 k0_0) (A0_1 : Option Addr) (p0_1 : Nat) (k0_1 : Chunk) (v0_1 : View L_Block A0_1 p0_1 x0.Stash k0_1) (w0_1 : Has w0 k0_1) (A0_2 : Option Addr) (p0_2 : Nat) (k0_2 : Chunk) (v0_2 : View (Lay.sl L_Block 102) A0_2 p0_2 x0.Buckets k0_2) (w0_2 : Has w0 k0_2) (r : Bool) (H : spec_OramOK.f x0 = some r) :
    Calls Try.prog 57 #[.agg #[.slice A0_0 x0.Pos.length p0_0, .slice A0_1 x0.Stash.length p0_1, .slice A0_2 x0.Buckets.length p0_2]] w0 (Ret (fun v w => v = .bool r ∧ Sat [] w0 w [] [])) := by
  have hs : Sat [] w0 w0 [(1, k0_0), (2, k0_1), (3, k0_2)] [] := Sat.init w0 [(1, k0_0), (2, k0_1), (3, k0_2)] [] (by simp only [List.mem_cons, List.not_mem_nil, or_false]; rintro x (rfl | rfl | rfl) <;> assumption) (by simp) List.nodup_nil (by simp [blks])
  unfold spec_OramOK.f at H
  refine enter Try.func57 rfl Try.ntmps57 rfl fun a hk => ?_
  apply wp_seq_k; intro K1 hK1
  apply wp_region_lit
  refine sbx 4 hs rfl hk rfl rfl rfl rfl fun b2 w a hk hs => ?_
  refine sa _ rfl hk rfl rfl rfl fun a hk => ?_
  show wpList _ _ _ [] _ _
  refine wpList_nil ?_
  refine hK1 _ _ ?_
  apply wp_seq_k; intro K3 hK3
  apply wp_seq_k; intro K4 hK4
  obtain ⟨o7, h8, HL9⟩ := bind_some H
  clear H
  obtain ⟨R10, hR10⟩ : ∃ R : Act → World → Prop, R = fun a w => ∃ (u6 : Bool), u6 = o7 ∧ Kn [(1, (.pointer (some ⟨b2, 0, none⟩))), (29, (.bool u6))] 102 a ∧ Sat [] w0 w [(1, k0_0), (2, k0_1), (3, k0_2)] [(4, [(b2, .cells #[.slice A0_0 x0.Pos.length p0_0, .slice A0_1 x0.Stash.length p0_1, .slice A0_2 x0.Buckets.length p0_2] 31 (0, 0))])] := ⟨_, rfl⟩
  refine wp_cutq R10 ?_ ?_
  · have H := h8
    apply wp_region_lit
    refine sf ⟨b2, 0, none⟩ rfl hk rfl rfl rfl fd31_0 rfl fun a hk => ?_
    refine sl rfl hk rfl rfl rfl ag22 (box_cell hs (k := 4) rfl rfl) fun a hk => ?_
    refine sle rfl hk rfl rfl rfl un22 fun a hk => ?_
    refine sv (.bool ((x0.Pos.length : Int) != 12)) hk rfl rfl rfl fun a hk => ?_
    refine sm _ rfl hk rfl rfl rfl fun a hk => ?_
    rcases cond_some H with ⟨c11, H⟩ | ⟨c11, H⟩
    · have hk := hk.lit 12 c11 rfl
      refine sk hk rfl rfl rfl fun a hk => ?_
      refine sk hk rfl rfl rfl fun a hk => ?_
      refine sk hk rfl rfl rfl fun a hk => ?_
      refine sk hk rfl rfl rfl fun a hk => ?_
      refine sv (.bool true) hk rfl rfl rfl fun a hk => ?_
      refine sm _ rfl hk rfl rfl rfl fun a hk => ?_
      refine sk hk rfl rfl rfl fun a hk => ?_
      refine sk hk rfl rfl rfl fun a hk => ?_
      refine sk hk rfl rfl rfl fun a hk => ?_
      refine sk hk rfl rfl rfl fun a hk => ?_
      refine sv (.bool true) hk rfl rfl rfl fun a hk => ?_
      refine sm _ rfl hk rfl rfl rfl fun a hk => ?_
      refine sk hk rfl rfl rfl fun a hk => ?_
      refine sk hk rfl rfl rfl fun a hk => ?_
      refine sk hk rfl rfl rfl fun a hk => ?_
      refine sk hk rfl rfl rfl fun a hk => ?_
      refine sv (.bool true) hk rfl rfl rfl fun a hk => ?_
      show wpList _ _ _ [] _ _
      refine wpList_nil ?_
      obtain rfl := Option.some.inj H
      show R10 _ _
      rw [hR10]
      exact ⟨true, rfl, (hk.c 1 rfl (hk.c 29 rfl hk.k)), (hs.pick [(4, 4)] rfl)⟩
    · have hk := hk.lit 12 c11 rfl
      refine sf ⟨b2, 0, none⟩ rfl hk rfl rfl rfl fd31_0 rfl fun a hk => ?_
      refine sl rfl hk rfl rfl rfl ag22 (box_cell hs (k := 4) rfl rfl) fun a hk => ?_
      obtain ⟨y12, h13, H⟩ := bind_some H
      refine sc rfl en123 hk rfl rfl rfl (spec_l08Leaves_t _ A0_0 p0_0 x0.Pos _ v0_0 (hs.hasD (k := 1) rfl) _ h13) ?_
      rintro _ w ⟨rfl, hG⟩ a hk
      have hs := hs.call0 hG
      refine sv (.bool (!y12)) hk rfl rfl rfl fun a hk => ?_
      refine sv (.bool (!y12)) hk rfl rfl rfl fun a hk => ?_
      refine sm _ rfl hk rfl rfl rfl fun a hk => ?_
      rcases cond_some H with ⟨c14, H⟩ | ⟨c14, H⟩
      · have hk := hk.lit 18 c14 rfl
        refine sk hk rfl rfl rfl fun a hk => ?_
        refine sk hk rfl rfl rfl fun a hk => ?_
        refine sk hk rfl rfl rfl fun a hk => ?_
        refine sk hk rfl rfl rfl fun a hk => ?_
        refine sv (.bool true) hk rfl rfl rfl fun a hk => ?_
        refine sm _ rfl hk rfl rfl rfl fun a hk => ?_
        refine sk hk rfl rfl rfl fun a hk => ?_
        refine sk hk rfl rfl rfl fun a hk => ?_
        refine sk hk rfl rfl rfl fun a hk => ?_
        refine sk hk rfl rfl rfl fun a hk => ?_
        refine sv (.bool true) hk rfl rfl rfl fun a hk => ?_
        show wpList _ _ _ [] _ _
        refine wpList_nil ?_
        obtain rfl := Option.some.inj H
        show R10 _ _
        rw [hR10]
        exact ⟨true, rfl, (hk.c 1 rfl (hk.c 29 rfl hk.k)), (hs.pick [(4, 4)] rfl)⟩
      · have hk := hk.lit 18 c14 rfl
        refine sf ⟨b2, 1, none⟩ rfl hk rfl rfl rfl fd31_1 rfl fun a hk => ?_
        refine sl rfl hk rfl rfl rfl ag28 (box_cell hs (k := 4) rfl rfl) fun a hk => ?_
        refine sle rfl hk rfl rfl rfl un28 fun a hk => ?_
        refine sv (.bool (decide ((x0.Stash.length : Int) > 12))) hk rfl rfl rfl fun a hk => ?_
        refine sv (.bool (decide ((x0.Stash.length : Int) > 12))) hk rfl rfl rfl fun a hk => ?_
        refine sm _ rfl hk rfl rfl rfl fun a hk => ?_
        rcases cond_some H with ⟨c15, H⟩ | ⟨c15, H⟩
        · have hk := hk.lit 24 c15 rfl
          refine sk hk rfl rfl rfl fun a hk => ?_
          refine sk hk rfl rfl rfl fun a hk => ?_
          refine sk hk rfl rfl rfl fun a hk => ?_
          refine sk hk rfl rfl rfl fun a hk => ?_
          refine sv (.bool true) hk rfl rfl rfl fun a hk => ?_
          show wpList _ _ _ [] _ _
          refine wpList_nil ?_
          obtain rfl := Option.some.inj H
          show R10 _ _
          rw [hR10]
          exact ⟨true, rfl, (hk.c 1 rfl (hk.c 29 rfl hk.k)), (hs.pick [(4, 4)] rfl)⟩
        · have hk := hk.lit 24 c15 rfl
          refine sf ⟨b2, 2, none⟩ rfl hk rfl rfl rfl fd31_2 rfl fun a hk => ?_
          refine sl rfl hk rfl rfl rfl ag29 (box_cell hs (k := 4) rfl rfl) fun a hk => ?_
          refine sle rfl hk rfl rfl rfl un29 fun a hk => ?_
          refine sv (.bool ((x0.Buckets.length : Int) != 15)) hk rfl rfl rfl fun a hk => ?_
          refine sv (.bool ((x0.Buckets.length : Int) != 15)) hk rfl rfl rfl fun a hk => ?_
          show wpList _ _ _ [] _ _
          refine wpList_nil ?_
          obtain rfl := Option.some.inj H
          show R10 _ _
          rw [hR10]
          exact ⟨((x0.Buckets.length : Int) != 15), rfl, (hk.c 1 rfl (hk.c 29 rfl hk.k)), (hs.pick [(4, 4)] rfl)⟩
  · intro a w hR0
    rw [hR10] at hR0
    obtain ⟨u6, rfl, hk, hs⟩ := hR0
    have H := HL9
    try dsimp only at H
    refine hK4 _ _ ?_
    rcases cond_some H with ⟨c16, H⟩ | ⟨c16, H⟩
    · have hk := hk.lit 29 c16 rfl
      refine cnd_true hk rfl rfl ?_
      apply wp_seq_k; intro K17 hK17
      apply wp_region_lit
      refine sa _ rfl hk rfl rfl rfl fun a hk => ?_
      show wpList _ _ _ [] _ _
      refine wpList_nil ?_
      refine hK17 _ _ ?_
      refine wp_ret ?_
      obtain rfl := Option.some.inj H
      exact fin hk _ [(.bool false)] rfl ⟨rfl, trivial⟩ ⟨rfl, (hs.pick [] rfl).dnil⟩
    · have hk := hk.lit 29 c16 rfl
      refine cnd_false hk rfl rfl ?_
      refine wp_skip ?_
      refine hK3 _ _ ?_
      apply wp_seq_k; intro K18 hK18
      apply wp_region_lit
      refine sbs0 6 (Lay.int .i64) hs rfl hk rfl rfl un22 sz3 fun b19 k20 w a hk o21 hs => ?_
      refine sa _ rfl hk rfl rfl rfl fun a hk => ?_
      show wpList _ _ _ [] _ _
      refine wpList_nil ?_
      refine hK18 _ _ ?_
      apply wp_seq_k; intro K22 hK22
      apply wp_seq_k; intro K23 hK23
      apply wp_region_lit
      refine sa _ rfl hk rfl rfl rfl fun a hk => ?_
      show wpList _ _ _ [] _ _
      refine wpList_nil ?_
      refine hK23 _ _ ?_
      obtain ⟨o41, h42, HL43⟩ := bind_some H
      clear H
      obtain ⟨R44, hR44⟩ : ∃ R : Act → World → Prop, R = fun a w => ∃ (u36 : List Int) (A39 : Option Addr) (p40 : Nat) (k37 : Chunk), o41 = .out u36 ∧ Kn [(1, (.pointer (some ⟨b2, 0, none⟩))), (3, (.slice A39 u36.length p40))] 102 a ∧ Sat [] w0 w [(1, k0_0), (2, k0_1), (3, k0_2)] [(6, k37), (4, [(b2, .cells #[.slice A0_0 x0.Pos.length p0_0, .slice A0_1 x0.Stash.length p0_1, .slice A0_2 x0.Buckets.length p0_2] 31 (0, 0))])] ∧ Own (Lay.int .i64) 3 A39 p40 u36 k37 := ⟨_, rfl⟩
      refine wp_cutq R44 ?_ ?_
      · refine wp_block ?_
        obtain ⟨fu46, h42⟩ := loopO_some h42
        obtain ⟨I45, hI45⟩ : ∃ I : Nat → Act → World → Prop, I = fun fu a w => ∃ (u31 : List Int) (u30 : Int) (A34 : Option Addr) (p35 : Nat) (k32 : Chunk), loopN (fun s => spec_OramOK.s0 x0 s.1 s.2) fu (u31, u30) = some o41 ∧ Kn [(1, (.pointer (some ⟨b2, 0, none⟩))), (3, (.slice A34 u31.length p35)), (4, (.int .i64 u30))] 102 a ∧ Sat [] w0 w [(1, k0_0), (2, k0_1), (3, k0_2)] [(6, k32), (4, [(b2, .cells #[.slice A0_0 x0.Pos.length p0_0, .slice A0_1 x0.Stash.length p0_1, .slice A0_2 x0.Buckets.length p0_2] 31 (0, 0))])] ∧ Own (Lay.int .i64) 3 A34 p35 u31 k32 := ⟨_, rfl⟩
        refine wp_loop_ghost I45 fu46 ?_ ?_
        · rw [hI45]
          exact ⟨([] : List Int), 0, (some ⟨b19, 0, none⟩), 0, _, h42, (hk.c 1 rfl (hk.c 3 rfl (hk.c 4 rfl hk.k))), (hs.pick [(6, 6), (4, 4)] rfl), o21⟩
        · clear h42 hk hs
          intro fu46 a w hI0
          rw [hI45] at hI0
          obtain ⟨u31, u30, A34, p35, k32, hi, hk, hs, o33⟩ := hI0
          obtain ⟨x47, H, h48⟩ := loop_round hi
          try dsimp only at H
          unfold spec_OramOK.s0 at H
          apply wp_seq_k; intro K49 hK49
          apply wp_seq_k; intro K50 hK50
          apply wp_region_lit
          refine sm _ rfl hk rfl rfl rfl fun a hk => ?_
          refine sf ⟨b2, 1, none⟩ rfl hk rfl rfl rfl fd31_1 rfl fun a hk => ?_
          refine sl rfl hk rfl rfl rfl ag28 (box_cell hs (k := 4) rfl rfl) fun a hk => ?_
          refine sle rfl hk rfl rfl rfl un28 fun a hk => ?_
          refine sv (.bool (decide (u30 < (x0.Stash.length : Int)))) hk rfl rfl rfl fun a hk => ?_
          show wpList _ _ _ [] _ _
          refine wpList_nil ?_
          refine hK50 _ _ ?_
          rcases cond_some H with ⟨c51, H⟩ | ⟨c51, H⟩
          · have hk := hk.lit 35 c51 rfl
            refine cnd_true hk rfl rfl ?_
            refine wp_skip ?_
            refine hK49 _ _ ?_
            apply wp_seq_k; intro K52 hK52
            refine wp_block ?_
            apply wp_seq_k; intro K53 hK53
            apply wp_seq_k; intro K54 hK54
            refine wp_region_tree (.q 0 (.q 1 (.q 2 (.q 3 (.q 4 (.q 5 (.alt 6 (.alt 7 (.alt 8 .done .stop) .stop) .stop))))))) mo (by kernel_rfl) (hs.pick [(6, 6), (4, 4)] rfl) fun _ => ?_
            have hs := hs.drew
            refine tqst (.agg #[.slice A0_0 x0.Pos.length p0_0, .slice A0_1 x0.Stash.length p0_1, .slice A0_2 x0.Buckets.length p0_2]) hk rfl rfl rfl rfl (fun w hs => sln [.slice A0_0 x0.Pos.length p0_0, .slice A0_1 x0.Stash.length p0_1, .slice A0_2 x0.Buckets.length p0_2] rfl hk rfl rfl rfl ag31 sz31 (box_cells hs (k := 4) rfl) fun a hk => qe hk) fun a hk => ?_
            refine tqst (.pointer (some ⟨b2, 1, none⟩)) hk rfl rfl rfl rfl (fun w hs => sf ⟨b2, 1, none⟩ rfl hk rfl rfl rfl fd31_1 rfl fun a hk => qe hk) fun a hk => ?_
            refine tqst (.slice A0_1 x0.Stash.length p0_1) hk rfl rfl rfl rfl (fun w hs => sl rfl hk rfl rfl rfl ag28 (box_cell hs (k := 4) rfl rfl) fun a hk => qe hk) fun a hk => ?_
            refine tqst (.int .i64 u30) hk rfl rfl rfl rfl (fun w hs => sm _ rfl hk rfl rfl rfl fun a hk => qe hk) fun a hk => ?_
            rcases ite_some H with ⟨c56, H⟩ | ⟨_, H⟩
            rotate_left
            · cases H
            obtain ⟨b57, q58, hAc56⟩ := (v0_1).some_ u30 c56.1 c56.2
            refine tqst (.pointer (some (padd A0_1 (u30.toNat * 3)))) hk rfl rfl rfl rfl (fun w hs => si rfl hk rfl rfl rfl rfl un28 sz102 c56.1 c56.2 hAc56 fun a hk => qe hk) fun a hk => ?_
            obtain ⟨_, rfl, e59⟩ := (v0_1).at_ z_Block u30 c56.1 c56.2
            refine tqst (.agg #[.int .i64 ((x0.Stash.getD u30.toNat z_Block).Id), .int .i64 ((x0.Stash.getD u30.toNat z_Block).Leaf), .int .i64 ((x0.Stash.getD u30.toNat z_Block).Value)]) hk rfl rfl rfl rfl (fun w hs => sln [.int .i64 ((x0.Stash.getD u30.toNat z_Block).Id), .int .i64 ((x0.Stash.getD u30.toNat z_Block).Leaf), .int .i64 ((x0.Stash.getD u30.toNat z_Block).Value)] rfl hk rfl rfl rfl ag102 sz102 (cells_at e59 (hs.hasD (k := 2) rfl)) fun a hk => qe hk) fun a hk => ?_
            refine tsst hk rfl rfl (fun K_r55_6 hK_r55_6 w hF => ?_) wt_stop
            have hs := hs.f hF
            refine sm _ rfl hk rfl rfl rfl fun a hk => ?_
            refine se (hs.pick [(6, 6), (4, 4)] rfl) hk (hK_r55_6 _ _ ?_)
            refine tsst hk rfl rfl (fun K_r55_7 hK_r55_7 w hF => ?_) wt_stop
            have hs := hs.f hF
            obtain ⟨y60, h61, H⟩ := bind_some H
            refine sc rfl en124 hk rfl rfl rfl (spec_l08Block_t _ x0 A0_0 p0_0 _ v0_0 (hs.hasD (k := 1) rfl) A0_1 p0_1 _ v0_1 (hs.hasD (k := 2) rfl) A0_2 p0_2 _ v0_2 (hs.hasD (k := 3) rfl) (x0.Stash.getD u30.toNat z_Block) A34 p35 u31 _ o33.view (hs.hasG (k := 6) rfl) _ h61) ?_
            rintro _ w ⟨rfl, hG⟩ a hk
            have hs := hs.call0 hG
            refine se (hs.pick [(6, 6), (4, 4)] rfl) hk (hK_r55_7 _ _ ?_)
            refine tsst hk rfl rfl (fun K_r55_8 hK_r55_8 w hF => ?_) wt_stop
            have hs := hs.f hF
            refine sv (.bool (!y60)) hk rfl rfl rfl fun a hk => ?_
            refine se (hs.pick [(6, 6), (4, 4)] rfl) hk (hK_r55_8 _ _ ?_)
            refine wtl_nil fun w hF _ => ?_
            have hs := hs.f hF
            refine hK54 _ _ ?_
            rcases cond_some H with ⟨c62, H⟩ | ⟨c62, H⟩
            · have hk := hk.lit 46 c62 rfl
              refine cnd_true hk rfl rfl ?_
              apply wp_seq_k; intro K63 hK63
              apply wp_region_lit
              refine sa _ rfl hk rfl rfl rfl fun a hk => ?_
              show wpList _ _ _ [] _ _
              refine wpList_nil ?_
              refine hK63 _ _ ?_
              refine wp_ret ?_
              obtain rfl := Option.some.inj H
              have ho41 := h48
              try dsimp only at ho41
              subst ho41
              have H := HL43
              try dsimp only at H
              obtain rfl := Option.some.inj H
              exact fin hk _ [(.bool false)] rfl ⟨rfl, trivial⟩ ⟨rfl, (hs.pick [] rfl).dnil⟩
            · have hk := hk.lit 46 c62 rfl
              refine cnd_false hk rfl rfl ?_
              refine wp_skip ?_
              refine hK53 _ _ ?_
              apply wp_region_lit
              refine sm _ rfl hk rfl rfl rfl fun a hk => ?_
              refine sf ⟨b2, 1, none⟩ rfl hk rfl rfl rfl fd31_1 rfl fun a hk => ?_
              refine sl rfl hk rfl rfl rfl ag28 (box_cell hs (k := 4) rfl rfl) fun a hk => ?_
              refine sm _ rfl hk rfl rfl rfl fun a hk => ?_
              rcases ite_some H with ⟨c64, H⟩ | ⟨_, H⟩
              rotate_left
              · cases H
              obtain ⟨b65, q66, hAc64⟩ := (v0_1).some_ u30 c64.1 c64.2
              refine si rfl hk rfl rfl rfl rfl un28 sz102 c64.1 c64.2 hAc64 fun a hk => ?_
              refine sf (padd A0_1 (u30.toNat * 3 + 0)) rfl hk rfl rfl rfl fd102_0 (padd_add _ _ _) fun a hk => ?_
              obtain ⟨_, rfl, e67⟩ := (v0_1).at_ z_Block u30 c64.1 c64.2
              refine sl (v := (.int .i64 ((x0.Stash.getD u30.toNat z_Block).Id))) rfl hk rfl rfl rfl ag3 ((e67 0 _ rfl).cell (hs.hasD (k := 2) rfl)) fun a hk => ?_
              refine sbs (L := (Lay.int .i64)) (pv := [(0, (.int .i64 ((x0.Stash.getD u30.toNat z_Block).Id)))]) (xs := [(x0.Stash.getD u30.toNat z_Block).Id]) (ess := [[.int .i64 ((x0.Stash.getD u30.toNat z_Block).Id)]]) 9 hs rfl hk rfl rfl rfl un22 (bs3_0 ((x0.Stash.getD u30.toNat z_Block).Id)) (AllOwn.cons0 ⟨rfl, rfl⟩ AllOwn.nil) rfl rfl rfl fun b68 k69 w a hk o70 hs => ?_
              rcases ite_some H with ⟨c71, H⟩ | ⟨_, H⟩
              rotate_left
              · cases H
              refine sap 6 (xs := u31) (ys := [(x0.Stash.getD u30.toNat z_Block).Id]) (flat_flat : ((Lay.int .i64)).Flat) hs rfl o33 o70.view (hs.hasG (k := 9) rfl) rfl hk rfl rfl rfl rfl rfl rfl un22 mk3 rfl rfl rfl c71 fun A72 p73 k74 w a hk o75 hs => ?_
              refine sa _ rfl hk rfl rfl rfl fun a hk => ?_
              show wpList _ _ _ [] _ _
              refine wpList_nil ?_
              refine hK52 _ _ ?_
              apply wp_region_lit
              refine sm _ rfl hk rfl rfl rfl fun a hk => ?_
              refine sv (.int .i64 (w64 (u30 + 1))) hk rfl rfl rfl fun a hk => ?_
              refine sa _ rfl hk rfl rfl rfl fun a hk => ?_
              show wpList _ _ _ [] _ _
              refine wpList_nil ?_
              obtain rfl := Option.some.inj H
              obtain ⟨m76, hmm76, h48⟩ := h48
              show ∃ n', n' < _ ∧ I45 n' _ _
              refine ⟨m76, hmm76, ?_⟩
              rw [hI45]
              exact ⟨(u31 ++ ([(x0.Stash.getD u30.toNat z_Block).Id])), (w64 (u30 + 1)), A72, p73, _, h48, (hk.c 1 rfl (hk.c 3 rfl (hk.c 4 rfl hk.k))), (hs.pick [(6, 6), (4, 4)] rfl), o75⟩
          · have hk := hk.lit 35 c51 rfl
            refine cnd_false hk rfl rfl ?_
            refine wp_exit ?_
            obtain rfl := Option.some.inj H
            show R44 _ _
            rw [hR44]
            exact ⟨u31, A34, p35, _, h48.symm, (hk.c 1 rfl (hk.c 3 rfl hk.k)), (hs.pick [(6, 6), (4, 4)] rfl), o33⟩
      · intro a w hR0
        rw [hR44] at hR0
        obtain ⟨u36, A39, p40, k37, rfl, hk, hs, o38⟩ := hR0
        have H := HL43
        try dsimp only at H
        refine hK22 _ _ ?_
        apply wp_seq_k; intro K77 hK77
        apply wp_seq_k; intro K78 hK78
        apply wp_region_lit
        refine sa _ rfl hk rfl rfl rfl fun a hk => ?_
        show wpList _ _ _ [] _ _
        refine wpList_nil ?_
        refine hK78 _ _ ?_
        obtain ⟨o91, h92, HL93⟩ := bind_some H
        clear H
        obtain ⟨R94, hR94⟩ : ∃ R : Act → World → Prop, R = fun a w => o91 = .out () ∧ Kn [] 102 a ∧ Sat [] w0 w [(1, k0_0), (2, k0_1), (3, k0_2)] [] := ⟨_, rfl⟩
        refine wp_cutq R94 ?_ ?_
        · refine wp_block ?_
          obtain ⟨fu96, h92⟩ := loopO_some h92
          obtain ⟨I95, hI95⟩ : ∃ I : Nat → Act → World → Prop, I = fun fu a w => ∃ (u86 : List Int) (u85 : Int) (A89 : Option Addr) (p90 : Nat) (k87 : Chunk), loopN (fun s => spec_OramOK.s1 x0 s.1 s.2) fu (u86, u85) = some o91 ∧ Kn [(1, (.pointer (some ⟨b2, 0, none⟩))), (3, (.slice A89 u86.length p90)), (5, (.int .i64 u85))] 102 a ∧ Sat [] w0 w [(1, k0_0), (2, k0_1), (3, k0_2)] [(6, k87), (4, [(b2, .cells #[.slice A0_0 x0.Pos.length p0_0, .slice A0_1 x0.Stash.length p0_1, .slice A0_2 x0.Buckets.length p0_2] 31 (0, 0))])] ∧ Own (Lay.int .i64) 3 A89 p90 u86 k87 := ⟨_, rfl⟩
          refine wp_loop_ghost I95 fu96 ?_ ?_
          · rw [hI95]
            exact ⟨u36, 0, A39, p40, _, h92, (hk.c 1 rfl (hk.c 3 rfl (hk.c 5 rfl hk.k))), (hs.pick [(6, 6), (4, 4)] rfl), o38⟩
          · clear h92 hk hs
            intro fu96 a w hI0
            rw [hI95] at hI0
            obtain ⟨u86, u85, A89, p90, k87, hi, hk, hs, o88⟩ := hI0
            obtain ⟨x97, H, h98⟩ := loop_round hi
            try dsimp only at H
            unfold spec_OramOK.s1 at H
            apply wp_seq_k; intro K99 hK99
            apply wp_seq_k; intro K100 hK100
            apply wp_region_lit
            refine sm _ rfl hk rfl rfl rfl fun a hk => ?_
            refine sv (.bool (decide (u85 < 15))) hk rfl rfl rfl fun a hk => ?_
            show wpList _ _ _ [] _ _
            refine wpList_nil ?_
            refine hK100 _ _ ?_
            rcases cond_some H with ⟨c101, H⟩ | ⟨c101, H⟩
            · have hk := hk.lit 57 c101 rfl
              refine cnd_true hk rfl rfl ?_
              refine wp_skip ?_
              refine hK99 _ _ ?_
              apply wp_seq_k; intro K102 hK102
              refine wp_block ?_
              apply wp_seq_k; intro K103 hK103
              apply wp_seq_k; intro K104 hK104
              apply wp_region_lit
              refine sf ⟨b2, 2, none⟩ rfl hk rfl rfl rfl fd31_2 rfl fun a hk => ?_
              refine sl rfl hk rfl rfl rfl ag29 (box_cell hs (k := 4) rfl rfl) fun a hk => ?_
              refine sm _ rfl hk rfl rfl rfl fun a hk => ?_
              rcases ite_some H with ⟨c105, H⟩ | ⟨_, H⟩
              rotate_left
              · cases H
              obtain ⟨b106, q107, hAc105⟩ := (v0_2).some_ u85 c105.1 c105.2
              refine si rfl hk rfl rfl rfl rfl un29 sz28 c105.1 c105.2 hAc105 fun a hk => ?_
              obtain ⟨_, ⟨_, rfl, A109, p110, rfl, v111⟩, e108⟩ := (v0_2).at_ [] u85 c105.1 c105.2
              refine sl (v := (.slice A109 (x0.Buckets.getD u85.toNat []).length p110)) rfl hk rfl rfl rfl ag28 ((e108 0 _ rfl).cell (hs.hasD (k := 3) rfl)) fun a hk => ?_
              refine sle rfl hk rfl rfl rfl un28 fun a hk => ?_
              refine sv (.bool (decide (((x0.Buckets.getD u85.toNat []).length : Int) > 2))) hk rfl rfl rfl fun a hk => ?_
              show wpList _ _ _ [] _ _
              refine wpList_nil ?_
              refine hK104 _ _ ?_
              rcases cond_some H with ⟨c112, H⟩ | ⟨c112, H⟩
              · have hk := hk.lit 66 c112 rfl
                refine cnd_true hk rfl rfl ?_
                apply wp_seq_k; intro K113 hK113
                apply wp_region_lit
                refine sa _ rfl hk rfl rfl rfl fun a hk => ?_
                show wpList _ _ _ [] _ _
                refine wpList_nil ?_
                refine hK113 _ _ ?_
                refine wp_ret ?_
                obtain rfl := Option.some.inj H
                have ho91 := h98
                try dsimp only at ho91
                subst ho91
                have H := HL93
                try dsimp only at H
                obtain rfl := Option.some.inj H
                exact fin hk _ [(.bool false)] rfl ⟨rfl, trivial⟩ ⟨rfl, (hs.pick [] rfl).dnil⟩
              · have hk := hk.lit 66 c112 rfl
                refine cnd_false hk rfl rfl ?_
                refine wp_skip ?_
                refine hK103 _ _ ?_
                apply wp_seq_k; intro K114 hK114
                apply wp_region_lit
                refine sa _ rfl hk rfl rfl rfl fun a hk => ?_
                show wpList _ _ _ [] _ _
                refine wpList_nil ?_
                refine hK114 _ _ ?_
                obtain ⟨o132, h133, HL134⟩ := bind_some H
                clear H
                obtain ⟨R135, hR135⟩ : ∃ R : Act → World → Prop, R = fun a w => ∃ (u127 : List Int) (A130 : Option Addr) (p131 : Nat) (k128 : Chunk), o132 = .out u127 ∧ Kn [(1, (.pointer (some ⟨b2, 0, none⟩))), (3, (.slice A130 u127.length p131)), (5, (.int .i64 u85))] 102 a ∧ Sat [] w0 w [(1, k0_0), (2, k0_1), (3, k0_2)] [(6, k128), (4, [(b2, .cells #[.slice A0_0 x0.Pos.length p0_0, .slice A0_1 x0.Stash.length p0_1, .slice A0_2 x0.Buckets.length p0_2] 31 (0, 0))])] ∧ Own (Lay.int .i64) 3 A130 p131 u127 k128 := ⟨_, rfl⟩
                refine wp_cutq R135 ?_ ?_
                · refine wp_block ?_
                  obtain ⟨fu137, h133⟩ := loopO_some h133
                  obtain ⟨I136, hI136⟩ : ∃ I : Nat → Act → World → Prop, I = fun fu a w => ∃ (u122 : List Int) (u121 : Int) (A125 : Option Addr) (p126 : Nat) (k123 : Chunk), loopN (fun s => spec_OramOK.s2 x0 u85 s.1 s.2) fu (u122, u121) = some o132 ∧ Kn [(1, (.pointer (some ⟨b2, 0, none⟩))), (3, (.slice A125 u122.length p126)), (5, (.int .i64 u85)), (6, (.int .i64 u121))] 102 a ∧ Sat [] w0 w [(1, k0_0), (2, k0_1), (3, k0_2)] [(6, k123), (4, [(b2, .cells #[.slice A0_0 x0.Pos.length p0_0, .slice A0_1 x0.Stash.length p0_1, .slice A0_2 x0.Buckets.length p0_2] 31 (0, 0))])] ∧ Own (Lay.int .i64) 3 A125 p126 u122 k123 := ⟨_, rfl⟩
                  refine wp_loop_ghost I136 fu137 ?_ ?_
                  · rw [hI136]
                    exact ⟨u86, 0, A89, p90, _, h133, (hk.c 1 rfl (hk.c 3 rfl (hk.c 5 rfl (hk.c 6 rfl hk.k)))), (hs.pick [(6, 6), (4, 4)] rfl), o88⟩
                  · clear h133 hk hs
                    intro fu137 a w hI0
                    rw [hI136] at hI0
                    obtain ⟨u122, u121, A125, p126, k123, hi, hk, hs, o124⟩ := hI0
                    obtain ⟨x138, H, h139⟩ := loop_round hi
                    try dsimp only at H
                    unfold spec_OramOK.s2 at H
                    apply wp_seq_k; intro K140 hK140
                    apply wp_seq_k; intro K141 hK141
                    apply wp_region_lit
                    refine sm _ rfl hk rfl rfl rfl fun a hk => ?_
                    refine sf ⟨b2, 2, none⟩ rfl hk rfl rfl rfl fd31_2 rfl fun a hk => ?_
                    refine sl rfl hk rfl rfl rfl ag29 (box_cell hs (k := 4) rfl rfl) fun a hk => ?_
                    refine sm _ rfl hk rfl rfl rfl fun a hk => ?_
                    rcases ite_some H with ⟨c142, H⟩ | ⟨_, H⟩
                    rotate_left
                    · cases H
                    obtain ⟨b143, q144, hAc142⟩ := (v0_2).some_ u85 c142.1 c142.2
                    refine si rfl hk rfl rfl rfl rfl un29 sz28 c142.1 c142.2 hAc142 fun a hk => ?_
                    obtain ⟨_, ⟨_, rfl, A146, p147, rfl, v148⟩, e145⟩ := (v0_2).at_ [] u85 c142.1 c142.2
                    refine sl (v := (.slice A146 (x0.Buckets.getD u85.toNat []).length p147)) rfl hk rfl rfl rfl ag28 ((e145 0 _ rfl).cell (hs.hasD (k := 3) rfl)) fun a hk => ?_
                    refine sle rfl hk rfl rfl rfl un28 fun a hk => ?_
                    refine sv (.bool (decide (u121 < ((x0.Buckets.getD u85.toNat []).length : Int)))) hk rfl rfl rfl fun a hk => ?_
                    show wpList _ _ _ [] _ _
                    refine wpList_nil ?_
                    refine hK141 _ _ ?_
                    rcases cond_some H with ⟨c149, H⟩ | ⟨c149, H⟩
                    · have hk := hk.lit 74 c149 rfl
                      refine cnd_true hk rfl rfl ?_
                      refine wp_skip ?_
                      refine hK140 _ _ ?_
                      apply wp_seq_k; intro K150 hK150
                      refine wp_block ?_
                      apply wp_seq_k; intro K151 hK151
                      apply wp_region_lit
                      refine sf ⟨b2, 2, none⟩ rfl hk rfl rfl rfl fd31_2 rfl fun a hk => ?_
                      refine sl rfl hk rfl rfl rfl ag29 (box_cell hs (k := 4) rfl rfl) fun a hk => ?_
                      refine sm _ rfl hk rfl rfl rfl fun a hk => ?_
                      rcases ite_some H with ⟨c152, H⟩ | ⟨_, H⟩
                      rotate_left
                      · cases H
                      obtain ⟨b153, q154, hAc152⟩ := (v0_2).some_ u85 c152.1 c152.2
                      refine si rfl hk rfl rfl rfl rfl un29 sz28 c152.1 c152.2 hAc152 fun a hk => ?_
                      obtain ⟨_, ⟨_, rfl, A156, p157, rfl, v158⟩, e155⟩ := (v0_2).at_ [] u85 c152.1 c152.2
                      refine sl (v := (.slice A156 (x0.Buckets.getD u85.toNat []).length p157)) rfl hk rfl rfl rfl ag28 ((e155 0 _ rfl).cell (hs.hasD (k := 3) rfl)) fun a hk => ?_
                      refine sm _ rfl hk rfl rfl rfl fun a hk => ?_
                      rcases ite_some H with ⟨c159, H⟩ | ⟨_, H⟩
                      rotate_left
                      · cases H
                      obtain ⟨b160, q161, hAc159⟩ := (v158).some_ u121 c159.1 c159.2
                      refine si rfl hk rfl rfl rfl rfl un28 sz102 c159.1 c159.2 hAc159 fun a hk => ?_
                      obtain ⟨_, rfl, e162⟩ := (v158).at_ z_Block u121 c159.1 c159.2
                      refine sln [.int .i64 (((x0.Buckets.getD u85.toNat []).getD u121.toNat z_Block).Id), .int .i64 (((x0.Buckets.getD u85.toNat []).getD u121.toNat z_Block).Leaf), .int .i64 (((x0.Buckets.getD u85.toNat []).getD u121.toNat z_Block).Value)] rfl hk rfl rfl rfl ag102 sz102 (cells_at e162 (hs.hasD (k := 3) rfl)) fun a hk => ?_
                      refine salx 12 hs rfl hk rfl rfl ze102 rfl fun b163 w a hk hs => ?_
                      refine ssw 12 hs rfl rfl hk rfl rfl rfl rfl sz102 (by simp [Value.oneCell']) rfl fun w a hk hs => ?_
                      show wpList _ _ _ [] _ _
                      refine wpList_nil ?_
                      refine hK151 _ _ ?_
                      apply wp_seq_k; intro K164 hK164
                      apply wp_seq_k; intro K165 hK165
                      obtain ⟨o168, h169, HL170⟩ := bind_some H
                      clear H
                      obtain ⟨R171, hR171⟩ : ∃ R : Act → World → Prop, R = fun a w => ∃ (u167 : Bool), u167 = o168 ∧ Kn [(1, (.pointer (some ⟨b2, 0, none⟩))), (3, (.slice A125 u122.length p126)), (5, (.int .i64 u85)), (6, (.int .i64 u121)), (7, (.pointer (some ⟨b163, 0, none⟩))), (96, (.bool u167))] 102 a ∧ Sat [] w0 w [(1, k0_0), (2, k0_1), (3, k0_2)] [(6, k123), (4, [(b2, .cells #[.slice A0_0 x0.Pos.length p0_0, .slice A0_1 x0.Stash.length p0_1, .slice A0_2 x0.Buckets.length p0_2] 31 (0, 0))]), (12, [(b163, .cells #[.int .i64 (((x0.Buckets.getD u85.toNat []).getD u121.toNat z_Block).Id), .int .i64 (((x0.Buckets.getD u85.toNat []).getD u121.toNat z_Block).Leaf), .int .i64 (((x0.Buckets.getD u85.toNat []).getD u121.toNat z_Block).Value)] 102 (0, 0))])] := ⟨_, rfl⟩
                      refine wp_cutq R171 ?_ ?_
                      · have H := h169
                        apply wp_region_lit
                        refine sln [.slice A0_0 x0.Pos.length p0_0, .slice A0_1 x0.Stash.length p0_1, .slice A0_2 x0.Buckets.length p0_2] rfl hk rfl rfl rfl ag31 sz31 (box_cells hs (k := 4) rfl) fun a hk => ?_
                        refine sln [.int .i64 (((x0.Buckets.getD u85.toNat []).getD u121.toNat z_Block).Id), .int .i64 (((x0.Buckets.getD u85.toNat []).getD u121.toNat z_Block).Leaf), .int .i64 (((x0.Buckets.getD u85.toNat []).getD u121.toNat z_Block).Value)] rfl hk rfl rfl rfl ag102 sz102 (box_cells hs (k := 12) rfl) fun a hk => ?_
                        refine sm _ rfl hk rfl rfl rfl fun a hk => ?_
                        obtain ⟨y172, h173, H⟩ := bind_some H
                        refine sc rfl en124 hk rfl rfl rfl (spec_l08Block_t _ x0 A0_0 p0_0 _ v0_0 (hs.hasD (k := 1) rfl) A0_1 p0_1 _ v0_1 (hs.hasD (k := 2) rfl) A0_2 p0_2 _ v0_2 (hs.hasD (k := 3) rfl) ((x0.Buckets.getD u85.toNat []).getD u121.toNat z_Block) A125 p126 u122 _ o124.view (hs.hasG (k := 6) rfl) _ h173) ?_
                        rintro _ w ⟨rfl, hG⟩ a hk
                        have hs := hs.call0 hG
                        refine sv (.bool (!y172)) hk rfl rfl rfl fun a hk => ?_
                        refine sm _ rfl hk rfl rfl rfl fun a hk => ?_
                        rcases cond_some H with ⟨c174, H⟩ | ⟨c174, H⟩
                        · have hk := hk.lit 90 c174 rfl
                          refine sk hk rfl rfl rfl fun a hk => ?_
                          refine sk hk rfl rfl rfl fun a hk => ?_
                          refine sk hk rfl rfl rfl fun a hk => ?_
                          refine sk hk rfl rfl rfl fun a hk => ?_
                          refine sk hk rfl rfl rfl fun a hk => ?_
                          refine sv (.bool true) hk rfl rfl rfl fun a hk => ?_
                          show wpList _ _ _ [] _ _
                          refine wpList_nil ?_
                          obtain rfl := Option.some.inj H
                          show R171 _ _
                          rw [hR171]
                          exact ⟨true, rfl, (hk.c 1 rfl (hk.c 3 rfl (hk.c 5 rfl (hk.c 6 rfl (hk.c 7 rfl (hk.c 96 rfl hk.k)))))), (hs.pick [(6, 6), (4, 4), (12, 12)] rfl)⟩
                        · have hk := hk.lit 90 c174 rfl
                          refine sm _ rfl hk rfl rfl rfl fun a hk => ?_
                          refine sf ⟨b163, 1, none⟩ rfl hk rfl rfl rfl fd102_1 rfl fun a hk => ?_
                          refine sl rfl hk rfl rfl rfl ag3 (box_cell hs (k := 12) rfl rfl) fun a hk => ?_
                          obtain ⟨y175, h176, H⟩ := bind_some H
                          refine sc rfl en125 hk rfl rfl rfl (spec_l08On_t _ u85 (((x0.Buckets.getD u85.toNat []).getD u121.toNat z_Block).Leaf) _ h176) ?_
                          rintro _ w ⟨rfl, hG⟩ a hk
                          have hs := hs.call0 hG
                          refine sv (.bool (!y175)) hk rfl rfl rfl fun a hk => ?_
                          refine sv (.bool (!y175)) hk rfl rfl rfl fun a hk => ?_
                          show wpList _ _ _ [] _ _
                          refine wpList_nil ?_
                          obtain rfl := Option.some.inj H
                          show R171 _ _
                          rw [hR171]
                          exact ⟨(!y175), rfl, (hk.c 1 rfl (hk.c 3 rfl (hk.c 5 rfl (hk.c 6 rfl (hk.c 7 rfl (hk.c 96 rfl hk.k)))))), (hs.pick [(6, 6), (4, 4), (12, 12)] rfl)⟩
                      · intro a w hR0
                        rw [hR171] at hR0
                        obtain ⟨u167, rfl, hk, hs⟩ := hR0
                        have H := HL170
                        try dsimp only at H
                        refine hK165 _ _ ?_
                        rcases cond_some H with ⟨c177, H⟩ | ⟨c177, H⟩
                        · have hk := hk.lit 96 c177 rfl
                          refine cnd_true hk rfl rfl ?_
                          apply wp_seq_k; intro K178 hK178
                          apply wp_region_lit
                          refine sa _ rfl hk rfl rfl rfl fun a hk => ?_
                          show wpList _ _ _ [] _ _
                          refine wpList_nil ?_
                          refine hK178 _ _ ?_
                          refine wp_ret ?_
                          obtain rfl := Option.some.inj H
                          have ho132 := h139
                          try dsimp only at ho132
                          subst ho132
                          have H := HL134
                          try dsimp only at H
                          obtain rfl := Option.some.inj H
                          have ho91 := h98
                          try dsimp only at ho91
                          subst ho91
                          have H := HL93
                          try dsimp only at H
                          obtain rfl := Option.some.inj H
                          exact fin hk _ [(.bool false)] rfl ⟨rfl, trivial⟩ ⟨rfl, (hs.pick [] rfl).dnil⟩
                        · have hk := hk.lit 96 c177 rfl
                          refine cnd_false hk rfl rfl ?_
                          refine wp_skip ?_
                          refine hK164 _ _ ?_
                          apply wp_region_lit
                          refine sm _ rfl hk rfl rfl rfl fun a hk => ?_
                          refine sf ⟨b163, 0, none⟩ rfl hk rfl rfl rfl fd102_0 rfl fun a hk => ?_
                          refine sl rfl hk rfl rfl rfl ag3 (box_cell hs (k := 12) rfl rfl) fun a hk => ?_
                          refine sbs (L := (Lay.int .i64)) (pv := [(0, (.int .i64 (((x0.Buckets.getD u85.toNat []).getD u121.toNat z_Block).Id)))]) (xs := [((x0.Buckets.getD u85.toNat []).getD u121.toNat z_Block).Id]) (ess := [[.int .i64 (((x0.Buckets.getD u85.toNat []).getD u121.toNat z_Block).Id)]]) 14 hs rfl hk rfl rfl rfl un22 (bs3_0 (((x0.Buckets.getD u85.toNat []).getD u121.toNat z_Block).Id)) (AllOwn.cons0 ⟨rfl, rfl⟩ AllOwn.nil) rfl rfl rfl fun b179 k180 w a hk o181 hs => ?_
                          rcases ite_some H with ⟨c182, H⟩ | ⟨_, H⟩
                          rotate_left
                          · cases H
                          refine sap 6 (xs := u122) (ys := [((x0.Buckets.getD u85.toNat []).getD u121.toNat z_Block).Id]) (flat_flat : ((Lay.int .i64)).Flat) hs rfl o124 o181.view (hs.hasG (k := 14) rfl) rfl hk rfl rfl rfl rfl rfl rfl un22 mk3 rfl rfl rfl c182 fun A183 p184 k185 w a hk o186 hs => ?_
                          refine sa _ rfl hk rfl rfl rfl fun a hk => ?_
                          show wpList _ _ _ [] _ _
                          refine wpList_nil ?_
                          refine hK150 _ _ ?_
                          apply wp_region_lit
                          refine sm _ rfl hk rfl rfl rfl fun a hk => ?_
                          refine sv (.int .i64 (w64 (u121 + 1))) hk rfl rfl rfl fun a hk => ?_
                          refine sa _ rfl hk rfl rfl rfl fun a hk => ?_
                          show wpList _ _ _ [] _ _
                          refine wpList_nil ?_
                          obtain rfl := Option.some.inj H
                          obtain ⟨m187, hmm187, h139⟩ := h139
                          show ∃ n', n' < _ ∧ I136 n' _ _
                          refine ⟨m187, hmm187, ?_⟩
                          rw [hI136]
                          exact ⟨(u122 ++ ([((x0.Buckets.getD u85.toNat []).getD u121.toNat z_Block).Id])), (w64 (u121 + 1)), A183, p184, _, h139, (hk.c 1 rfl (hk.c 3 rfl (hk.c 5 rfl (hk.c 6 rfl hk.k)))), (hs.pick [(6, 6), (4, 4)] rfl), o186⟩
                    · have hk := hk.lit 74 c149 rfl
                      refine cnd_false hk rfl rfl ?_
                      refine wp_exit ?_
                      obtain rfl := Option.some.inj H
                      show R135 _ _
                      rw [hR135]
                      exact ⟨u122, A125, p126, _, h139.symm, (hk.c 1 rfl (hk.c 3 rfl (hk.c 5 rfl hk.k))), (hs.pick [(6, 6), (4, 4)] rfl), o124⟩
                · intro a w hR0
                  rw [hR135] at hR0
                  obtain ⟨u127, A130, p131, k128, rfl, hk, hs, o129⟩ := hR0
                  have H := HL134
                  try dsimp only at H
                  refine hK102 _ _ ?_
                  apply wp_region_lit
                  refine sm _ rfl hk rfl rfl rfl fun a hk => ?_
                  refine sv (.int .i64 (w64 (u85 + 1))) hk rfl rfl rfl fun a hk => ?_
                  refine sa _ rfl hk rfl rfl rfl fun a hk => ?_
                  show wpList _ _ _ [] _ _
                  refine wpList_nil ?_
                  obtain rfl := Option.some.inj H
                  obtain ⟨m188, hmm188, h98⟩ := h98
                  show ∃ n', n' < _ ∧ I95 n' _ _
                  refine ⟨m188, hmm188, ?_⟩
                  rw [hI95]
                  exact ⟨u127, (w64 (u85 + 1)), A130, p131, _, h98, (hk.c 1 rfl (hk.c 3 rfl (hk.c 5 rfl hk.k))), (hs.pick [(6, 6), (4, 4)] rfl), o129⟩
            · have hk := hk.lit 57 c101 rfl
              refine cnd_false hk rfl rfl ?_
              refine wp_exit ?_
              obtain rfl := Option.some.inj H
              show R94 _ _
              rw [hR94]
              exact ⟨h98.symm, hk.k, (hs.pick [] rfl)⟩
        · intro a w hR0
          rw [hR94] at hR0
          obtain ⟨rfl, hk, hs⟩ := hR0
          have H := HL93
          try dsimp only at H
          refine hK77 _ _ ?_
          apply wp_seq_k; intro K189 hK189
          apply wp_region_lit
          refine sa _ rfl hk rfl rfl rfl fun a hk => ?_
          show wpList _ _ _ [] _ _
          refine wpList_nil ?_
          refine hK189 _ _ ?_
          refine wp_ret ?_
          obtain rfl := Option.some.inj H
          exact fin hk _ [(.bool true)] rfl ⟨rfl, trivial⟩ ⟨rfl, (hs.pick [] rfl).dnil⟩

noncomputable def spec_EncOK.s0 (x0 : S_Enc) (u20 : Int) : Option ((Int) ⊕ Ex (Unit) (Bool)) :=
  (bif (decide (u20 < (x0.Keys.length : Int))) then (((if 0 ≤ u20 ∧ u20 < (x0.Keys.length : Int) then ((spec_l01In.f (x0.Keys.getD u20.toNat 0) 0 9999).bind fun y44 => (bif (!y44) then (some true) else (if 0 ≤ u20 ∧ u20 < (x0.Keys.length : Int) then (bif (decide ((x0.Keys.getD u20.toNat 0) > 0)) then (if 0 ≤ u20 ∧ u20 ≤ (x0.Keys.length : Int) then (if 0 ≤ u20 ∧ u20 < (x0.Keys.length : Int) then ((spec_l08In.f (x0.Keys.take u20.toNat) (x0.Keys.getD u20.toNat 0)).bind fun y59 => (some y59)) else none) else none) else (some false)) else none))) else none) : Option (Bool)).bind fun u35 => (bif u35 then (some (.inr (.ret false))) else (some (.inl (w64 (u20 + 1)))))) else (some (.inr (.out ()))))
noncomputable def spec_EncOK.f (x0 : S_Enc) : Option (Bool) :=
  (((bif ((x0.Keys.length : Int) != 11) then (some true) else ((spec_OramOK.f x0.Oram).bind fun y12 => (some (!y12)))) : Option (Bool)).bind fun u6 => (bif u6 then (some false) else ((loopO (fun s => spec_EncOK.s0 x0 s) 0).bind fun o => match o with | .out _ => (some true) | .ret r => (some r))))
set_option maxRecDepth 100000 in
set_option maxHeartbeats 0 in
theorem spec_EncOK_t (w0 : World) (x0 : S_Enc) (A0_0 : Option Addr) (p0_0 : Nat) (k0_0 : Chunk) (v0_0 : View (Lay.int .i64) A0_0 p0_0 x0.Keys k0_0) (w0_0 : Has w0 k0_0) (A0_1 : Option Addr) (p0_1 : Nat) (k0_1 : Chunk) (v0_1 : View (Lay.int .i64) A0_1 p0_1 x0.Oram.Pos k0_1) (w0_1 : Has w0 k0_1) (A0_2 : Option Addr) (p0_2 : Nat) (k0_2 : Chunk) (v0_2 : View L_Block A0_2 p0_2 x0.Oram.Stash k0_2) (w0_2 : Has w0 k0_2) (A0_3 : Option Addr) (p0_3 : Nat) (k0_3 : Chunk) (v0_3 : View (Lay.sl L_Block 102) A0_3 p0_3 x0.Oram.Buckets k0_3) (w0_3 : Has w0 k0_3) (r : Bool) (H : spec_EncOK.f x0 = some r) :
    Calls Try.prog 96 #[.agg #[.slice A0_0 x0.Keys.length p0_0, .slice A0_1 x0.Oram.Pos.length p0_1, .slice A0_2 x0.Oram.Stash.length p0_2, .slice A0_3 x0.Oram.Buckets.length p0_3]] w0 (Ret (fun v w => v = .bool r ∧ Sat [] w0 w [] [])) := by
  have hs : Sat [] w0 w0 [(1, k0_0), (2, k0_1), (3, k0_2), (4, k0_3)] [] := Sat.init w0 [(1, k0_0), (2, k0_1), (3, k0_2), (4, k0_3)] [] (by simp only [List.mem_cons, List.not_mem_nil, or_false]; rintro x (rfl | rfl | rfl | rfl) <;> assumption) (by simp) List.nodup_nil (by simp [blks])
  unfold spec_EncOK.f at H
  refine enter Try.func96 rfl Try.ntmps96 rfl fun a hk => ?_
  apply wp_seq_k; intro K1 hK1
  apply wp_region_lit
  refine sbx 5 hs rfl hk rfl rfl rfl rfl fun b2 w a hk hs => ?_
  refine sa _ rfl hk rfl rfl rfl fun a hk => ?_
  show wpList _ _ _ [] _ _
  refine wpList_nil ?_
  refine hK1 _ _ ?_
  apply wp_seq_k; intro K3 hK3
  apply wp_seq_k; intro K4 hK4
  obtain ⟨o7, h8, HL9⟩ := bind_some H
  clear H
  obtain ⟨R10, hR10⟩ : ∃ R : Act → World → Prop, R = fun a w => ∃ (u6 : Bool), u6 = o7 ∧ Kn [(1, (.pointer (some ⟨b2, 0, none⟩))), (13, (.bool u6))] 48 a ∧ Sat [] w0 w [(1, k0_0), (2, k0_1), (3, k0_2), (4, k0_3)] [(5, [(b2, .cells #[.slice A0_0 x0.Keys.length p0_0, .slice A0_1 x0.Oram.Pos.length p0_1, .slice A0_2 x0.Oram.Stash.length p0_2, .slice A0_3 x0.Oram.Buckets.length p0_3] 54 (0, 0))])] := ⟨_, rfl⟩
  refine wp_cutq R10 ?_ ?_
  · have H := h8
    apply wp_region_lit
    refine sf ⟨b2, 0, none⟩ rfl hk rfl rfl rfl fd54_0 rfl fun a hk => ?_
    refine sl rfl hk rfl rfl rfl ag22 (box_cell hs (k := 5) rfl rfl) fun a hk => ?_
    refine sle rfl hk rfl rfl rfl un22 fun a hk => ?_
    refine sv (.bool ((x0.Keys.length : Int) != 11)) hk rfl rfl rfl fun a hk => ?_
    refine sm _ rfl hk rfl rfl rfl fun a hk => ?_
    rcases cond_some H with ⟨c11, H⟩ | ⟨c11, H⟩
    · have hk := hk.lit 8 c11 rfl
      refine sk hk rfl rfl rfl fun a hk => ?_
      refine sk hk rfl rfl rfl fun a hk => ?_
      refine sk hk rfl rfl rfl fun a hk => ?_
      refine sk hk rfl rfl rfl fun a hk => ?_
      refine sv (.bool true) hk rfl rfl rfl fun a hk => ?_
      show wpList _ _ _ [] _ _
      refine wpList_nil ?_
      obtain rfl := Option.some.inj H
      show R10 _ _
      rw [hR10]
      exact ⟨true, rfl, (hk.c 1 rfl (hk.c 13 rfl hk.k)), (hs.pick [(5, 5)] rfl)⟩
    · have hk := hk.lit 8 c11 rfl
      refine sf ⟨b2, 1, none⟩ rfl hk rfl rfl rfl fd54_1 rfl fun a hk => ?_
      refine sln [.slice A0_1 x0.Oram.Pos.length p0_1, .slice A0_2 x0.Oram.Stash.length p0_2, .slice A0_3 x0.Oram.Buckets.length p0_3] rfl hk rfl rfl rfl ag31 sz31 (box_part hs (k := 5) rfl rfl) fun a hk => ?_
      obtain ⟨y12, h13, H⟩ := bind_some H
      refine sc rfl en57 hk rfl rfl rfl (spec_OramOK_t _ x0.Oram A0_1 p0_1 _ v0_1 (hs.hasD (k := 2) rfl) A0_2 p0_2 _ v0_2 (hs.hasD (k := 3) rfl) A0_3 p0_3 _ v0_3 (hs.hasD (k := 4) rfl) _ h13) ?_
      rintro _ w ⟨rfl, hG⟩ a hk
      have hs := hs.call0 hG
      refine sv (.bool (!y12)) hk rfl rfl rfl fun a hk => ?_
      refine sv (.bool (!y12)) hk rfl rfl rfl fun a hk => ?_
      show wpList _ _ _ [] _ _
      refine wpList_nil ?_
      obtain rfl := Option.some.inj H
      show R10 _ _
      rw [hR10]
      exact ⟨(!y12), rfl, (hk.c 1 rfl (hk.c 13 rfl hk.k)), (hs.pick [(5, 5)] rfl)⟩
  · intro a w hR0
    rw [hR10] at hR0
    obtain ⟨u6, rfl, hk, hs⟩ := hR0
    have H := HL9
    try dsimp only at H
    refine hK4 _ _ ?_
    rcases cond_some H with ⟨c14, H⟩ | ⟨c14, H⟩
    · have hk := hk.lit 13 c14 rfl
      refine cnd_true hk rfl rfl ?_
      apply wp_seq_k; intro K15 hK15
      apply wp_region_lit
      refine sa _ rfl hk rfl rfl rfl fun a hk => ?_
      show wpList _ _ _ [] _ _
      refine wpList_nil ?_
      refine hK15 _ _ ?_
      refine wp_ret ?_
      obtain rfl := Option.some.inj H
      exact fin hk _ [(.bool false)] rfl ⟨rfl, trivial⟩ ⟨rfl, (hs.pick [] rfl).dnil⟩
    · have hk := hk.lit 13 c14 rfl
      refine cnd_false hk rfl rfl ?_
      refine wp_skip ?_
      refine hK3 _ _ ?_
      apply wp_seq_k; intro K16 hK16
      apply wp_seq_k; intro K17 hK17
      apply wp_region_lit
      refine sa _ rfl hk rfl rfl rfl fun a hk => ?_
      show wpList _ _ _ [] _ _
      refine wpList_nil ?_
      refine hK17 _ _ ?_
      obtain ⟨o21, h22, HL23⟩ := bind_some H
      clear H
      obtain ⟨R24, hR24⟩ : ∃ R : Act → World → Prop, R = fun a w => o21 = .out () ∧ Kn [] 48 a ∧ Sat [] w0 w [(1, k0_0), (2, k0_1), (3, k0_2), (4, k0_3)] [] := ⟨_, rfl⟩
      refine wp_cutq R24 ?_ ?_
      · refine wp_block ?_
        obtain ⟨fu26, h22⟩ := loopO_some h22
        obtain ⟨I25, hI25⟩ : ∃ I : Nat → Act → World → Prop, I = fun fu a w => ∃ (u20 : Int), loopN (fun s => spec_EncOK.s0 x0 s) fu u20 = some o21 ∧ Kn [(1, (.pointer (some ⟨b2, 0, none⟩))), (3, (.int .i64 u20))] 48 a ∧ Sat [] w0 w [(1, k0_0), (2, k0_1), (3, k0_2), (4, k0_3)] [(5, [(b2, .cells #[.slice A0_0 x0.Keys.length p0_0, .slice A0_1 x0.Oram.Pos.length p0_1, .slice A0_2 x0.Oram.Stash.length p0_2, .slice A0_3 x0.Oram.Buckets.length p0_3] 54 (0, 0))])] := ⟨_, rfl⟩
        refine wp_loop_ghost I25 fu26 ?_ ?_
        · rw [hI25]
          exact ⟨0, h22, (hk.c 1 rfl (hk.c 3 rfl hk.k)), (hs.pick [(5, 5)] rfl)⟩
        · clear h22 hk hs
          intro fu26 a w hI0
          rw [hI25] at hI0
          obtain ⟨u20, hi, hk, hs⟩ := hI0
          obtain ⟨x27, H, h28⟩ := loop_round hi
          try dsimp only at H
          unfold spec_EncOK.s0 at H
          apply wp_seq_k; intro K29 hK29
          apply wp_seq_k; intro K30 hK30
          apply wp_region_lit
          refine sm _ rfl hk rfl rfl rfl fun a hk => ?_
          refine sf ⟨b2, 0, none⟩ rfl hk rfl rfl rfl fd54_0 rfl fun a hk => ?_
          refine sl rfl hk rfl rfl rfl ag22 (box_cell hs (k := 5) rfl rfl) fun a hk => ?_
          refine sle rfl hk rfl rfl rfl un22 fun a hk => ?_
          refine sv (.bool (decide (u20 < (x0.Keys.length : Int)))) hk rfl rfl rfl fun a hk => ?_
          show wpList _ _ _ [] _ _
          refine wpList_nil ?_
          refine hK30 _ _ ?_
          rcases cond_some H with ⟨c31, H⟩ | ⟨c31, H⟩
          · have hk := hk.lit 18 c31 rfl
            refine cnd_true hk rfl rfl ?_
            refine wp_skip ?_
            refine hK29 _ _ ?_
            apply wp_seq_k; intro K32 hK32
            refine wp_block ?_
            apply wp_seq_k; intro K33 hK33
            obtain ⟨o36, h37, HL38⟩ := bind_some H
            clear H
            obtain ⟨R39, hR39⟩ : ∃ R : Act → World → Prop, R = fun a w => ∃ (u35 : Bool), u35 = o36 ∧ Kn [(1, (.pointer (some ⟨b2, 0, none⟩))), (3, (.int .i64 u20)), (47, (.bool u35))] 48 a ∧ Sat [] w0 w [(1, k0_0), (2, k0_1), (3, k0_2), (4, k0_3)] [(5, [(b2, .cells #[.slice A0_0 x0.Keys.length p0_0, .slice A0_1 x0.Oram.Pos.length p0_1, .slice A0_2 x0.Oram.Stash.length p0_2, .slice A0_3 x0.Oram.Buckets.length p0_3] 54 (0, 0))])] := ⟨_, rfl⟩
            refine wp_cutq R39 ?_ ?_
            · have H := h37
              refine wp_region_mix [(0, true), (1, true), (2, true), (3, true), (4, true), (5, true), (6, true), (7, true), (8, true), (9, true), (10, true), (11, true), (12, true), (13, true), (14, true), (15, true), (16, true), (17, true), (18, true), (19, true), (20, true), (21, true), (22, true), (23, true), (24, true), (25, true), (26, true)] mo (by kernel_rfl) hs fun _ => ?_
              have hs := hs.drew
              refine qst (.pointer (some ⟨b2, 0, none⟩)) hk rfl rfl rfl rfl (fun w hs => sf ⟨b2, 0, none⟩ rfl hk rfl rfl rfl fd54_0 rfl fun a hk => qe hk) fun a hk => ?_
              refine qst (.slice A0_0 x0.Keys.length p0_0) hk rfl rfl rfl rfl (fun w hs => sl rfl hk rfl rfl rfl ag22 (box_cell hs (k := 5) rfl rfl) fun a hk => qe hk) fun a hk => ?_
              refine qst (.int .i64 u20) hk rfl rfl rfl rfl (fun w hs => sm _ rfl hk rfl rfl rfl fun a hk => qe hk) fun a hk => ?_
              rcases ite_some H with ⟨c40, H⟩ | ⟨_, H⟩
              rotate_left
              · cases H
              obtain ⟨b41, q42, hAc40⟩ := (v0_0).some_ u20 c40.1 c40.2
              refine qst (.pointer (some (padd A0_0 (u20.toNat * 1)))) hk rfl rfl rfl rfl (fun w hs => si rfl hk rfl rfl rfl rfl un22 sz3 c40.1 c40.2 hAc40 fun a hk => qe hk) fun a hk => ?_
              obtain ⟨_, rfl, e43⟩ := (v0_0).at_ 0 u20 c40.1 c40.2
              refine qst (.int .i64 (x0.Keys.getD u20.toNat 0)) hk rfl rfl rfl rfl (fun w hs => sl (v := (.int .i64 (x0.Keys.getD u20.toNat 0))) rfl hk rfl rfl rfl ag3 ((e43 0 _ rfl).cell (hs.hasD (k := 1) rfl)) fun a hk => qe hk) fun a hk => ?_
              obtain ⟨y44, h45, H⟩ := bind_some H
              refine qst (.bool y44) hk rfl rfl rfl rfl (fun w hs => sc rfl en58 hk rfl rfl rfl (spec_l01In_t _ (x0.Keys.getD u20.toNat 0) 0 9999 _ h45) fun _ w hR a hk => qc hR hk) fun a hk => ?_
              refine qst (.bool (!y44)) hk rfl rfl rfl rfl (fun w hs => sv (.bool (!y44)) hk rfl rfl rfl fun a hk => qe hk) fun a hk => ?_
              refine qst (.bool (!y44)) hk rfl rfl rfl rfl (fun w hs => sm _ rfl hk rfl rfl rfl fun a hk => qe hk) fun a hk => ?_
              rcases cond_some H with ⟨c46, H⟩ | ⟨c46, H⟩
              · have hk := hk.lit 28 c46 rfl
                refine qsk hk rfl rfl rfl rfl fun a hk => ?_
                refine qsk hk rfl rfl rfl rfl fun a hk => ?_
                refine qsk hk rfl rfl rfl rfl fun a hk => ?_
                refine qsk hk rfl rfl rfl rfl fun a hk => ?_
                refine qsk hk rfl rfl rfl rfl fun a hk => ?_
                refine qsk hk rfl rfl rfl rfl fun a hk => ?_
                refine qsk hk rfl rfl rfl rfl fun a hk => ?_
                refine qsk hk rfl rfl rfl rfl fun a hk => ?_
                refine qsk hk rfl rfl rfl rfl fun a hk => ?_
                refine qsk hk rfl rfl rfl rfl fun a hk => ?_
                refine qsk hk rfl rfl rfl rfl fun a hk => ?_
                refine qsk hk rfl rfl rfl rfl fun a hk => ?_
                refine qsk hk rfl rfl rfl rfl fun a hk => ?_
                refine qsk hk rfl rfl rfl rfl fun a hk => ?_
                refine qsk hk rfl rfl rfl rfl fun a hk => ?_
                refine qsk hk rfl rfl rfl rfl fun a hk => ?_
                refine qsk hk rfl rfl rfl rfl fun a hk => ?_
                refine qsk hk rfl rfl rfl rfl fun a hk => ?_
                refine qst (.bool true) hk rfl rfl rfl rfl (fun w hs => sv (.bool true) hk rfl rfl rfl fun a hk => qe hk) fun a hk => ?_
                refine wml_nil fun w hF _ => ?_
                have hs := hs.f hF
                obtain rfl := Option.some.inj H
                show R39 _ _
                rw [hR39]
                exact ⟨true, rfl, (hk.c 1 rfl (hk.c 3 rfl (hk.c 47 rfl hk.k))), (hs.pick [(5, 5)] rfl)⟩
              · have hk := hk.lit 28 c46 rfl
                refine qst (.pointer (some ⟨b2, 0, none⟩)) hk rfl rfl rfl rfl (fun w hs => sf ⟨b2, 0, none⟩ rfl hk rfl rfl rfl fd54_0 rfl fun a hk => qe hk) fun a hk => ?_
                refine qst (.slice A0_0 x0.Keys.length p0_0) hk rfl rfl rfl rfl (fun w hs => sl rfl hk rfl rfl rfl ag22 (box_cell hs (k := 5) rfl rfl) fun a hk => qe hk) fun a hk => ?_
                refine qst (.int .i64 u20) hk rfl rfl rfl rfl (fun w hs => sm _ rfl hk rfl rfl rfl fun a hk => qe hk) fun a hk => ?_
                rcases ite_some H with ⟨c47, H⟩ | ⟨_, H⟩
                rotate_left
                · cases H
                obtain ⟨b48, q49, hAc47⟩ := (v0_0).some_ u20 c47.1 c47.2
                refine qst (.pointer (some (padd A0_0 (u20.toNat * 1)))) hk rfl rfl rfl rfl (fun w hs => si rfl hk rfl rfl rfl rfl un22 sz3 c47.1 c47.2 hAc47 fun a hk => qe hk) fun a hk => ?_
                obtain ⟨_, rfl, e50⟩ := (v0_0).at_ 0 u20 c47.1 c47.2
                refine qst (.int .i64 (x0.Keys.getD u20.toNat 0)) hk rfl rfl rfl rfl (fun w hs => sl (v := (.int .i64 (x0.Keys.getD u20.toNat 0))) rfl hk rfl rfl rfl ag3 ((e50 0 _ rfl).cell (hs.hasD (k := 1) rfl)) fun a hk => qe hk) fun a hk => ?_
                refine qst (.bool (decide ((x0.Keys.getD u20.toNat 0) > 0))) hk rfl rfl rfl rfl (fun w hs => sv (.bool (decide ((x0.Keys.getD u20.toNat 0) > 0))) hk rfl rfl rfl fun a hk => qe hk) fun a hk => ?_
                refine qst (.bool (decide ((x0.Keys.getD u20.toNat 0) > 0))) hk rfl rfl rfl rfl (fun w hs => sm _ rfl hk rfl rfl rfl fun a hk => qe hk) fun a hk => ?_
                rcases cond_some H with ⟨c51, H⟩ | ⟨c51, H⟩
                · have hk := hk.lit 35 c51 rfl
                  refine qst (.pointer (some ⟨b2, 0, none⟩)) hk rfl rfl rfl rfl (fun w hs => sf ⟨b2, 0, none⟩ rfl hk rfl rfl rfl fd54_0 rfl fun a hk => qe hk) fun a hk => ?_
                  refine qst (.slice A0_0 x0.Keys.length p0_0) hk rfl rfl rfl rfl (fun w hs => sl rfl hk rfl rfl rfl ag22 (box_cell hs (k := 5) rfl rfl) fun a hk => qe hk) fun a hk => ?_
                  refine qst (.int .i64 u20) hk rfl rfl rfl rfl (fun w hs => sm _ rfl hk rfl rfl rfl fun a hk => qe hk) fun a hk => ?_
                  rcases ite_some H with ⟨c52, H⟩ | ⟨_, H⟩
                  rotate_left
                  · cases H
                  refine qst (.slice (if p0_0 = 0 then A0_0 else (A0_0 : Option Addr).map (·.add (0 * 1))) (u20.toNat - 0) (p0_0 - 0)) hk rfl rfl rfl rfl (fun w hs => sll_h rfl hk rfl rfl rfl rfl un22 sz3 c52.1 (by have := (v0_0).le_cap; omega) fun a hk => qe hk) fun a hk => ?_
                  have v53 : View (Lay.int .i64) (if p0_0 = 0 then A0_0 else (A0_0 : Option Addr).map (·.add (0 * 1))) (p0_0 - 0) (x0.Keys.take u20.toNat) k0_0 := (v0_0).takev u20.toNat (by omega)
                  have lh54 : (x0.Keys.take u20.toNat).length = (u20.toNat - 0) := (by rw [List.length_take]; omega)
                  refine qst (.pointer (some ⟨b2, 0, none⟩)) hk rfl rfl rfl rfl (fun w hs => sf ⟨b2, 0, none⟩ rfl hk rfl rfl rfl fd54_0 rfl fun a hk => qe hk) fun a hk => ?_
                  refine qst (.slice A0_0 x0.Keys.length p0_0) hk rfl rfl rfl rfl (fun w hs => sl rfl hk rfl rfl rfl ag22 (box_cell hs (k := 5) rfl rfl) fun a hk => qe hk) fun a hk => ?_
                  refine qst (.int .i64 u20) hk rfl rfl rfl rfl (fun w hs => sm _ rfl hk rfl rfl rfl fun a hk => qe hk) fun a hk => ?_
                  rcases ite_some H with ⟨c55, H⟩ | ⟨_, H⟩
                  rotate_left
                  · cases H
                  obtain ⟨b56, q57, hAc55⟩ := (v0_0).some_ u20 c55.1 c55.2
                  refine qst (.pointer (some (padd A0_0 (u20.toNat * 1)))) hk rfl rfl rfl rfl (fun w hs => si rfl hk rfl rfl rfl rfl un22 sz3 c55.1 c55.2 hAc55 fun a hk => qe hk) fun a hk => ?_
                  obtain ⟨_, rfl, e58⟩ := (v0_0).at_ 0 u20 c55.1 c55.2
                  refine qst (.int .i64 (x0.Keys.getD u20.toNat 0)) hk rfl rfl rfl rfl (fun w hs => sl (v := (.int .i64 (x0.Keys.getD u20.toNat 0))) rfl hk rfl rfl rfl ag3 ((e58 0 _ rfl).cell (hs.hasD (k := 1) rfl)) fun a hk => qe hk) fun a hk => ?_
                  have hk := hk.re 39 (v' := (.slice (if p0_0 = 0 then A0_0 else (A0_0 : Option Addr).map (·.add (0 * 1))) (x0.Keys.take u20.toNat).length (p0_0 - 0))) rfl (by rw [lh54])
                  obtain ⟨y59, h60, H⟩ := bind_some H
                  refine qst (.bool y59) hk rfl rfl rfl rfl (fun w hs => sc rfl en147 hk rfl rfl rfl (spec_l08In_t _ (if p0_0 = 0 then A0_0 else (A0_0 : Option Addr).map (·.add (0 * 1))) (p0_0 - 0) (x0.Keys.take u20.toNat) _ v53 (hs.hasD (k := 1) rfl) (x0.Keys.getD u20.toNat 0) _ h60) fun _ w hR a hk => qc hR hk) fun a hk => ?_
                  refine qst (.bool y59) hk rfl rfl rfl rfl (fun w hs => sv (.bool y59) hk rfl rfl rfl fun a hk => qe hk) fun a hk => ?_
                  refine qst (.bool y59) hk rfl rfl rfl rfl (fun w hs => sv (.bool y59) hk rfl rfl rfl fun a hk => qe hk) fun a hk => ?_
                  refine wml_nil fun w hF _ => ?_
                  have hs := hs.f hF
                  obtain rfl := Option.some.inj H
                  show R39 _ _
                  rw [hR39]
                  exact ⟨y59, rfl, (hk.c 1 rfl (hk.c 3 rfl (hk.c 47 rfl hk.k))), (hs.pick [(5, 5)] rfl)⟩
                · have hk := hk.lit 35 c51 rfl
                  refine qsk hk rfl rfl rfl rfl fun a hk => ?_
                  refine qsk hk rfl rfl rfl rfl fun a hk => ?_
                  refine qsk hk rfl rfl rfl rfl fun a hk => ?_
                  refine qsk hk rfl rfl rfl rfl fun a hk => ?_
                  refine qsk hk rfl rfl rfl rfl fun a hk => ?_
                  refine qsk hk rfl rfl rfl rfl fun a hk => ?_
                  refine qsk hk rfl rfl rfl rfl fun a hk => ?_
                  refine qsk hk rfl rfl rfl rfl fun a hk => ?_
                  refine qsk hk rfl rfl rfl rfl fun a hk => ?_
                  refine qsk hk rfl rfl rfl rfl fun a hk => ?_
                  refine qst (.bool false) hk rfl rfl rfl rfl (fun w hs => sv (.bool false) hk rfl rfl rfl fun a hk => qe hk) fun a hk => ?_
                  refine qst (.bool false) hk rfl rfl rfl rfl (fun w hs => sv (.bool false) hk rfl rfl rfl fun a hk => qe hk) fun a hk => ?_
                  refine wml_nil fun w hF _ => ?_
                  have hs := hs.f hF
                  obtain rfl := Option.some.inj H
                  show R39 _ _
                  rw [hR39]
                  exact ⟨false, rfl, (hk.c 1 rfl (hk.c 3 rfl (hk.c 47 rfl hk.k))), (hs.pick [(5, 5)] rfl)⟩
            · intro a w hR0
              rw [hR39] at hR0
              obtain ⟨u35, rfl, hk, hs⟩ := hR0
              have H := HL38
              try dsimp only at H
              refine hK33 _ _ ?_
              rcases cond_some H with ⟨c61, H⟩ | ⟨c61, H⟩
              · have hk := hk.lit 47 c61 rfl
                refine cnd_true hk rfl rfl ?_
                apply wp_seq_k; intro K62 hK62
                apply wp_region_lit
                refine sa _ rfl hk rfl rfl rfl fun a hk => ?_
                show wpList _ _ _ [] _ _
                refine wpList_nil ?_
                refine hK62 _ _ ?_
                refine wp_ret ?_
                obtain rfl := Option.some.inj H
                have ho21 := h28
                try dsimp only at ho21
                subst ho21
                have H := HL23
                try dsimp only at H
                obtain rfl := Option.some.inj H
                exact fin hk _ [(.bool false)] rfl ⟨rfl, trivial⟩ ⟨rfl, (hs.pick [] rfl).dnil⟩
              · have hk := hk.lit 47 c61 rfl
                refine cnd_false hk rfl rfl ?_
                refine wp_skip ?_
                refine hK32 _ _ ?_
                apply wp_region_lit
                refine sm _ rfl hk rfl rfl rfl fun a hk => ?_
                refine sv (.int .i64 (w64 (u20 + 1))) hk rfl rfl rfl fun a hk => ?_
                refine sa _ rfl hk rfl rfl rfl fun a hk => ?_
                show wpList _ _ _ [] _ _
                refine wpList_nil ?_
                obtain rfl := Option.some.inj H
                obtain ⟨m63, hmm63, h28⟩ := h28
                show ∃ n', n' < _ ∧ I25 n' _ _
                refine ⟨m63, hmm63, ?_⟩
                rw [hI25]
                exact ⟨(w64 (u20 + 1)), h28, (hk.c 1 rfl (hk.c 3 rfl hk.k)), (hs.pick [(5, 5)] rfl)⟩
          · have hk := hk.lit 18 c31 rfl
            refine cnd_false hk rfl rfl ?_
            refine wp_exit ?_
            obtain rfl := Option.some.inj H
            show R24 _ _
            rw [hR24]
            exact ⟨h28.symm, hk.k, (hs.pick [] rfl)⟩
      · intro a w hR0
        rw [hR24] at hR0
        obtain ⟨rfl, hk, hs⟩ := hR0
        have H := HL23
        try dsimp only at H
        refine hK16 _ _ ?_
        apply wp_seq_k; intro K64 hK64
        apply wp_region_lit
        refine sa _ rfl hk rfl rfl rfl fun a hk => ?_
        show wpList _ _ _ [] _ _
        refine wpList_nil ?_
        refine hK64 _ _ ?_
        refine wp_ret ?_
        obtain rfl := Option.some.inj H
        exact fin hk _ [(.bool true)] rfl ⟨rfl, trivial⟩ ⟨rfl, (hs.pick [] rfl).dnil⟩

noncomputable def spec_l10Put.s0 (l0 : List S_Entry) (x1 : Int) (u6 : Int) : Option ((Int) ⊕ Ex (Int) ((List S_Entry))) :=
  (((bif (decide (u6 < (l0.length : Int))) then (if 0 ≤ u6 ∧ u6 < (l0.length : Int) then (some (decide (((l0.getD u6.toNat z_Entry).Key) < x1))) else none) else (some false)) : Option (Bool)).bind fun u19 => (bif u19 then (some (.inl (w64 (u6 + 1)))) else (some (.inr (.out u6)))))
noncomputable def spec_l10Put.f (l0 : List S_Entry) (x1 : Int) (x2 : Int) : Option ((List S_Entry)) :=
  ((loopO (fun s => spec_l10Put.s0 l0 x1 s) 0).bind fun o => match o with | .out u7 => (if 0 ≤ u7 ∧ u7 ≤ (l0.length : Int) then (((bif (decide (u7 < (l0.length : Int))) then (if 0 ≤ u7 ∧ u7 < (l0.length : Int) then (some (((l0.getD u7.toNat z_Entry).Key) == x1)) else none) else (some false)) : Option (Bool)).bind fun u38 => (((bif u38 then (if 0 ≤ (w64 (u7 + 1)) ∧ (w64 (u7 + 1)) ≤ (l0.length : Int) then (some (l0.drop (w64 (u7 + 1)).toNat)) else none) else (some (l0.drop u7.toNat))) : Option ((List S_Entry))).bind fun u49 => (if 0 ≤ u7 ∧ u7 ≤ (l0.length : Int) then (if ([] : List S_Entry).length + (l0.take u7.toNat).length ≤ 1073741824 then (if (([] : List S_Entry) ++ (l0.take u7.toNat)).length + ([(⟨x1, x2⟩ : S_Entry)]).length ≤ 1073741824 then (if ((([] : List S_Entry) ++ (l0.take u7.toNat)) ++ ([(⟨x1, x2⟩ : S_Entry)])).length + u49.length ≤ 1073741824 then (some (((([] : List S_Entry) ++ (l0.take u7.toNat)) ++ ([(⟨x1, x2⟩ : S_Entry)])) ++ u49)) else none) else none) else none) else none))) else none) | .ret r => (some r))
set_option maxRecDepth 100000 in
set_option maxHeartbeats 0 in
theorem spec_l10Put_t (w0 : World) (A0_ : Option Addr) (p0_ : Nat) (l0 : List S_Entry) (k0_ : Chunk) (v0_ : View L_Entry A0_ p0_ l0 k0_) (w0_ : Has w0 k0_) (x1 : Int) (x2 : Int) (r : (List S_Entry)) (H : spec_l10Put.f l0 x1 x2 = some r) :
    Calls Try.prog 148 #[.slice A0_ l0.length p0_, .int .i64 x1, .int .i64 x2] w0 (Ret (fun v w => ∃ (A0 : Option Addr) (p0 : Nat) (k0 : Chunk), v = .slice A0 r.length p0 ∧ Own L_Entry 116 A0 p0 r k0 ∧ Sat [] w0 w [] [(0, k0)])) := by
  have hs : Sat [] w0 w0 [(1, k0_)] [] := Sat.init w0 [(1, k0_)] [] (by simp only [List.mem_cons, List.not_mem_nil, or_false]; rintro x (rfl) <;> assumption) (by simp) List.nodup_nil (by simp [blks])
  unfold spec_l10Put.f at H
  refine enter Try.func148 rfl Try.ntmps148 rfl fun a hk => ?_
  apply wp_seq_k; intro K1 hK1
  apply wp_region_lit
  refine sa _ rfl hk rfl rfl rfl fun a hk => ?_
  show wpList _ _ _ [] _ _
  refine wpList_nil ?_
  refine hK1 _ _ ?_
  apply wp_seq_k; intro K2 hK2
  apply wp_region_lit
  refine sa _ rfl hk rfl rfl rfl fun a hk => ?_
  show wpList _ _ _ [] _ _
  refine wpList_nil ?_
  refine hK2 _ _ ?_
  apply wp_seq_k; intro K3 hK3
  obtain ⟨o8, h9, HL10⟩ := bind_some H
  clear H
  obtain ⟨R11, hR11⟩ : ∃ R : Act → World → Prop, R = fun a w => ∃ (u7 : Int), o8 = .out u7 ∧ Kn [(0, (.slice A0_ l0.length p0_)), (1, (.int .i64 x1)), (2, (.int .i64 x2)), (7, (.int .i64 u7))] 56 a ∧ Sat [] w0 w [(1, k0_)] [] := ⟨_, rfl⟩
  refine wp_cutq R11 ?_ ?_
  · refine wp_block ?_
    obtain ⟨fu13, h9⟩ := loopO_some h9
    obtain ⟨I12, hI12⟩ : ∃ I : Nat → Act → World → Prop, I = fun fu a w => ∃ (u6 : Int), loopN (fun s => spec_l10Put.s0 l0 x1 s) fu u6 = some o8 ∧ Kn [(0, (.slice A0_ l0.length p0_)), (1, (.int .i64 x1)), (2, (.int .i64 x2)), (7, (.int .i64 u6))] 56 a ∧ Sat [] w0 w [(1, k0_)] [] := ⟨_, rfl⟩
    refine wp_loop_ghost I12 fu13 ?_ ?_
    · rw [hI12]
      exact ⟨0, h9, (hk.c 0 rfl (hk.c 1 rfl (hk.c 2 rfl (hk.c 7 rfl hk.k)))), (hs.pick [] rfl)⟩
    · clear h9 hk hs
      intro fu13 a w hI0
      rw [hI12] at hI0
      obtain ⟨u6, hi, hk, hs⟩ := hI0
      obtain ⟨x14, H, h15⟩ := loop_round hi
      try dsimp only at H
      unfold spec_l10Put.s0 at H
      apply wp_seq_k; intro K16 hK16
      apply wp_seq_k; intro K17 hK17
      obtain ⟨o20, h21, HL22⟩ := bind_some H
      clear H
      obtain ⟨R23, hR23⟩ : ∃ R : Act → World → Prop, R = fun a w => ∃ (u19 : Bool), u19 = o20 ∧ Kn [(0, (.slice A0_ l0.length p0_)), (1, (.int .i64 x1)), (2, (.int .i64 x2)), (7, (.int .i64 u6)), (21, (.bool u19))] 56 a ∧ Sat [] w0 w [(1, k0_)] [] := ⟨_, rfl⟩
      refine wp_cutq R23 ?_ ?_
      · have H := h21
        apply wp_region_lit
        refine sm _ rfl hk rfl rfl rfl fun a hk => ?_
        refine sm _ rfl hk rfl rfl rfl fun a hk => ?_
        refine sle rfl hk rfl rfl rfl un50 fun a hk => ?_
        refine sv (.bool (decide (u6 < (l0.length : Int)))) hk rfl rfl rfl fun a hk => ?_
        refine sm _ rfl hk rfl rfl rfl fun a hk => ?_
        rcases cond_some H with ⟨c24, H⟩ | ⟨c24, H⟩
        · have hk := hk.lit 13 c24 rfl
          refine sm _ rfl hk rfl rfl rfl fun a hk => ?_
          refine sm _ rfl hk rfl rfl rfl fun a hk => ?_
          rcases ite_some H with ⟨c25, H⟩ | ⟨_, H⟩
          rotate_left
          · cases H
          obtain ⟨b26, q27, hAc25⟩ := (v0_).some_ u6 c25.1 c25.2
          refine si rfl hk rfl rfl rfl rfl un50 sz116 c25.1 c25.2 hAc25 fun a hk => ?_
          refine sf (padd A0_ (u6.toNat * 2 + 0)) rfl hk rfl rfl rfl fd116_0 (padd_add _ _ _) fun a hk => ?_
          obtain ⟨_, rfl, e28⟩ := (v0_).at_ z_Entry u6 c25.1 c25.2
          refine sl (v := (.int .i64 ((l0.getD u6.toNat z_Entry).Key))) rfl hk rfl rfl rfl ag3 ((e28 0 _ rfl).cell (hs.hasD (k := 1) rfl)) fun a hk => ?_
          refine sm _ rfl hk rfl rfl rfl fun a hk => ?_
          refine sv (.bool (decide (((l0.getD u6.toNat z_Entry).Key) < x1))) hk rfl rfl rfl fun a hk => ?_
          refine sv (.bool (decide (((l0.getD u6.toNat z_Entry).Key) < x1))) hk rfl rfl rfl fun a hk => ?_
          show wpList _ _ _ [] _ _
          refine wpList_nil ?_
          obtain rfl := Option.some.inj H
          show R23 _ _
          rw [hR23]
          exact ⟨(decide (((l0.getD u6.toNat z_Entry).Key) < x1)), rfl, (hk.c 0 rfl (hk.c 1 rfl (hk.c 2 rfl (hk.c 7 rfl (hk.c 21 rfl hk.k))))), (hs.pick [] rfl)⟩
        · have hk := hk.lit 13 c24 rfl
          refine sk hk rfl rfl rfl fun a hk => ?_
          refine sk hk rfl rfl rfl fun a hk => ?_
          refine sk hk rfl rfl rfl fun a hk => ?_
          refine sk hk rfl rfl rfl fun a hk => ?_
          refine sk hk rfl rfl rfl fun a hk => ?_
          refine sk hk rfl rfl rfl fun a hk => ?_
          refine sk hk rfl rfl rfl fun a hk => ?_
          refine sv (.bool false) hk rfl rfl rfl fun a hk => ?_
          show wpList _ _ _ [] _ _
          refine wpList_nil ?_
          obtain rfl := Option.some.inj H
          show R23 _ _
          rw [hR23]
          exact ⟨false, rfl, (hk.c 0 rfl (hk.c 1 rfl (hk.c 2 rfl (hk.c 7 rfl (hk.c 21 rfl hk.k))))), (hs.pick [] rfl)⟩
      · intro a w hR0
        rw [hR23] at hR0
        obtain ⟨u19, rfl, hk, hs⟩ := hR0
        have H := HL22
        try dsimp only at H
        refine hK17 _ _ ?_
        rcases cond_some H with ⟨c29, H⟩ | ⟨c29, H⟩
        · have hk := hk.lit 21 c29 rfl
          refine cnd_true hk rfl rfl ?_
          refine wp_skip ?_
          refine hK16 _ _ ?_
          refine wp_block ?_
          apply wp_region_lit
          refine sm _ rfl hk rfl rfl rfl fun a hk => ?_
          refine sv (.int .i64 (w64 (u6 + 1))) hk rfl rfl rfl fun a hk => ?_
          refine sa _ rfl hk rfl rfl rfl fun a hk => ?_
          show wpList _ _ _ [] _ _
          refine wpList_nil ?_
          obtain rfl := Option.some.inj H
          obtain ⟨m30, hmm30, h15⟩ := h15
          show ∃ n', n' < _ ∧ I12 n' _ _
          refine ⟨m30, hmm30, ?_⟩
          rw [hI12]
          exact ⟨(w64 (u6 + 1)), h15, (hk.c 0 rfl (hk.c 1 rfl (hk.c 2 rfl (hk.c 7 rfl hk.k)))), (hs.pick [] rfl)⟩
        · have hk := hk.lit 21 c29 rfl
          refine cnd_false hk rfl rfl ?_
          refine wp_exit ?_
          obtain rfl := Option.some.inj H
          show R11 _ _
          rw [hR11]
          exact ⟨u6, h15.symm, (hk.c 0 rfl (hk.c 1 rfl (hk.c 2 rfl (hk.c 7 rfl hk.k)))), (hs.pick [] rfl)⟩
  · intro a w hR0
    rw [hR11] at hR0
    obtain ⟨u7, rfl, hk, hs⟩ := hR0
    have H := HL10
    try dsimp only at H
    refine hK3 _ _ ?_
    apply wp_seq_k; intro K31 hK31
    apply wp_region_lit
    refine sm _ rfl hk rfl rfl rfl fun a hk => ?_
    refine sm _ rfl hk rfl rfl rfl fun a hk => ?_
    rcases ite_some H with ⟨c32, H⟩ | ⟨_, H⟩
    rotate_left
    · cases H
    refine sll_l rfl hk rfl rfl rfl rfl un50 sz116 c32.1 c32.2 fun a hk => ?_
    have v33 : View L_Entry (if p0_ = u7.toNat then A0_ else (A0_ : Option Addr).map (·.add (u7.toNat * 2))) (p0_ - u7.toNat) (l0.drop u7.toNat) k0_ := (v0_).dropv u7.toNat (by omega)
    have lh34 : (l0.drop u7.toNat).length = (l0.length - u7.toNat) := (by rw [List.length_drop])
    refine sa _ rfl hk rfl rfl rfl fun a hk => ?_
    show wpList _ _ _ [] _ _
    refine wpList_nil ?_
    refine hK31 _ _ ?_
    apply wp_seq_k; intro K35 hK35
    apply wp_seq_k; intro K36 hK36
    obtain ⟨o39, h40, HL41⟩ := bind_some H
    clear H
    obtain ⟨R42, hR42⟩ : ∃ R : Act → World → Prop, R = fun a w => ∃ (u38 : Bool), u38 = o39 ∧ Kn [(0, (.slice A0_ l0.length p0_)), (1, (.int .i64 x1)), (2, (.int .i64 x2)), (7, (.int .i64 u7)), (8, (.slice (if p0_ = u7.toNat then A0_ else (A0_ : Option Addr).map (·.add (u7.toNat * 2))) (l0.length - u7.toNat) (p0_ - u7.toNat))), (39, (.bool u38))] 56 a ∧ Sat [] w0 w [(1, k0_)] [] := ⟨_, rfl⟩
    refine wp_cutq R42 ?_ ?_
    · have H := h40
      apply wp_region_lit
      refine sm _ rfl hk rfl rfl rfl fun a hk => ?_
      refine sm _ rfl hk rfl rfl rfl fun a hk => ?_
      refine sle rfl hk rfl rfl rfl un50 fun a hk => ?_
      refine sv (.bool (decide (u7 < (l0.length : Int)))) hk rfl rfl rfl fun a hk => ?_
      refine sm _ rfl hk rfl rfl rfl fun a hk => ?_
      rcases cond_some H with ⟨c43, H⟩ | ⟨c43, H⟩
      · have hk := hk.lit 31 c43 rfl
        refine sm _ rfl hk rfl rfl rfl fun a hk => ?_
        refine sm _ rfl hk rfl rfl rfl fun a hk => ?_
        rcases ite_some H with ⟨c44, H⟩ | ⟨_, H⟩
        rotate_left
        · cases H
        obtain ⟨b45, q46, hAc44⟩ := (v0_).some_ u7 c44.1 c44.2
        refine si rfl hk rfl rfl rfl rfl un50 sz116 c44.1 c44.2 hAc44 fun a hk => ?_
        refine sf (padd A0_ (u7.toNat * 2 + 0)) rfl hk rfl rfl rfl fd116_0 (padd_add _ _ _) fun a hk => ?_
        obtain ⟨_, rfl, e47⟩ := (v0_).at_ z_Entry u7 c44.1 c44.2
        refine sl (v := (.int .i64 ((l0.getD u7.toNat z_Entry).Key))) rfl hk rfl rfl rfl ag3 ((e47 0 _ rfl).cell (hs.hasD (k := 1) rfl)) fun a hk => ?_
        refine sm _ rfl hk rfl rfl rfl fun a hk => ?_
        refine sv (.bool (((l0.getD u7.toNat z_Entry).Key) == x1)) hk rfl rfl rfl fun a hk => ?_
        refine sv (.bool (((l0.getD u7.toNat z_Entry).Key) == x1)) hk rfl rfl rfl fun a hk => ?_
        show wpList _ _ _ [] _ _
        refine wpList_nil ?_
        obtain rfl := Option.some.inj H
        show R42 _ _
        rw [hR42]
        exact ⟨(((l0.getD u7.toNat z_Entry).Key) == x1), rfl, (hk.c 0 rfl (hk.c 1 rfl (hk.c 2 rfl (hk.c 7 rfl (hk.c 8 rfl (hk.c 39 rfl hk.k)))))), (hs.pick [] rfl)⟩
      · have hk := hk.lit 31 c43 rfl
        refine sk hk rfl rfl rfl fun a hk => ?_
        refine sk hk rfl rfl rfl fun a hk => ?_
        refine sk hk rfl rfl rfl fun a hk => ?_
        refine sk hk rfl rfl rfl fun a hk => ?_
        refine sk hk rfl rfl rfl fun a hk => ?_
        refine sk hk rfl rfl rfl fun a hk => ?_
        refine sk hk rfl rfl rfl fun a hk => ?_
        refine sv (.bool false) hk rfl rfl rfl fun a hk => ?_
        show wpList _ _ _ [] _ _
        refine wpList_nil ?_
        obtain rfl := Option.some.inj H
        show R42 _ _
        rw [hR42]
        exact ⟨false, rfl, (hk.c 0 rfl (hk.c 1 rfl (hk.c 2 rfl (hk.c 7 rfl (hk.c 8 rfl (hk.c 39 rfl hk.k)))))), (hs.pick [] rfl)⟩
    · intro a w hR0
      rw [hR42] at hR0
      obtain ⟨u38, rfl, hk, hs⟩ := hR0
      have H := HL41
      try dsimp only at H
      refine hK36 _ _ ?_
      obtain ⟨o53, h54, HL55⟩ := bind_some H
      clear H
      obtain ⟨R56, hR56⟩ : ∃ R : Act → World → Prop, R = fun a w => ∃ (u49 : List S_Entry) (A50 : Option Addr) (p51 : Nat), u49 = o53 ∧ Kn [(0, (.slice A0_ l0.length p0_)), (1, (.int .i64 x1)), (2, (.int .i64 x2)), (7, (.int .i64 u7)), (8, (.slice A50 u49.length p51))] 56 a ∧ Sat [] w0 w [(1, k0_)] [] ∧ View L_Entry A50 p51 u49 k0_ := ⟨_, rfl⟩
      refine wp_cutq R56 ?_ ?_
      · have H := h54
        rcases cond_some H with ⟨c57, H⟩ | ⟨c57, H⟩
        · have hk := hk.lit 39 c57 rfl
          refine cnd_true hk rfl rfl ?_
          apply wp_region_lit
          refine sm _ rfl hk rfl rfl rfl fun a hk => ?_
          refine sm _ rfl hk rfl rfl rfl fun a hk => ?_
          refine sv (.int .i64 (w64 (u7 + 1))) hk rfl rfl rfl fun a hk => ?_
          rcases ite_some H with ⟨c58, H⟩ | ⟨_, H⟩
          rotate_left
          · cases H
          refine sll_l rfl hk rfl rfl rfl rfl un50 sz116 c58.1 c58.2 fun a hk => ?_
          have v59 : View L_Entry (if p0_ = (w64 (u7 + 1)).toNat then A0_ else (A0_ : Option Addr).map (·.add ((w64 (u7 + 1)).toNat * 2))) (p0_ - (w64 (u7 + 1)).toNat) (l0.drop (w64 (u7 + 1)).toNat) k0_ := (v0_).dropv (w64 (u7 + 1)).toNat (by omega)
          have lh60 : (l0.drop (w64 (u7 + 1)).toNat).length = (l0.length - (w64 (u7 + 1)).toNat) := (by rw [List.length_drop])
          refine sa _ rfl hk rfl rfl rfl fun a hk => ?_
          show wpList _ _ _ [] _ _
          refine wpList_nil ?_
          obtain rfl := Option.some.inj H
          show R56 _ _
          rw [hR56]
          exact ⟨(l0.drop (w64 (u7 + 1)).toNat), (if p0_ = (w64 (u7 + 1)).toNat then A0_ else (A0_ : Option Addr).map (·.add ((w64 (u7 + 1)).toNat * 2))), (p0_ - (w64 (u7 + 1)).toNat), rfl, (hk.c 0 rfl (hk.c 1 rfl (hk.c 2 rfl (hk.c 7 rfl (hk.cl 8 rfl (by rw [lh60]) hk.k))))), (hs.pick [] rfl), v59⟩
        · have hk := hk.lit 39 c57 rfl
          refine cnd_false hk rfl rfl ?_
          refine wp_skip ?_
          obtain rfl := Option.some.inj H
          show R56 _ _
          rw [hR56]
          exact ⟨(l0.drop u7.toNat), (if p0_ = u7.toNat then A0_ else (A0_ : Option Addr).map (·.add (u7.toNat * 2))), (p0_ - u7.toNat), rfl, (hk.c 0 rfl (hk.c 1 rfl (hk.c 2 rfl (hk.c 7 rfl (hk.cl 8 rfl (by rw [lh34]) hk.k))))), (hs.pick [] rfl), v33⟩
      · intro a w hR0
        rw [hR56] at hR0
        obtain ⟨u49, A50, p51, rfl, hk, hs, v52⟩ := hR0
        have H := HL55
        try dsimp only at H
        refine hK35 _ _ ?_
        apply wp_seq_k; intro K61 hK61
        apply wp_region_lit
        refine sbs0 6 L_Entry hs rfl hk rfl rfl un50 sz116 fun b62 k63 w a hk o64 hs => ?_
        refine sm _ rfl hk rfl rfl rfl fun a hk => ?_
        refine sm _ rfl hk rfl rfl rfl fun a hk => ?_
        rcases ite_some H with ⟨c65, H⟩ | ⟨_, H⟩
        rotate_left
        · cases H
        refine sll_h rfl hk rfl rfl rfl rfl un50 sz116 c65.1 (by have := (v0_).le_cap; omega) fun a hk => ?_
        have v66 : View L_Entry (if p0_ = 0 then A0_ else (A0_ : Option Addr).map (·.add (0 * 2))) (p0_ - 0) (l0.take u7.toNat) k0_ := (v0_).takev u7.toNat (by omega)
        have lh67 : (l0.take u7.toNat).length = (u7.toNat - 0) := (by rw [List.length_take]; omega)
        rcases ite_some H with ⟨c68, H⟩ | ⟨_, H⟩
        rotate_left
        · cases H
        refine sap 6 (xs := ([] : List S_Entry)) (ys := (l0.take u7.toNat)) (flat_flat : (L_Entry).Flat) hs rfl o64 v66 (hs.hasD (k := 1) rfl) rfl hk rfl rfl rfl rfl lh67.symm rfl un50 mk116 rfl rfl rfl c68 fun A69 p70 k71 w a hk o72 hs => ?_
        refine sm _ rfl hk rfl rfl rfl fun a hk => ?_
        refine sm _ rfl hk rfl rfl rfl fun a hk => ?_
        refine sbd (pv := [(0, (.int .i64 x1)), (1, (.int .i64 x2))]) rfl hk rfl rfl rfl (bd116_1 x1 x2) fun a hk => ?_
        refine sbs (L := L_Entry) (pv := [(0, (.agg #[.int .i64 x1, .int .i64 x2]))]) (xs := [(⟨x1, x2⟩ : S_Entry)]) (ess := [[.int .i64 x1, .int .i64 x2]]) 7 hs rfl hk rfl rfl rfl un50 (bs116_2 x1 x2) (AllOwn.cons0 ⟨rfl, rfl⟩ AllOwn.nil) rfl rfl rfl fun b73 k74 w a hk o75 hs => ?_
        rcases ite_some H with ⟨c76, H⟩ | ⟨_, H⟩
        rotate_left
        · cases H
        refine sap 6 (xs := (([] : List S_Entry) ++ (l0.take u7.toNat))) (ys := [(⟨x1, x2⟩ : S_Entry)]) (flat_flat : (L_Entry).Flat) hs rfl o72 o75.view (hs.hasG (k := 7) rfl) rfl hk rfl rfl rfl rfl rfl rfl un50 mk116 rfl rfl rfl c76 fun A77 p78 k79 w a hk o80 hs => ?_
        refine sm _ rfl hk rfl rfl rfl fun a hk => ?_
        rcases ite_some H with ⟨c81, H⟩ | ⟨_, H⟩
        rotate_left
        · cases H
        refine sap 6 (xs := ((([] : List S_Entry) ++ (l0.take u7.toNat)) ++ ([(⟨x1, x2⟩ : S_Entry)]))) (ys := u49) (flat_flat : (L_Entry).Flat) hs rfl o80 v52 (hs.hasD (k := 1) rfl) rfl hk rfl rfl rfl rfl rfl rfl un50 mk116 rfl rfl rfl c81 fun A82 p83 k84 w a hk o85 hs => ?_
        refine sa _ rfl hk rfl rfl rfl fun a hk => ?_
        show wpList _ _ _ [] _ _
        refine wpList_nil ?_
        refine hK61 _ _ ?_
        refine wp_ret ?_
        obtain rfl := Option.some.inj H
        exact fin hk _ [(.slice A82 (((([] : List S_Entry) ++ (l0.take u7.toNat)) ++ ([(⟨x1, x2⟩ : S_Entry)])) ++ u49).length p83)] rfl ⟨rfl, trivial⟩ ⟨A82, p83, _, rfl, o85, (hs.pick [(0, 6)] rfl).dnil⟩

noncomputable def spec_l08Value.s0 (x0 : S_Oram) (x1 : Int) (u7 : Int) : Option ((Int) ⊕ Ex (Unit) (Int)) :=
  (bif (decide (u7 < (x0.Stash.length : Int))) then (if 0 ≤ u7 ∧ u7 < (x0.Stash.length : Int) then (bif (((x0.Stash.getD u7.toNat z_Block).Id) == x1) then (if 0 ≤ u7 ∧ u7 < (x0.Stash.length : Int) then (some (.inr (.ret ((x0.Stash.getD u7.toNat z_Block).Value)))) else none) else (some (.inl (w64 (u7 + 1))))) else none) else (some (.inr (.out ()))))
noncomputable def spec_l08Value.s2 (x0 : S_Oram) (x1 : Int) (u36 : Int) (u52 : Int) : Option ((Int) ⊕ Ex (Unit) (Int)) :=
  (if 0 ≤ u36 ∧ u36 < (x0.Buckets.length : Int) then (bif (decide (u52 < ((x0.Buckets.getD u36.toNat []).length : Int))) then (if 0 ≤ u36 ∧ u36 < (x0.Buckets.length : Int) then (if 0 ≤ u52 ∧ u52 < ((x0.Buckets.getD u36.toNat []).length : Int) then (bif ((((x0.Buckets.getD u36.toNat []).getD u52.toNat z_Block).Id) == x1) then (if 0 ≤ u36 ∧ u36 < (x0.Buckets.length : Int) then (if 0 ≤ u52 ∧ u52 < ((x0.Buckets.getD u36.toNat []).length : Int) then (some (.inr (.ret (((x0.Buckets.getD u36.toNat []).getD u52.toNat z_Block).Value)))) else none) else none) else (some (.inl (w64 (u52 + 1))))) else none) else none) else (some (.inr (.out ())))) else none)
noncomputable def spec_l08Value.s1 (x0 : S_Oram) (x1 : Int) (u36 : Int) : Option ((Int) ⊕ Ex (Unit) (Int)) :=
  (bif (decide (u36 < (x0.Buckets.length : Int))) then ((loopO (fun s => spec_l08Value.s2 x0 x1 u36 s) 0).bind fun o => match o with | .out _ => (some (.inl (w64 (u36 + 1)))) | .ret r => (some (.inr (.ret r)))) else (some (.inr (.out ()))))
noncomputable def spec_l08Value.f (x0 : S_Oram) (x1 : Int) : Option (Int) :=
  ((loopO (fun s => spec_l08Value.s0 x0 x1 s) 0).bind fun o => match o with | .out _ => ((loopO (fun s => spec_l08Value.s1 x0 x1 s) 0).bind fun o => match o with | .out _ => (some 0) | .ret r => (some r)) | .ret r => (some r))
set_option maxRecDepth 100000 in
set_option maxHeartbeats 0 in
theorem spec_l08Value_t (w0 : World) (x0 : S_Oram) (A0_0 : Option Addr) (p0_0 : Nat) (k0_0 : Chunk) (v0_0 : View (Lay.int .i64) A0_0 p0_0 x0.Pos k0_0) (w0_0 : Has w0 k0_0) (A0_1 : Option Addr) (p0_1 : Nat) (k0_1 : Chunk) (v0_1 : View L_Block A0_1 p0_1 x0.Stash k0_1) (w0_1 : Has w0 k0_1) (A0_2 : Option Addr) (p0_2 : Nat) (k0_2 : Chunk) (v0_2 : View (Lay.sl L_Block 102) A0_2 p0_2 x0.Buckets k0_2) (w0_2 : Has w0 k0_2) (x1 : Int) (r : Int) (H : spec_l08Value.f x0 x1 = some r) :
    Calls Try.prog 149 #[.agg #[.slice A0_0 x0.Pos.length p0_0, .slice A0_1 x0.Stash.length p0_1, .slice A0_2 x0.Buckets.length p0_2], .int .i64 x1] w0 (Ret (fun v w => v = .int .i64 r ∧ Sat [] w0 w [] [])) := by
  have hs : Sat [] w0 w0 [(1, k0_0), (2, k0_1), (3, k0_2)] [] := Sat.init w0 [(1, k0_0), (2, k0_1), (3, k0_2)] [] (by simp only [List.mem_cons, List.not_mem_nil, or_false]; rintro x (rfl | rfl | rfl) <;> assumption) (by simp) List.nodup_nil (by simp [blks])
  unfold spec_l08Value.f at H
  refine enter Try.func149 rfl Try.ntmps149 rfl fun a hk => ?_
  apply wp_seq_k; intro K1 hK1
  apply wp_region_lit
  refine sbx 4 hs rfl hk rfl rfl rfl rfl fun b2 w a hk hs => ?_
  refine sa _ rfl hk rfl rfl rfl fun a hk => ?_
  show wpList _ _ _ [] _ _
  refine wpList_nil ?_
  refine hK1 _ _ ?_
  apply wp_seq_k; intro K3 hK3
  apply wp_seq_k; intro K4 hK4
  apply wp_region_lit
  refine sa _ rfl hk rfl rfl rfl fun a hk => ?_
  show wpList _ _ _ [] _ _
  refine wpList_nil ?_
  refine hK4 _ _ ?_
  obtain ⟨o8, h9, HL10⟩ := bind_some H
  clear H
  obtain ⟨R11, hR11⟩ : ∃ R : Act → World → Prop, R = fun a w => o8 = .out () ∧ Kn [(1, (.int .i64 x1)), (2, (.pointer (some ⟨b2, 0, none⟩)))] 66 a ∧ Sat [] w0 w [(1, k0_0), (2, k0_1), (3, k0_2)] [(4, [(b2, .cells #[.slice A0_0 x0.Pos.length p0_0, .slice A0_1 x0.Stash.length p0_1, .slice A0_2 x0.Buckets.length p0_2] 31 (0, 0))])] := ⟨_, rfl⟩
  refine wp_cutq R11 ?_ ?_
  · refine wp_block ?_
    obtain ⟨fu13, h9⟩ := loopO_some h9
    obtain ⟨I12, hI12⟩ : ∃ I : Nat → Act → World → Prop, I = fun fu a w => ∃ (u7 : Int), loopN (fun s => spec_l08Value.s0 x0 x1 s) fu u7 = some o8 ∧ Kn [(1, (.int .i64 x1)), (2, (.pointer (some ⟨b2, 0, none⟩))), (5, (.int .i64 u7))] 66 a ∧ Sat [] w0 w [(1, k0_0), (2, k0_1), (3, k0_2)] [(4, [(b2, .cells #[.slice A0_0 x0.Pos.length p0_0, .slice A0_1 x0.Stash.length p0_1, .slice A0_2 x0.Buckets.length p0_2] 31 (0, 0))])] := ⟨_, rfl⟩
    refine wp_loop_ghost I12 fu13 ?_ ?_
    · rw [hI12]
      exact ⟨0, h9, (hk.c 1 rfl (hk.c 2 rfl (hk.c 5 rfl hk.k))), (hs.pick [(4, 4)] rfl)⟩
    · clear h9 hk hs
      intro fu13 a w hI0
      rw [hI12] at hI0
      obtain ⟨u7, hi, hk, hs⟩ := hI0
      obtain ⟨x14, H, h15⟩ := loop_round hi
      try dsimp only at H
      unfold spec_l08Value.s0 at H
      apply wp_seq_k; intro K16 hK16
      apply wp_seq_k; intro K17 hK17
      apply wp_region_lit
      refine sm _ rfl hk rfl rfl rfl fun a hk => ?_
      refine sf ⟨b2, 1, none⟩ rfl hk rfl rfl rfl fd31_1 rfl fun a hk => ?_
      refine sl rfl hk rfl rfl rfl ag28 (box_cell hs (k := 4) rfl rfl) fun a hk => ?_
      refine sle rfl hk rfl rfl rfl un28 fun a hk => ?_
      refine sv (.bool (decide (u7 < (x0.Stash.length : Int)))) hk rfl rfl rfl fun a hk => ?_
      show wpList _ _ _ [] _ _
      refine wpList_nil ?_
      refine hK17 _ _ ?_
      rcases cond_some H with ⟨c18, H⟩ | ⟨c18, H⟩
      · have hk := hk.lit 12 c18 rfl
        refine cnd_true hk rfl rfl ?_
        refine wp_skip ?_
        refine hK16 _ _ ?_
        apply wp_seq_k; intro K19 hK19
        refine wp_block ?_
        apply wp_seq_k; intro K20 hK20
        apply wp_region_lit
        refine sf ⟨b2, 1, none⟩ rfl hk rfl rfl rfl fd31_1 rfl fun a hk => ?_
        refine sl rfl hk rfl rfl rfl ag28 (box_cell hs (k := 4) rfl rfl) fun a hk => ?_
        refine sm _ rfl hk rfl rfl rfl fun a hk => ?_
        rcases ite_some H with ⟨c21, H⟩ | ⟨_, H⟩
        rotate_left
        · cases H
        obtain ⟨b22, q23, hAc21⟩ := (v0_1).some_ u7 c21.1 c21.2
        refine si rfl hk rfl rfl rfl rfl un28 sz102 c21.1 c21.2 hAc21 fun a hk => ?_
        refine sf (padd A0_1 (u7.toNat * 3 + 0)) rfl hk rfl rfl rfl fd102_0 (padd_add _ _ _) fun a hk => ?_
        obtain ⟨_, rfl, e24⟩ := (v0_1).at_ z_Block u7 c21.1 c21.2
        refine sl (v := (.int .i64 ((x0.Stash.getD u7.toNat z_Block).Id))) rfl hk rfl rfl rfl ag3 ((e24 0 _ rfl).cell (hs.hasD (k := 2) rfl)) fun a hk => ?_
        refine sm _ rfl hk rfl rfl rfl fun a hk => ?_
        refine sv (.bool (((x0.Stash.getD u7.toNat z_Block).Id) == x1)) hk rfl rfl rfl fun a hk => ?_
        show wpList _ _ _ [] _ _
        refine wpList_nil ?_
        refine hK20 _ _ ?_
        rcases cond_some H with ⟨c25, H⟩ | ⟨c25, H⟩
        · have hk := hk.lit 22 c25 rfl
          refine cnd_true hk rfl rfl ?_
          apply wp_seq_k; intro K26 hK26
          apply wp_region_lit
          refine sf ⟨b2, 1, none⟩ rfl hk rfl rfl rfl fd31_1 rfl fun a hk => ?_
          refine sl rfl hk rfl rfl rfl ag28 (box_cell hs (k := 4) rfl rfl) fun a hk => ?_
          refine sm _ rfl hk rfl rfl rfl fun a hk => ?_
          rcases ite_some H with ⟨c27, H⟩ | ⟨_, H⟩
          rotate_left
          · cases H
          obtain ⟨b28, q29, hAc27⟩ := (v0_1).some_ u7 c27.1 c27.2
          refine si rfl hk rfl rfl rfl rfl un28 sz102 c27.1 c27.2 hAc27 fun a hk => ?_
          refine sf (padd A0_1 (u7.toNat * 3 + 2)) rfl hk rfl rfl rfl fd102_2 (padd_add _ _ _) fun a hk => ?_
          obtain ⟨_, rfl, e30⟩ := (v0_1).at_ z_Block u7 c27.1 c27.2
          refine sl (v := (.int .i64 ((x0.Stash.getD u7.toNat z_Block).Value))) rfl hk rfl rfl rfl ag3 ((e30 2 _ rfl).cell (hs.hasD (k := 2) rfl)) fun a hk => ?_
          refine sa _ rfl hk rfl rfl rfl fun a hk => ?_
          show wpList _ _ _ [] _ _
          refine wpList_nil ?_
          refine hK26 _ _ ?_
          refine wp_ret ?_
          obtain rfl := Option.some.inj H
          have ho8 := h15
          try dsimp only at ho8
          subst ho8
          have H := HL10
          try dsimp only at H
          obtain rfl := Option.some.inj H
          exact fin hk _ [(.int .i64 ((x0.Stash.getD u7.toNat z_Block).Value))] rfl ⟨rfl, trivial⟩ ⟨rfl, (hs.pick [] rfl).dnil⟩
        · have hk := hk.lit 22 c25 rfl
          refine cnd_false hk rfl rfl ?_
          refine wp_skip ?_
          refine hK19 _ _ ?_
          apply wp_region_lit
          refine sm _ rfl hk rfl rfl rfl fun a hk => ?_
          refine sv (.int .i64 (w64 (u7 + 1))) hk rfl rfl rfl fun a hk => ?_
          refine sa _ rfl hk rfl rfl rfl fun a hk => ?_
          show wpList _ _ _ [] _ _
          refine wpList_nil ?_
          obtain rfl := Option.some.inj H
          obtain ⟨m31, hmm31, h15⟩ := h15
          show ∃ n', n' < _ ∧ I12 n' _ _
          refine ⟨m31, hmm31, ?_⟩
          rw [hI12]
          exact ⟨(w64 (u7 + 1)), h15, (hk.c 1 rfl (hk.c 2 rfl (hk.c 5 rfl hk.k))), (hs.pick [(4, 4)] rfl)⟩
      · have hk := hk.lit 12 c18 rfl
        refine cnd_false hk rfl rfl ?_
        refine wp_exit ?_
        obtain rfl := Option.some.inj H
        show R11 _ _
        rw [hR11]
        exact ⟨h15.symm, (hk.c 1 rfl (hk.c 2 rfl hk.k)), (hs.pick [(4, 4)] rfl)⟩
  · intro a w hR0
    rw [hR11] at hR0
    obtain ⟨rfl, hk, hs⟩ := hR0
    have H := HL10
    try dsimp only at H
    refine hK3 _ _ ?_
    apply wp_seq_k; intro K32 hK32
    apply wp_seq_k; intro K33 hK33
    apply wp_region_lit
    refine sa _ rfl hk rfl rfl rfl fun a hk => ?_
    show wpList _ _ _ [] _ _
    refine wpList_nil ?_
    refine hK33 _ _ ?_
    obtain ⟨o37, h38, HL39⟩ := bind_some H
    clear H
    obtain ⟨R40, hR40⟩ : ∃ R : Act → World → Prop, R = fun a w => o37 = .out () ∧ Kn [] 66 a ∧ Sat [] w0 w [(1, k0_0), (2, k0_1), (3, k0_2)] [] := ⟨_, rfl⟩
    refine wp_cutq R40 ?_ ?_
    · refine wp_block ?_
      obtain ⟨fu42, h38⟩ := loopO_some h38
      obtain ⟨I41, hI41⟩ : ∃ I : Nat → Act → World → Prop, I = fun fu a w => ∃ (u36 : Int), loopN (fun s => spec_l08Value.s1 x0 x1 s) fu u36 = some o37 ∧ Kn [(1, (.int .i64 x1)), (2, (.pointer (some ⟨b2, 0, none⟩))), (6, (.int .i64 u36))] 66 a ∧ Sat [] w0 w [(1, k0_0), (2, k0_1), (3, k0_2)] [(4, [(b2, .cells #[.slice A0_0 x0.Pos.length p0_0, .slice A0_1 x0.Stash.length p0_1, .slice A0_2 x0.Buckets.length p0_2] 31 (0, 0))])] := ⟨_, rfl⟩
      refine wp_loop_ghost I41 fu42 ?_ ?_
      · rw [hI41]
        exact ⟨0, h38, (hk.c 1 rfl (hk.c 2 rfl (hk.c 6 rfl hk.k))), (hs.pick [(4, 4)] rfl)⟩
      · clear h38 hk hs
        intro fu42 a w hI0
        rw [hI41] at hI0
        obtain ⟨u36, hi, hk, hs⟩ := hI0
        obtain ⟨x43, H, h44⟩ := loop_round hi
        try dsimp only at H
        unfold spec_l08Value.s1 at H
        apply wp_seq_k; intro K45 hK45
        apply wp_seq_k; intro K46 hK46
        apply wp_region_lit
        refine sm _ rfl hk rfl rfl rfl fun a hk => ?_
        refine sf ⟨b2, 2, none⟩ rfl hk rfl rfl rfl fd31_2 rfl fun a hk => ?_
        refine sl rfl hk rfl rfl rfl ag29 (box_cell hs (k := 4) rfl rfl) fun a hk => ?_
        refine sle rfl hk rfl rfl rfl un29 fun a hk => ?_
        refine sv (.bool (decide (u36 < (x0.Buckets.length : Int)))) hk rfl rfl rfl fun a hk => ?_
        show wpList _ _ _ [] _ _
        refine wpList_nil ?_
        refine hK46 _ _ ?_
        rcases cond_some H with ⟨c47, H⟩ | ⟨c47, H⟩
        · have hk := hk.lit 33 c47 rfl
          refine cnd_true hk rfl rfl ?_
          refine wp_skip ?_
          refine hK45 _ _ ?_
          apply wp_seq_k; intro K48 hK48
          refine wp_block ?_
          apply wp_seq_k; intro K49 hK49
          apply wp_region_lit
          refine sa _ rfl hk rfl rfl rfl fun a hk => ?_
          show wpList _ _ _ [] _ _
          refine wpList_nil ?_
          refine hK49 _ _ ?_
          obtain ⟨o53, h54, HL55⟩ := bind_some H
          clear H
          obtain ⟨R56, hR56⟩ : ∃ R : Act → World → Prop, R = fun a w => o53 = .out () ∧ Kn [(1, (.int .i64 x1)), (2, (.pointer (some ⟨b2, 0, none⟩))), (6, (.int .i64 u36))] 66 a ∧ Sat [] w0 w [(1, k0_0), (2, k0_1), (3, k0_2)] [(4, [(b2, .cells #[.slice A0_0 x0.Pos.length p0_0, .slice A0_1 x0.Stash.length p0_1, .slice A0_2 x0.Buckets.length p0_2] 31 (0, 0))])] := ⟨_, rfl⟩
          refine wp_cutq R56 ?_ ?_
          · refine wp_block ?_
            obtain ⟨fu58, h54⟩ := loopO_some h54
            obtain ⟨I57, hI57⟩ : ∃ I : Nat → Act → World → Prop, I = fun fu a w => ∃ (u52 : Int), loopN (fun s => spec_l08Value.s2 x0 x1 u36 s) fu u52 = some o53 ∧ Kn [(1, (.int .i64 x1)), (2, (.pointer (some ⟨b2, 0, none⟩))), (6, (.int .i64 u36)), (7, (.int .i64 u52))] 66 a ∧ Sat [] w0 w [(1, k0_0), (2, k0_1), (3, k0_2)] [(4, [(b2, .cells #[.slice A0_0 x0.Pos.length p0_0, .slice A0_1 x0.Stash.length p0_1, .slice A0_2 x0.Buckets.length p0_2] 31 (0, 0))])] := ⟨_, rfl⟩
            refine wp_loop_ghost I57 fu58 ?_ ?_
            · rw [hI57]
              exact ⟨0, h54, (hk.c 1 rfl (hk.c 2 rfl (hk.c 6 rfl (hk.c 7 rfl hk.k)))), (hs.pick [(4, 4)] rfl)⟩
            · clear h54 hk hs
              intro fu58 a w hI0
              rw [hI57] at hI0
              obtain ⟨u52, hi, hk, hs⟩ := hI0
              obtain ⟨x59, H, h60⟩ := loop_round hi
              try dsimp only at H
              unfold spec_l08Value.s2 at H
              apply wp_seq_k; intro K61 hK61
              apply wp_seq_k; intro K62 hK62
              apply wp_region_lit
              refine sm _ rfl hk rfl rfl rfl fun a hk => ?_
              refine sf ⟨b2, 2, none⟩ rfl hk rfl rfl rfl fd31_2 rfl fun a hk => ?_
              refine sl rfl hk rfl rfl rfl ag29 (box_cell hs (k := 4) rfl rfl) fun a hk => ?_
              refine sm _ rfl hk rfl rfl rfl fun a hk => ?_
              rcases ite_some H with ⟨c63, H⟩ | ⟨_, H⟩
              rotate_left
              · cases H
              obtain ⟨b64, q65, hAc63⟩ := (v0_2).some_ u36 c63.1 c63.2
              refine si rfl hk rfl rfl rfl rfl un29 sz28 c63.1 c63.2 hAc63 fun a hk => ?_
              obtain ⟨_, ⟨_, rfl, A67, p68, rfl, v69⟩, e66⟩ := (v0_2).at_ [] u36 c63.1 c63.2
              refine sl (v := (.slice A67 (x0.Buckets.getD u36.toNat []).length p68)) rfl hk rfl rfl rfl ag28 ((e66 0 _ rfl).cell (hs.hasD (k := 3) rfl)) fun a hk => ?_
              refine sle rfl hk rfl rfl rfl un28 fun a hk => ?_
              refine sv (.bool (decide (u52 < ((x0.Buckets.getD u36.toNat []).length : Int)))) hk rfl rfl rfl fun a hk => ?_
              show wpList _ _ _ [] _ _
              refine wpList_nil ?_
              refine hK62 _ _ ?_
              rcases cond_some H with ⟨c70, H⟩ | ⟨c70, H⟩
              · have hk := hk.lit 43 c70 rfl
                refine cnd_true hk rfl rfl ?_
                refine wp_skip ?_
                refine hK61 _ _ ?_
                apply wp_seq_k; intro K71 hK71
                refine wp_block ?_
                apply wp_seq_k; intro K72 hK72
                apply wp_region_lit
                refine sf ⟨b2, 2, none⟩ rfl hk rfl rfl rfl fd31_2 rfl fun a hk => ?_
                refine sl rfl hk rfl rfl rfl ag29 (box_cell hs (k := 4) rfl rfl) fun a hk => ?_
                refine sm _ rfl hk rfl rfl rfl fun a hk => ?_
                rcases ite_some H with ⟨c73, H⟩ | ⟨_, H⟩
                rotate_left
                · cases H
                obtain ⟨b74, q75, hAc73⟩ := (v0_2).some_ u36 c73.1 c73.2
                refine si rfl hk rfl rfl rfl rfl un29 sz28 c73.1 c73.2 hAc73 fun a hk => ?_
                obtain ⟨_, ⟨_, rfl, A77, p78, rfl, v79⟩, e76⟩ := (v0_2).at_ [] u36 c73.1 c73.2
                refine sl (v := (.slice A77 (x0.Buckets.getD u36.toNat []).length p78)) rfl hk rfl rfl rfl ag28 ((e76 0 _ rfl).cell (hs.hasD (k := 3) rfl)) fun a hk => ?_
                refine sm _ rfl hk rfl rfl rfl fun a hk => ?_
                rcases ite_some H with ⟨c80, H⟩ | ⟨_, H⟩
                rotate_left
                · cases H
                obtain ⟨b81, q82, hAc80⟩ := (v79).some_ u52 c80.1 c80.2
                refine si rfl hk rfl rfl rfl rfl un28 sz102 c80.1 c80.2 hAc80 fun a hk => ?_
                refine sf (padd A77 (u52.toNat * 3 + 0)) rfl hk rfl rfl rfl fd102_0 (padd_add _ _ _) fun a hk => ?_
                obtain ⟨_, rfl, e83⟩ := (v79).at_ z_Block u52 c80.1 c80.2
                refine sl (v := (.int .i64 (((x0.Buckets.getD u36.toNat []).getD u52.toNat z_Block).Id))) rfl hk rfl rfl rfl ag3 ((e83 0 _ rfl).cell (hs.hasD (k := 3) rfl)) fun a hk => ?_
                refine sm _ rfl hk rfl rfl rfl fun a hk => ?_
                refine sv (.bool ((((x0.Buckets.getD u36.toNat []).getD u52.toNat z_Block).Id) == x1)) hk rfl rfl rfl fun a hk => ?_
                show wpList _ _ _ [] _ _
                refine wpList_nil ?_
                refine hK72 _ _ ?_
                rcases cond_some H with ⟨c84, H⟩ | ⟨c84, H⟩
                · have hk := hk.lit 56 c84 rfl
                  refine cnd_true hk rfl rfl ?_
                  apply wp_seq_k; intro K85 hK85
                  apply wp_region_lit
                  refine sf ⟨b2, 2, none⟩ rfl hk rfl rfl rfl fd31_2 rfl fun a hk => ?_
                  refine sl rfl hk rfl rfl rfl ag29 (box_cell hs (k := 4) rfl rfl) fun a hk => ?_
                  refine sm _ rfl hk rfl rfl rfl fun a hk => ?_
                  rcases ite_some H with ⟨c86, H⟩ | ⟨_, H⟩
                  rotate_left
                  · cases H
                  obtain ⟨b87, q88, hAc86⟩ := (v0_2).some_ u36 c86.1 c86.2
                  refine si rfl hk rfl rfl rfl rfl un29 sz28 c86.1 c86.2 hAc86 fun a hk => ?_
                  obtain ⟨_, ⟨_, rfl, A90, p91, rfl, v92⟩, e89⟩ := (v0_2).at_ [] u36 c86.1 c86.2
                  refine sl (v := (.slice A90 (x0.Buckets.getD u36.toNat []).length p91)) rfl hk rfl rfl rfl ag28 ((e89 0 _ rfl).cell (hs.hasD (k := 3) rfl)) fun a hk => ?_
                  refine sm _ rfl hk rfl rfl rfl fun a hk => ?_
                  rcases ite_some H with ⟨c93, H⟩ | ⟨_, H⟩
                  rotate_left
                  · cases H
                  obtain ⟨b94, q95, hAc93⟩ := (v92).some_ u52 c93.1 c93.2
                  refine si rfl hk rfl rfl rfl rfl un28 sz102 c93.1 c93.2 hAc93 fun a hk => ?_
                  refine sf (padd A90 (u52.toNat * 3 + 2)) rfl hk rfl rfl rfl fd102_2 (padd_add _ _ _) fun a hk => ?_
                  obtain ⟨_, rfl, e96⟩ := (v92).at_ z_Block u52 c93.1 c93.2
                  refine sl (v := (.int .i64 (((x0.Buckets.getD u36.toNat []).getD u52.toNat z_Block).Value))) rfl hk rfl rfl rfl ag3 ((e96 2 _ rfl).cell (hs.hasD (k := 3) rfl)) fun a hk => ?_
                  refine sa _ rfl hk rfl rfl rfl fun a hk => ?_
                  show wpList _ _ _ [] _ _
                  refine wpList_nil ?_
                  refine hK85 _ _ ?_
                  refine wp_ret ?_
                  obtain rfl := Option.some.inj H
                  have ho53 := h60
                  try dsimp only at ho53
                  subst ho53
                  have H := HL55
                  try dsimp only at H
                  obtain rfl := Option.some.inj H
                  have ho37 := h44
                  try dsimp only at ho37
                  subst ho37
                  have H := HL39
                  try dsimp only at H
                  obtain rfl := Option.some.inj H
                  exact fin hk _ [(.int .i64 (((x0.Buckets.getD u36.toNat []).getD u52.toNat z_Block).Value))] rfl ⟨rfl, trivial⟩ ⟨rfl, (hs.pick [] rfl).dnil⟩
                · have hk := hk.lit 56 c84 rfl
                  refine cnd_false hk rfl rfl ?_
                  refine wp_skip ?_
                  refine hK71 _ _ ?_
                  apply wp_region_lit
                  refine sm _ rfl hk rfl rfl rfl fun a hk => ?_
                  refine sv (.int .i64 (w64 (u52 + 1))) hk rfl rfl rfl fun a hk => ?_
                  refine sa _ rfl hk rfl rfl rfl fun a hk => ?_
                  show wpList _ _ _ [] _ _
                  refine wpList_nil ?_
                  obtain rfl := Option.some.inj H
                  obtain ⟨m97, hmm97, h60⟩ := h60
                  show ∃ n', n' < _ ∧ I57 n' _ _
                  refine ⟨m97, hmm97, ?_⟩
                  rw [hI57]
                  exact ⟨(w64 (u52 + 1)), h60, (hk.c 1 rfl (hk.c 2 rfl (hk.c 6 rfl (hk.c 7 rfl hk.k)))), (hs.pick [(4, 4)] rfl)⟩
              · have hk := hk.lit 43 c70 rfl
                refine cnd_false hk rfl rfl ?_
                refine wp_exit ?_
                obtain rfl := Option.some.inj H
                show R56 _ _
                rw [hR56]
                exact ⟨h60.symm, (hk.c 1 rfl (hk.c 2 rfl (hk.c 6 rfl hk.k))), (hs.pick [(4, 4)] rfl)⟩
          · intro a w hR0
            rw [hR56] at hR0
            obtain ⟨rfl, hk, hs⟩ := hR0
            have H := HL55
            try dsimp only at H
            refine hK48 _ _ ?_
            apply wp_region_lit
            refine sm _ rfl hk rfl rfl rfl fun a hk => ?_
            refine sv (.int .i64 (w64 (u36 + 1))) hk rfl rfl rfl fun a hk => ?_
            refine sa _ rfl hk rfl rfl rfl fun a hk => ?_
            show wpList _ _ _ [] _ _
            refine wpList_nil ?_
            obtain rfl := Option.some.inj H
            obtain ⟨m98, hmm98, h44⟩ := h44
            show ∃ n', n' < _ ∧ I41 n' _ _
            refine ⟨m98, hmm98, ?_⟩
            rw [hI41]
            exact ⟨(w64 (u36 + 1)), h44, (hk.c 1 rfl (hk.c 2 rfl (hk.c 6 rfl hk.k))), (hs.pick [(4, 4)] rfl)⟩
        · have hk := hk.lit 33 c47 rfl
          refine cnd_false hk rfl rfl ?_
          refine wp_exit ?_
          obtain rfl := Option.some.inj H
          show R40 _ _
          rw [hR40]
          exact ⟨h44.symm, hk.k, (hs.pick [] rfl)⟩
    · intro a w hR0
      rw [hR40] at hR0
      obtain ⟨rfl, hk, hs⟩ := hR0
      have H := HL39
      try dsimp only at H
      refine hK32 _ _ ?_
      apply wp_seq_k; intro K99 hK99
      apply wp_region_lit
      refine sa _ rfl hk rfl rfl rfl fun a hk => ?_
      show wpList _ _ _ [] _ _
      refine wpList_nil ?_
      refine hK99 _ _ ?_
      refine wp_ret ?_
      obtain rfl := Option.some.inj H
      exact fin hk _ [(.int .i64 0)] rfl ⟨rfl, trivial⟩ ⟨rfl, (hs.pick [] rfl).dnil⟩

noncomputable def spec_l11Map.s0 (x0 : S_Enc) (u16 : List S_Entry) (u15 : Int) : Option (((List S_Entry) × Int) ⊕ Ex ((List S_Entry)) ((List S_Entry))) :=
  (bif (decide (u15 < (x0.Keys.length : Int))) then (if 0 ≤ u15 ∧ u15 < (x0.Keys.length : Int) then (((bif (decide ((x0.Keys.getD u15.toNat 0) > 0)) then (if 0 ≤ u15 ∧ u15 < (x0.Keys.length : Int) then ((spec_l08Value.f x0.Oram u15).bind fun y59 => ((spec_l10Put.f u16 (x0.Keys.getD u15.toNat 0) y59).bind fun y61 => (some y61))) else none) else (some u16)) : Option ((List S_Entry))).bind fun u44 => (some (.inl (u44, (w64 (u15 + 1)))))) else none) else (some (.inr (.out u16))))
noncomputable def spec_l11Map.f (x0 : S_Enc) : Option ((List S_Entry)) :=
  ((loopO (fun s => spec_l11Map.s0 x0 s.1 s.2) (([] : List S_Entry), 0)).bind fun o => match o with | .out u21 => (some u21) | .ret r => (some r))
set_option maxRecDepth 100000 in
set_option maxHeartbeats 0 in
theorem spec_l11Map_t (w0 : World) (x0 : S_Enc) (A0_0 : Option Addr) (p0_0 : Nat) (k0_0 : Chunk) (v0_0 : View (Lay.int .i64) A0_0 p0_0 x0.Keys k0_0) (w0_0 : Has w0 k0_0) (A0_1 : Option Addr) (p0_1 : Nat) (k0_1 : Chunk) (v0_1 : View (Lay.int .i64) A0_1 p0_1 x0.Oram.Pos k0_1) (w0_1 : Has w0 k0_1) (A0_2 : Option Addr) (p0_2 : Nat) (k0_2 : Chunk) (v0_2 : View L_Block A0_2 p0_2 x0.Oram.Stash k0_2) (w0_2 : Has w0 k0_2) (A0_3 : Option Addr) (p0_3 : Nat) (k0_3 : Chunk) (v0_3 : View (Lay.sl L_Block 102) A0_3 p0_3 x0.Oram.Buckets k0_3) (w0_3 : Has w0 k0_3) (r : (List S_Entry)) (H : spec_l11Map.f x0 = some r) :
    Calls Try.prog 97 #[.agg #[.slice A0_0 x0.Keys.length p0_0, .slice A0_1 x0.Oram.Pos.length p0_1, .slice A0_2 x0.Oram.Stash.length p0_2, .slice A0_3 x0.Oram.Buckets.length p0_3]] w0 (Ret (fun v w => ∃ (A0 : Option Addr) (p0 : Nat) (k0 : Chunk), v = .slice A0 r.length p0 ∧ Own L_Entry 116 A0 p0 r k0 ∧ Sat [] w0 w [] [(0, k0)])) := by
  have hs : Sat [] w0 w0 [(1, k0_0), (2, k0_1), (3, k0_2), (4, k0_3)] [] := Sat.init w0 [(1, k0_0), (2, k0_1), (3, k0_2), (4, k0_3)] [] (by simp only [List.mem_cons, List.not_mem_nil, or_false]; rintro x (rfl | rfl | rfl | rfl) <;> assumption) (by simp) List.nodup_nil (by simp [blks])
  unfold spec_l11Map.f at H
  refine enter Try.func97 rfl Try.ntmps97 rfl fun a hk => ?_
  apply wp_seq_k; intro K1 hK1
  apply wp_region_lit
  refine sbx 5 hs rfl hk rfl rfl rfl rfl fun b2 w a hk hs => ?_
  refine sa _ rfl hk rfl rfl rfl fun a hk => ?_
  show wpList _ _ _ [] _ _
  refine wpList_nil ?_
  refine hK1 _ _ ?_
  apply wp_seq_k; intro K3 hK3
  apply wp_region_lit
  refine sbs0 6 L_Entry hs rfl hk rfl rfl un50 sz116 fun b4 k5 w a hk o6 hs => ?_
  refine sa _ rfl hk rfl rfl rfl fun a hk => ?_
  show wpList _ _ _ [] _ _
  refine wpList_nil ?_
  refine hK3 _ _ ?_
  apply wp_seq_k; intro K7 hK7
  apply wp_seq_k; intro K8 hK8
  apply wp_region_lit
  refine sa _ rfl hk rfl rfl rfl fun a hk => ?_
  show wpList _ _ _ [] _ _
  refine wpList_nil ?_
  refine hK8 _ _ ?_
  obtain ⟨o26, h27, HL28⟩ := bind_some H
  clear H
  obtain ⟨R29, hR29⟩ : ∃ R : Act → World → Prop, R = fun a w => ∃ (u21 : List S_Entry) (A24 : Option Addr) (p25 : Nat) (k22 : Chunk), o26 = .out u21 ∧ Kn [(3, (.slice A24 u21.length p25))] 31 a ∧ Sat [] w0 w [(1, k0_0), (2, k0_1), (3, k0_2), (4, k0_3)] [(6, k22)] ∧ Own L_Entry 116 A24 p25 u21 k22 := ⟨_, rfl⟩
  refine wp_cutq R29 ?_ ?_
  · refine wp_block ?_
    obtain ⟨fu31, h27⟩ := loopO_some h27
    obtain ⟨I30, hI30⟩ : ∃ I : Nat → Act → World → Prop, I = fun fu a w => ∃ (u16 : List S_Entry) (u15 : Int) (A19 : Option Addr) (p20 : Nat) (k17 : Chunk), loopN (fun s => spec_l11Map.s0 x0 s.1 s.2) fu (u16, u15) = some o26 ∧ Kn [(1, (.pointer (some ⟨b2, 0, none⟩))), (3, (.slice A19 u16.length p20)), (4, (.int .i64 u15))] 31 a ∧ Sat [] w0 w [(1, k0_0), (2, k0_1), (3, k0_2), (4, k0_3)] [(6, k17), (5, [(b2, .cells #[.slice A0_0 x0.Keys.length p0_0, .slice A0_1 x0.Oram.Pos.length p0_1, .slice A0_2 x0.Oram.Stash.length p0_2, .slice A0_3 x0.Oram.Buckets.length p0_3] 54 (0, 0))])] ∧ Own L_Entry 116 A19 p20 u16 k17 := ⟨_, rfl⟩
    refine wp_loop_ghost I30 fu31 ?_ ?_
    · rw [hI30]
      exact ⟨([] : List S_Entry), 0, (some ⟨b4, 0, none⟩), 0, _, h27, (hk.c 1 rfl (hk.c 3 rfl (hk.c 4 rfl hk.k))), (hs.pick [(6, 6), (5, 5)] rfl), o6⟩
    · clear h27 hk hs
      intro fu31 a w hI0
      rw [hI30] at hI0
      obtain ⟨u16, u15, A19, p20, k17, hi, hk, hs, o18⟩ := hI0
      obtain ⟨x32, H, h33⟩ := loop_round hi
      try dsimp only at H
      unfold spec_l11Map.s0 at H
      apply wp_seq_k; intro K34 hK34
      apply wp_seq_k; intro K35 hK35
      apply wp_region_lit
      refine sm _ rfl hk rfl rfl rfl fun a hk => ?_
      refine sf ⟨b2, 0, none⟩ rfl hk rfl rfl rfl fd54_0 rfl fun a hk => ?_
      refine sl rfl hk rfl rfl rfl ag22 (box_cell hs (k := 5) rfl rfl) fun a hk => ?_
      refine sle rfl hk rfl rfl rfl un22 fun a hk => ?_
      refine sv (.bool (decide (u15 < (x0.Keys.length : Int)))) hk rfl rfl rfl fun a hk => ?_
      show wpList _ _ _ [] _ _
      refine wpList_nil ?_
      refine hK35 _ _ ?_
      rcases cond_some H with ⟨c36, H⟩ | ⟨c36, H⟩
      · have hk := hk.lit 10 c36 rfl
        refine cnd_true hk rfl rfl ?_
        refine wp_skip ?_
        refine hK34 _ _ ?_
        apply wp_seq_k; intro K37 hK37
        refine wp_block ?_
        apply wp_seq_k; intro K38 hK38
        apply wp_region_lit
        refine sf ⟨b2, 0, none⟩ rfl hk rfl rfl rfl fd54_0 rfl fun a hk => ?_
        refine sl rfl hk rfl rfl rfl ag22 (box_cell hs (k := 5) rfl rfl) fun a hk => ?_
        refine sm _ rfl hk rfl rfl rfl fun a hk => ?_
        rcases ite_some H with ⟨c39, H⟩ | ⟨_, H⟩
        rotate_left
        · cases H
        obtain ⟨b40, q41, hAc39⟩ := (v0_0).some_ u15 c39.1 c39.2
        refine si rfl hk rfl rfl rfl rfl un22 sz3 c39.1 c39.2 hAc39 fun a hk => ?_
        obtain ⟨_, rfl, e42⟩ := (v0_0).at_ 0 u15 c39.1 c39.2
        refine sl (v := (.int .i64 (x0.Keys.getD u15.toNat 0))) rfl hk rfl rfl rfl ag3 ((e42 0 _ rfl).cell (hs.hasD (k := 1) rfl)) fun a hk => ?_
        refine sv (.bool (decide ((x0.Keys.getD u15.toNat 0) > 0))) hk rfl rfl rfl fun a hk => ?_
        show wpList _ _ _ [] _ _
        refine wpList_nil ?_
        refine hK38 _ _ ?_
        obtain ⟨o49, h50, HL51⟩ := bind_some H
        clear H
        obtain ⟨R52, hR52⟩ : ∃ R : Act → World → Prop, R = fun a w => ∃ (u44 : List S_Entry) (A47 : Option Addr) (p48 : Nat) (k45 : Chunk), u44 = o49 ∧ Kn [(1, (.pointer (some ⟨b2, 0, none⟩))), (3, (.slice A47 u44.length p48)), (4, (.int .i64 u15))] 31 a ∧ Sat [] w0 w [(1, k0_0), (2, k0_1), (3, k0_2), (4, k0_3)] [(9, k45), (5, [(b2, .cells #[.slice A0_0 x0.Keys.length p0_0, .slice A0_1 x0.Oram.Pos.length p0_1, .slice A0_2 x0.Oram.Stash.length p0_2, .slice A0_3 x0.Oram.Buckets.length p0_3] 54 (0, 0))])] ∧ Own L_Entry 116 A47 p48 u44 k45 := ⟨_, rfl⟩
        refine wp_cutq R52 ?_ ?_
        · have H := h50
          rcases cond_some H with ⟨c53, H⟩ | ⟨c53, H⟩
          · have hk := hk.lit 18 c53 rfl
            refine cnd_true hk rfl rfl ?_
            refine wp_region_tree (.q 0 (.q 1 (.q 2 (.q 3 (.q 4 (.q 5 (.q 6 (.q 7 (.alt 8 (.alt 9 (.alt 10 (.last 11) .stop) .stop) .stop))))))))) mo (by kernel_rfl) (hs.pick [(6, 6), (5, 5)] rfl) fun _ => ?_
            have hs := hs.drew
            refine tqst (.slice A19 u16.length p20) hk rfl rfl rfl rfl (fun w hs => sm _ rfl hk rfl rfl rfl fun a hk => qe hk) fun a hk => ?_
            refine tqst (.pointer (some ⟨b2, 0, none⟩)) hk rfl rfl rfl rfl (fun w hs => sf ⟨b2, 0, none⟩ rfl hk rfl rfl rfl fd54_0 rfl fun a hk => qe hk) fun a hk => ?_
            refine tqst (.slice A0_0 x0.Keys.length p0_0) hk rfl rfl rfl rfl (fun w hs => sl rfl hk rfl rfl rfl ag22 (box_cell hs (k := 5) rfl rfl) fun a hk => qe hk) fun a hk => ?_
            refine tqst (.int .i64 u15) hk rfl rfl rfl rfl (fun w hs => sm _ rfl hk rfl rfl rfl fun a hk => qe hk) fun a hk => ?_
            rcases ite_some H with ⟨c55, H⟩ | ⟨_, H⟩
            rotate_left
            · cases H
            obtain ⟨b56, q57, hAc55⟩ := (v0_0).some_ u15 c55.1 c55.2
            refine tqst (.pointer (some (padd A0_0 (u15.toNat * 1)))) hk rfl rfl rfl rfl (fun w hs => si rfl hk rfl rfl rfl rfl un22 sz3 c55.1 c55.2 hAc55 fun a hk => qe hk) fun a hk => ?_
            obtain ⟨_, rfl, e58⟩ := (v0_0).at_ 0 u15 c55.1 c55.2
            refine tqst (.int .i64 (x0.Keys.getD u15.toNat 0)) hk rfl rfl rfl rfl (fun w hs => sl (v := (.int .i64 (x0.Keys.getD u15.toNat 0))) rfl hk rfl rfl rfl ag3 ((e58 0 _ rfl).cell (hs.hasD (k := 1) rfl)) fun a hk => qe hk) fun a hk => ?_
            refine tqst (.pointer (some ⟨b2, 1, none⟩)) hk rfl rfl rfl rfl (fun w hs => sf ⟨b2, 1, none⟩ rfl hk rfl rfl rfl fd54_1 rfl fun a hk => qe hk) fun a hk => ?_
            refine tqst (.agg #[.slice A0_1 x0.Oram.Pos.length p0_1, .slice A0_2 x0.Oram.Stash.length p0_2, .slice A0_3 x0.Oram.Buckets.length p0_3]) hk rfl rfl rfl rfl (fun w hs => sln [.slice A0_1 x0.Oram.Pos.length p0_1, .slice A0_2 x0.Oram.Stash.length p0_2, .slice A0_3 x0.Oram.Buckets.length p0_3] rfl hk rfl rfl rfl ag31 sz31 (box_part hs (k := 5) rfl rfl) fun a hk => qe hk) fun a hk => ?_
            refine tsst hk rfl rfl (fun K_r54_8 hK_r54_8 w hF => ?_) wt_stop
            have hs := hs.f hF
            refine sm _ rfl hk rfl rfl rfl fun a hk => ?_
            refine se (hs.pick [(6, 6), (5, 5)] rfl) hk (hK_r54_8 _ _ ?_)
            refine tsst hk rfl rfl (fun K_r54_9 hK_r54_9 w hF => ?_) wt_stop
            have hs := hs.f hF
            obtain ⟨y59, h60, H⟩ := bind_some H
            refine sc rfl en149 hk rfl rfl rfl (spec_l08Value_t _ x0.Oram A0_1 p0_1 _ v0_1 (hs.hasD (k := 2) rfl) A0_2 p0_2 _ v0_2 (hs.hasD (k := 3) rfl) A0_3 p0_3 _ v0_3 (hs.hasD (k := 4) rfl) u15 _ h60) ?_
            rintro _ w ⟨rfl, hG⟩ a hk
            have hs := hs.call0 hG
            refine se (hs.pick [(6, 6), (5, 5)] rfl) hk (hK_r54_9 _ _ ?_)
            refine tsst hk rfl rfl (fun K_r54_10 hK_r54_10 w hF => ?_) wt_stop
            have hs := hs.f hF
            obtain ⟨y61, h62, H⟩ := bind_some H
            refine sc rfl en148 hk rfl rfl rfl (spec_l10Put_t _ A19 p20 u16 _ o18.view (hs.hasG (k := 6) rfl) (x0.Keys.getD u15.toNat 0) y59 _ h62) ?_
            rintro _ w ⟨A63, p64, k65, rfl, o66, hG⟩ a hk
            have hs := hs.call0k hG [10] rfl
            refine se (hs.pick [(6, 6), (5, 5)] rfl) hk (hK_r54_10 _ _ ?_)
            refine tlst hk rfl rfl fun K_r54_11 hK_r54_11 w hF => ?_
            have hs := hs.f hF
            refine sa _ rfl hk rfl rfl rfl fun a hk => ?_
            refine se trivial hk (hK_r54_11 _ _ fun w hF => ?_)
            have hs := hs.f hF
            obtain rfl := Option.some.inj H
            show R52 _ _
            rw [hR52]
            exact ⟨y61, A63, p64, _, rfl, (hk.c 1 rfl (hk.c 3 rfl (hk.c 4 rfl hk.k))), (hs.pick [(9, 10), (5, 5)] rfl), o66⟩
          · have hk := hk.lit 18 c53 rfl
            refine cnd_false hk rfl rfl ?_
            refine wp_skip ?_
            obtain rfl := Option.some.inj H
            show R52 _ _
            rw [hR52]
            exact ⟨u16, A19, p20, _, rfl, (hk.c 1 rfl (hk.c 3 rfl (hk.c 4 rfl hk.k))), (hs.pick [(9, 6), (5, 5)] rfl), o18⟩
        · intro a w hR0
          rw [hR52] at hR0
          obtain ⟨u44, A47, p48, k45, rfl, hk, hs, o46⟩ := hR0
          have H := HL51
          try dsimp only at H
          refine hK37 _ _ ?_
          apply wp_region_lit
          refine sm _ rfl hk rfl rfl rfl fun a hk => ?_
          refine sv (.int .i64 (w64 (u15 + 1))) hk rfl rfl rfl fun a hk => ?_
          refine sa _ rfl hk rfl rfl rfl fun a hk => ?_
          show wpList _ _ _ [] _ _
          refine wpList_nil ?_
          obtain rfl := Option.some.inj H
          obtain ⟨m67, hmm67, h33⟩ := h33
          show ∃ n', n' < _ ∧ I30 n' _ _
          refine ⟨m67, hmm67, ?_⟩
          rw [hI30]
          exact ⟨u44, (w64 (u15 + 1)), A47, p48, _, h33, (hk.c 1 rfl (hk.c 3 rfl (hk.c 4 rfl hk.k))), (hs.pick [(6, 9), (5, 5)] rfl), o46⟩
      · have hk := hk.lit 10 c36 rfl
        refine cnd_false hk rfl rfl ?_
        refine wp_exit ?_
        obtain rfl := Option.some.inj H
        show R29 _ _
        rw [hR29]
        exact ⟨u16, A19, p20, _, h33.symm, (hk.c 3 rfl hk.k), (hs.pick [(6, 6)] rfl), o18⟩
  · intro a w hR0
    rw [hR29] at hR0
    obtain ⟨u21, A24, p25, k22, rfl, hk, hs, o23⟩ := hR0
    have H := HL28
    try dsimp only at H
    refine hK7 _ _ ?_
    apply wp_seq_k; intro K68 hK68
    apply wp_region_lit
    refine sm _ rfl hk rfl rfl rfl fun a hk => ?_
    refine sa _ rfl hk rfl rfl rfl fun a hk => ?_
    show wpList _ _ _ [] _ _
    refine wpList_nil ?_
    refine hK68 _ _ ?_
    refine wp_ret ?_
    obtain rfl := Option.some.inj H
    exact fin hk _ [(.slice A24 u21.length p25)] rfl ⟨rfl, trivial⟩ ⟨A24, p25, _, rfl, o23, (hs.pick [(0, 6)] rfl).dnil⟩

noncomputable def spec_MapOf.f (x0 : S_Enc) : Option ((List S_Entry) × Int) :=
  ((spec_EncOK.f x0).bind fun y5 => (bif (!y5) then (some (([] : List S_Entry), 1)) else ((spec_l11Map.f x0).bind fun y13 => (some (y13, 0)))))
set_option maxRecDepth 100000 in
set_option maxHeartbeats 0 in
theorem spec_MapOf_t (w0 : World) (x0 : S_Enc) (A0_0 : Option Addr) (p0_0 : Nat) (k0_0 : Chunk) (v0_0 : View (Lay.int .i64) A0_0 p0_0 x0.Keys k0_0) (w0_0 : Has w0 k0_0) (A0_1 : Option Addr) (p0_1 : Nat) (k0_1 : Chunk) (v0_1 : View (Lay.int .i64) A0_1 p0_1 x0.Oram.Pos k0_1) (w0_1 : Has w0 k0_1) (A0_2 : Option Addr) (p0_2 : Nat) (k0_2 : Chunk) (v0_2 : View L_Block A0_2 p0_2 x0.Oram.Stash k0_2) (w0_2 : Has w0 k0_2) (A0_3 : Option Addr) (p0_3 : Nat) (k0_3 : Chunk) (v0_3 : View (Lay.sl L_Block 102) A0_3 p0_3 x0.Oram.Buckets k0_3) (w0_3 : Has w0 k0_3) (r : (List S_Entry) × Int) (H : spec_MapOf.f x0 = some r) :
    Calls Try.prog 25 #[.agg #[.slice A0_0 x0.Keys.length p0_0, .slice A0_1 x0.Oram.Pos.length p0_1, .slice A0_2 x0.Oram.Stash.length p0_2, .slice A0_3 x0.Oram.Buckets.length p0_3]] w0 (Ret (fun v w => ∃ (A0 : Option Addr) (p0 : Nat) (k0 : Chunk), v = .tuple #[.slice A0 r.1.length p0, .int .i64 r.2] ∧ Own L_Entry 116 A0 p0 r.1 k0 ∧ Sat [] w0 w [] [(0, k0)])) := by
  have hs : Sat [] w0 w0 [(1, k0_0), (2, k0_1), (3, k0_2), (4, k0_3)] [] := Sat.init w0 [(1, k0_0), (2, k0_1), (3, k0_2), (4, k0_3)] [] (by simp only [List.mem_cons, List.not_mem_nil, or_false]; rintro x (rfl | rfl | rfl | rfl) <;> assumption) (by simp) List.nodup_nil (by simp [blks])
  unfold spec_MapOf.f at H
  refine enter Try.func25 rfl Try.ntmps25 rfl fun a hk => ?_
  apply wp_seq_k; intro K1 hK1
  apply wp_region_lit
  refine sbx 5 hs rfl hk rfl rfl rfl rfl fun b2 w a hk hs => ?_
  refine sa _ rfl hk rfl rfl rfl fun a hk => ?_
  refine sa _ rfl hk rfl rfl rfl fun a hk => ?_
  show wpList _ _ _ [] _ _
  refine wpList_nil ?_
  refine hK1 _ _ ?_
  apply wp_seq_k; intro K3 hK3
  apply wp_seq_k; intro K4 hK4
  apply wp_region_lit
  refine sln [.slice A0_0 x0.Keys.length p0_0, .slice A0_1 x0.Oram.Pos.length p0_1, .slice A0_2 x0.Oram.Stash.length p0_2, .slice A0_3 x0.Oram.Buckets.length p0_3] rfl hk rfl rfl rfl ag54 sz54 (box_cells hs (k := 5) rfl) fun a hk => ?_
  obtain ⟨y5, h6, H⟩ := bind_some H
  refine sc rfl en96 hk rfl rfl rfl (spec_EncOK_t _ x0 A0_0 p0_0 _ v0_0 (hs.hasD (k := 1) rfl) A0_1 p0_1 _ v0_1 (hs.hasD (k := 2) rfl) A0_2 p0_2 _ v0_2 (hs.hasD (k := 3) rfl) A0_3 p0_3 _ v0_3 (hs.hasD (k := 4) rfl) _ h6) ?_
  rintro _ w ⟨rfl, hG⟩ a hk
  have hs := hs.call0 hG
  refine sv (.bool (!y5)) hk rfl rfl rfl fun a hk => ?_
  show wpList _ _ _ [] _ _
  refine wpList_nil ?_
  refine hK4 _ _ ?_
  rcases cond_some H with ⟨c7, H⟩ | ⟨c7, H⟩
  · have hk := hk.lit 6 c7 rfl
    refine cnd_true hk rfl rfl ?_
    apply wp_seq_k; intro K8 hK8
    apply wp_region_lit
    refine sbs0 6 L_Entry hs rfl hk rfl rfl un50 sz116 fun b9 k10 w a hk o11 hs => ?_
    refine sa _ rfl hk rfl rfl rfl fun a hk => ?_
    refine sa _ rfl hk rfl rfl rfl fun a hk => ?_
    show wpList _ _ _ [] _ _
    refine wpList_nil ?_
    refine hK8 _ _ ?_
    refine wp_ret ?_
    obtain rfl := Option.some.inj H
    exact fin hk _ [(.slice (some ⟨b9, 0, none⟩) 0 0), (.int .i64 1)] rfl ⟨rfl, ⟨rfl, trivial⟩⟩ ⟨(some ⟨b9, 0, none⟩), 0, _, rfl, o11, (hs.pick [(0, 6)] rfl).dnil⟩
  · have hk := hk.lit 6 c7 rfl
    refine cnd_false hk rfl rfl ?_
    refine wp_skip ?_
    refine hK3 _ _ ?_
    apply wp_seq_k; intro K12 hK12
    apply wp_region_lit
    refine sln [.slice A0_0 x0.Keys.length p0_0, .slice A0_1 x0.Oram.Pos.length p0_1, .slice A0_2 x0.Oram.Stash.length p0_2, .slice A0_3 x0.Oram.Buckets.length p0_3] rfl hk rfl rfl rfl ag54 sz54 (box_cells hs (k := 5) rfl) fun a hk => ?_
    obtain ⟨y13, h14, H⟩ := bind_some H
    refine sc rfl en97 hk rfl rfl rfl (spec_l11Map_t _ x0 A0_0 p0_0 _ v0_0 (hs.hasD (k := 1) rfl) A0_1 p0_1 _ v0_1 (hs.hasD (k := 2) rfl) A0_2 p0_2 _ v0_2 (hs.hasD (k := 3) rfl) A0_3 p0_3 _ v0_3 (hs.hasD (k := 4) rfl) _ h14) ?_
    rintro _ w ⟨A15, p16, k17, rfl, o18, hG⟩ a hk
    have hs := hs.call0k hG [7] rfl
    refine sa _ rfl hk rfl rfl rfl fun a hk => ?_
    refine sa _ rfl hk rfl rfl rfl fun a hk => ?_
    show wpList _ _ _ [] _ _
    refine wpList_nil ?_
    refine hK12 _ _ ?_
    refine wp_ret ?_
    obtain rfl := Option.some.inj H
    exact fin hk _ [(.slice A15 y13.length p16), (.int .i64 0)] rfl ⟨rfl, ⟨rfl, trivial⟩⟩ ⟨A15, p16, _, rfl, o18, (hs.pick [(0, 7)] rfl).dnil⟩

noncomputable def laws_toIntS.s0 (l0 : List Int) (u12 : List Int) (u16 : Int) : Option (((List Int) × Int) ⊕ Ex ((List Int)) ((List Int))) :=
  (bif (decide (u16 < (l0.length : Int))) then (if 0 ≤ u16 ∧ u16 < (l0.length : Int) then (if 0 ≤ u16 ∧ u16 < ((((l0.length : Int)).toNat) : Int) then (some (.inl ((u12.set u16.toNat (l0.getD u16.toNat 0)), (w64 (u16 + 1))))) else none) else none) else (some (.inr (.out u12))))
noncomputable def laws_toIntS.f (l0 : List Int) : Option ((List Int)) :=
  (if 0 ≤ (l0.length : Int) ∧ (l0.length : Int) ≤ 1073741824 then ((loopO (fun s => laws_toIntS.s0 l0 s.1 s.2) ((List.replicate ((l0.length : Int)).toNat (0 : Int)), 0)).bind fun o => match o with | .out u17 => (some u17) | .ret r => (some r)) else none)
set_option maxRecDepth 100000 in
set_option maxHeartbeats 0 in
theorem laws_toIntS_t (w0 : World) (A0_ : Option Addr) (p0_ : Nat) (l0 : List Int) (k0_ : Chunk) (v0_ : View (Lay.int .i64) A0_ p0_ l0 k0_) (w0_ : Has w0 k0_) (r : (List Int)) (H : laws_toIntS.f l0 = some r) :
    Calls Try.prog 60 #[.slice A0_ l0.length p0_] w0 (Ret (fun v w => ∃ (A0 : Option Addr) (p0 : Nat) (k0 : Chunk), v = .slice A0 r.length p0 ∧ Own (Lay.int .i64) 3 A0 p0 r k0 ∧ Sat [] w0 w [] [(0, k0)])) := by
  have hs : Sat [] w0 w0 [(1, k0_)] [] := Sat.init w0 [(1, k0_)] [] (by simp only [List.mem_cons, List.not_mem_nil, or_false]; rintro x (rfl) <;> assumption) (by simp) List.nodup_nil (by simp [blks])
  unfold laws_toIntS.f at H
  refine enter Try.func60 rfl Try.ntmps60 rfl fun a hk => ?_
  apply wp_seq_k; intro K1 hK1
  apply wp_region_lit
  refine sa _ rfl hk rfl rfl rfl fun a hk => ?_
  show wpList _ _ _ [] _ _
  refine wpList_nil ?_
  refine hK1 _ _ ?_
  apply wp_seq_k; intro K2 hK2
  apply wp_region_lit
  refine sm _ rfl hk rfl rfl rfl fun a hk => ?_
  refine sle rfl hk rfl rfl rfl un22 fun a hk => ?_
  rcases ite_some H with ⟨c3, H⟩ | ⟨_, H⟩
  rotate_left
  · cases H
  refine smk 2 (Lay.int .i64) hs rfl hk rfl rfl rfl rfl un22 mk3 lz3 rfl rfl c3.1 c3.2 fun b4 k5 w a hk o6 hs => ?_
  have lh7 : (List.replicate ((l0.length : Int)).toNat (0 : Int)).length = ((l0.length : Int)).toNat := List.length_replicate
  refine sa _ rfl hk rfl rfl rfl fun a hk => ?_
  show wpList _ _ _ [] _ _
  refine wpList_nil ?_
  refine hK2 _ _ ?_
  apply wp_seq_k; intro K8 hK8
  apply wp_seq_k; intro K9 hK9
  apply wp_region_lit
  refine sa _ rfl hk rfl rfl rfl fun a hk => ?_
  show wpList _ _ _ [] _ _
  refine wpList_nil ?_
  refine hK9 _ _ ?_
  obtain ⟨o21, h22, HL23⟩ := bind_some H
  clear H
  obtain ⟨R24, hR24⟩ : ∃ R : Act → World → Prop, R = fun a w => ∃ (u17 : List Int) (k18 : Chunk), o21 = .out u17 ∧ Kn [(3, (.slice (some ⟨b4, 0, none⟩) (((l0.length : Int)).toNat) (((l0.length : Int)).toNat)))] 22 a ∧ Sat [] w0 w [(1, k0_)] [(2, k18)] ∧ Own (Lay.int .i64) 3 (some ⟨b4, 0, none⟩) (((l0.length : Int)).toNat) u17 k18 ∧ u17.length = (((l0.length : Int)).toNat) := ⟨_, rfl⟩
  refine wp_cutq R24 ?_ ?_
  · refine wp_block ?_
    obtain ⟨fu26, h22⟩ := loopO_some h22
    obtain ⟨I25, hI25⟩ : ∃ I : Nat → Act → World → Prop, I = fun fu a w => ∃ (u12 : List Int) (u16 : Int) (k13 : Chunk), loopN (fun s => laws_toIntS.s0 l0 s.1 s.2) fu (u12, u16) = some o21 ∧ Kn [(0, (.slice A0_ l0.length p0_)), (3, (.slice (some ⟨b4, 0, none⟩) (((l0.length : Int)).toNat) (((l0.length : Int)).toNat))), (4, (.int .i64 u16))] 22 a ∧ Sat [] w0 w [(1, k0_)] [(2, k13)] ∧ Own (Lay.int .i64) 3 (some ⟨b4, 0, none⟩) (((l0.length : Int)).toNat) u12 k13 ∧ u12.length = (((l0.length : Int)).toNat) := ⟨_, rfl⟩
    refine wp_loop_ghost I25 fu26 ?_ ?_
    · rw [hI25]
      exact ⟨(List.replicate ((l0.length : Int)).toNat (0 : Int)), 0, _, h22, (hk.c 0 rfl (hk.c 3 rfl (hk.c 4 rfl hk.k))), (hs.pick [(2, 2)] rfl), o6, lh7⟩
    · clear h22 hk hs
      intro fu26 a w hI0
      rw [hI25] at hI0
      obtain ⟨u12, u16, k13, hi, hk, hs, o14, lh15⟩ := hI0
      obtain ⟨x27, H, h28⟩ := loop_round hi
      try dsimp only at H
      unfold laws_toIntS.s0 at H
      apply wp_seq_k; intro K29 hK29
      apply wp_seq_k; intro K30 hK30
      apply wp_region_lit
      refine sm _ rfl hk rfl rfl rfl fun a hk => ?_
      refine sm _ rfl hk rfl rfl rfl fun a hk => ?_
      refine sle rfl hk rfl rfl rfl un22 fun a hk => ?_
      refine sv (.bool (decide (u16 < (l0.length : Int)))) hk rfl rfl rfl fun a hk => ?_
      show wpList _ _ _ [] _ _
      refine wpList_nil ?_
      refine hK30 _ _ ?_
      rcases cond_some H with ⟨c31, H⟩ | ⟨c31, H⟩
      · have hk := hk.lit 11 c31 rfl
        refine cnd_true hk rfl rfl ?_
        refine wp_skip ?_
        refine hK29 _ _ ?_
        apply wp_seq_k; intro K32 hK32
        refine wp_block ?_
        apply wp_region_lit
        refine sm _ rfl hk rfl rfl rfl fun a hk => ?_
        refine sm _ rfl hk rfl rfl rfl fun a hk => ?_
        refine sm _ rfl hk rfl rfl rfl fun a hk => ?_
        refine sm _ rfl hk rfl rfl rfl fun a hk => ?_
        rcases ite_some H with ⟨c33, H⟩ | ⟨_, H⟩
        rotate_left
        · cases H
        obtain ⟨b34, q35, hAc33⟩ := (v0_).some_ u16 c33.1 c33.2
        refine si rfl hk rfl rfl rfl rfl un22 sz3 c33.1 c33.2 hAc33 fun a hk => ?_
        obtain ⟨_, rfl, e36⟩ := (v0_).at_ 0 u16 c33.1 c33.2
        refine sl (v := (.int .i64 (l0.getD u16.toNat 0))) rfl hk rfl rfl rfl ag3 ((e36 0 _ rfl).cell (hs.hasD (k := 1) rfl)) fun a hk => ?_
        rcases ite_some H with ⟨c37, H⟩ | ⟨_, H⟩
        rotate_left
        · cases H
        obtain ⟨b38, q39, hAc37⟩ := (o14.view).some_ u16 c37.1 (by rw [lh15]; exact c37.2)
        refine si rfl hk rfl rfl rfl rfl un22 sz3 c37.1 c37.2 hAc37 fun a hk => ?_
        refine so (j := 0) 2 0 (l0.getD u16.toNat 0) hs rfl o14 c37.1 (by rw [lh15]; exact c37.2) rfl hk rfl rfl rfl rfl rfl sz3 (by simp [Value.cells, Value.oneCell']) (Nat.le_of_ble_eq_true rfl) (fun _ _ h => ⟨by rw [h.1]; rfl, h.2⟩) fun k40 w a hk o41 hs => ?_
        have lh42 : (u12.set u16.toNat (l0.getD u16.toNat 0)).length = (((l0.length : Int)).toNat) := by rw [List.length_set]; exact lh15
        show wpList _ _ _ [] _ _
        refine wpList_nil ?_
        refine hK32 _ _ ?_
        apply wp_region_lit
        refine sm _ rfl hk rfl rfl rfl fun a hk => ?_
        refine sv (.int .i64 (w64 (u16 + 1))) hk rfl rfl rfl fun a hk => ?_
        refine sa _ rfl hk rfl rfl rfl fun a hk => ?_
        show wpList _ _ _ [] _ _
        refine wpList_nil ?_
        obtain rfl := Option.some.inj H
        obtain ⟨m43, hmm43, h28⟩ := h28
        show ∃ n', n' < _ ∧ I25 n' _ _
        refine ⟨m43, hmm43, ?_⟩
        rw [hI25]
        exact ⟨(u12.set u16.toNat (l0.getD u16.toNat 0)), (w64 (u16 + 1)), _, h28, (hk.c 0 rfl (hk.c 3 rfl (hk.c 4 rfl hk.k))), (hs.pick [(2, 2)] rfl), o41, lh42⟩
      · have hk := hk.lit 11 c31 rfl
        refine cnd_false hk rfl rfl ?_
        refine wp_exit ?_
        obtain rfl := Option.some.inj H
        show R24 _ _
        rw [hR24]
        exact ⟨u12, _, h28.symm, (hk.c 3 rfl hk.k), (hs.pick [(2, 2)] rfl), o14, lh15⟩
  · intro a w hR0
    rw [hR24] at hR0
    obtain ⟨u17, k18, rfl, hk, hs, o19, lh20⟩ := hR0
    have H := HL23
    try dsimp only at H
    refine hK8 _ _ ?_
    apply wp_seq_k; intro K44 hK44
    apply wp_region_lit
    refine sm _ rfl hk rfl rfl rfl fun a hk => ?_
    refine sa _ rfl hk rfl rfl rfl fun a hk => ?_
    show wpList _ _ _ [] _ _
    refine wpList_nil ?_
    refine hK44 _ _ ?_
    refine wp_ret ?_
    obtain rfl := Option.some.inj H
    exact fin hk _ [(.slice (some ⟨b4, 0, none⟩) (((l0.length : Int)).toNat) (((l0.length : Int)).toNat))] rfl ⟨rfl, trivial⟩ ⟨(some ⟨b4, 0, none⟩), (((l0.length : Int)).toNat), _, (by first | (rw [lh20]; done) | (rw [lh20]; rfl)), o19, (hs.pick [(0, 2)] rfl).dnil⟩

noncomputable def laws_toBlock.f (x0 : S_Block) : Option (S_Block) :=
  (some (⟨x0.Id, x0.Leaf, x0.Value⟩ : S_Block))
set_option maxRecDepth 100000 in
set_option maxHeartbeats 0 in
theorem laws_toBlock_t (w0 : World) (x0 : S_Block) (r : S_Block) (H : laws_toBlock.f x0 = some r) :
    Calls Try.prog 128 #[.agg #[.int .i64 x0.Id, .int .i64 x0.Leaf, .int .i64 x0.Value]] w0 (Ret (fun v w => v = .agg #[.int .i64 r.Id, .int .i64 r.Leaf, .int .i64 r.Value] ∧ Sat [] w0 w [] [])) := by
  have hs : Sat [] w0 w0 [] [] := Sat.init w0 [] [] (by simp) (by simp) List.nodup_nil (by simp [blks])
  unfold laws_toBlock.f at H
  refine enter Try.func128 rfl Try.ntmps128 rfl fun a hk => ?_
  apply wp_seq_k; intro K1 hK1
  apply wp_region_lit
  refine sbx 1 hs rfl hk rfl rfl rfl rfl fun b2 w a hk hs => ?_
  refine salx 2 hs rfl hk rfl rfl ze102 rfl fun b3 w a hk hs => ?_
  show wpList _ _ _ [] _ _
  refine wpList_nil ?_
  refine hK1 _ _ ?_
  apply wp_seq_k; intro K4 hK4
  apply wp_region_lit
  refine salx 3 hs rfl hk rfl rfl ze102 rfl fun b5 w a hk hs => ?_
  show wpList _ _ _ [] _ _
  refine wpList_nil ?_
  refine hK4 _ _ ?_
  apply wp_seq_k; intro K6 hK6
  apply wp_region_lit
  refine sf ⟨b2, 0, none⟩ rfl hk rfl rfl rfl fd135_0 rfl fun a hk => ?_
  refine sl rfl hk rfl rfl rfl ag3 (box_cell hs (k := 1) rfl rfl) fun a hk => ?_
  refine sf ⟨b5, 0, none⟩ rfl hk rfl rfl rfl fd102_0 rfl fun a hk => ?_
  refine ssx (cs' := #[.int .i64 x0.Id, .int .i64 0, .int .i64 0]) 3 hs rfl rfl hk rfl rfl rfl rfl sz3 rfl rfl rfl rfl fun w a hk hs => ?_
  show wpList _ _ _ [] _ _
  refine wpList_nil ?_
  refine hK6 _ _ ?_
  apply wp_seq_k; intro K7 hK7
  apply wp_region_lit
  refine sf ⟨b2, 1, none⟩ rfl hk rfl rfl rfl fd135_1 rfl fun a hk => ?_
  refine sl rfl hk rfl rfl rfl ag3 (box_cell hs (k := 1) rfl rfl) fun a hk => ?_
  refine sf ⟨b5, 1, none⟩ rfl hk rfl rfl rfl fd102_1 rfl fun a hk => ?_
  refine ssx (cs' := #[.int .i64 x0.Id, .int .i64 x0.Leaf, .int .i64 0]) 3 hs rfl rfl hk rfl rfl rfl rfl sz3 rfl rfl rfl rfl fun w a hk hs => ?_
  show wpList _ _ _ [] _ _
  refine wpList_nil ?_
  refine hK7 _ _ ?_
  apply wp_seq_k; intro K8 hK8
  apply wp_region_lit
  refine sf ⟨b2, 2, none⟩ rfl hk rfl rfl rfl fd135_2 rfl fun a hk => ?_
  refine sl rfl hk rfl rfl rfl ag3 (box_cell hs (k := 1) rfl rfl) fun a hk => ?_
  refine sf ⟨b5, 2, none⟩ rfl hk rfl rfl rfl fd102_2 rfl fun a hk => ?_
  refine ssx (cs' := #[.int .i64 x0.Id, .int .i64 x0.Leaf, .int .i64 x0.Value]) 3 hs rfl rfl hk rfl rfl rfl rfl sz3 rfl rfl rfl rfl fun w a hk hs => ?_
  show wpList _ _ _ [] _ _
  refine wpList_nil ?_
  refine hK8 _ _ ?_
  apply wp_seq_k; intro K9 hK9
  apply wp_region_lit
  refine sln [.int .i64 x0.Id, .int .i64 x0.Leaf, .int .i64 x0.Value] rfl hk rfl rfl rfl ag102 sz102 (box_cells hs (k := 3) rfl) fun a hk => ?_
  refine ssw 2 hs rfl rfl hk rfl rfl rfl rfl sz102 (by simp [Value.oneCell']) rfl fun w a hk hs => ?_
  show wpList _ _ _ [] _ _
  refine wpList_nil ?_
  refine hK9 _ _ ?_
  refine wp_ret ?_
  obtain rfl := Option.some.inj H
  exact fin hk _ [(.agg #[.int .i64 x0.Id, .int .i64 x0.Leaf, .int .i64 x0.Value])] rfl ⟨⟨_, rfl, run_loadN ag102 sz102 (box_cells hs (k := 2) rfl)⟩, trivial⟩ ⟨rfl, (hs.pick [] rfl).dnil⟩

noncomputable def laws_toBlockS.s0 (l0 : List S_Block) (u12 : List S_Block) (u16 : Int) : Option (((List S_Block) × Int) ⊕ Ex ((List S_Block)) ((List S_Block))) :=
  (bif (decide (u16 < (l0.length : Int))) then (if 0 ≤ u16 ∧ u16 < (l0.length : Int) then ((laws_toBlock.f (l0.getD u16.toNat z_Block)).bind fun y37 => (if 0 ≤ u16 ∧ u16 < ((((l0.length : Int)).toNat) : Int) then (some (.inl ((u12.set u16.toNat y37), (w64 (u16 + 1))))) else none)) else none) else (some (.inr (.out u12))))
noncomputable def laws_toBlockS.f (l0 : List S_Block) : Option ((List S_Block)) :=
  (if 0 ≤ (l0.length : Int) ∧ (l0.length : Int) ≤ 1073741824 then ((loopO (fun s => laws_toBlockS.s0 l0 s.1 s.2) ((List.replicate ((l0.length : Int)).toNat z_Block), 0)).bind fun o => match o with | .out u17 => (some u17) | .ret r => (some r)) else none)
set_option maxRecDepth 100000 in
set_option maxHeartbeats 0 in
theorem laws_toBlockS_t (w0 : World) (A0_ : Option Addr) (p0_ : Nat) (l0 : List S_Block) (k0_ : Chunk) (v0_ : View L_Block A0_ p0_ l0 k0_) (w0_ : Has w0 k0_) (r : (List S_Block)) (H : laws_toBlockS.f l0 = some r) :
    Calls Try.prog 61 #[.slice A0_ l0.length p0_] w0 (Ret (fun v w => ∃ (A0 : Option Addr) (p0 : Nat) (k0 : Chunk), v = .slice A0 r.length p0 ∧ Own L_Block 102 A0 p0 r k0 ∧ Sat [] w0 w [] [(0, k0)])) := by
  have hs : Sat [] w0 w0 [(1, k0_)] [] := Sat.init w0 [(1, k0_)] [] (by simp only [List.mem_cons, List.not_mem_nil, or_false]; rintro x (rfl) <;> assumption) (by simp) List.nodup_nil (by simp [blks])
  unfold laws_toBlockS.f at H
  refine enter Try.func61 rfl Try.ntmps61 rfl fun a hk => ?_
  apply wp_seq_k; intro K1 hK1
  apply wp_region_lit
  refine sa _ rfl hk rfl rfl rfl fun a hk => ?_
  show wpList _ _ _ [] _ _
  refine wpList_nil ?_
  refine hK1 _ _ ?_
  apply wp_seq_k; intro K2 hK2
  apply wp_region_lit
  refine sm _ rfl hk rfl rfl rfl fun a hk => ?_
  refine sle rfl hk rfl rfl rfl un23 fun a hk => ?_
  rcases ite_some H with ⟨c3, H⟩ | ⟨_, H⟩
  rotate_left
  · cases H
  refine smk 2 L_Block hs rfl hk rfl rfl rfl rfl un28 mk102 lz102 rfl rfl c3.1 c3.2 fun b4 k5 w a hk o6 hs => ?_
  have lh7 : (List.replicate ((l0.length : Int)).toNat z_Block).length = ((l0.length : Int)).toNat := List.length_replicate
  refine sa _ rfl hk rfl rfl rfl fun a hk => ?_
  show wpList _ _ _ [] _ _
  refine wpList_nil ?_
  refine hK2 _ _ ?_
  apply wp_seq_k; intro K8 hK8
  apply wp_seq_k; intro K9 hK9
  apply wp_region_lit
  refine sa _ rfl hk rfl rfl rfl fun a hk => ?_
  show wpList _ _ _ [] _ _
  refine wpList_nil ?_
  refine hK9 _ _ ?_
  obtain ⟨o21, h22, HL23⟩ := bind_some H
  clear H
  obtain ⟨R24, hR24⟩ : ∃ R : Act → World → Prop, R = fun a w => ∃ (u17 : List S_Block) (k18 : Chunk), o21 = .out u17 ∧ Kn [(3, (.slice (some ⟨b4, 0, none⟩) (((l0.length : Int)).toNat) (((l0.length : Int)).toNat)))] 23 a ∧ Sat [] w0 w [(1, k0_)] [(2, k18)] ∧ Own L_Block 102 (some ⟨b4, 0, none⟩) (((l0.length : Int)).toNat) u17 k18 ∧ u17.length = (((l0.length : Int)).toNat) := ⟨_, rfl⟩
  refine wp_cutq R24 ?_ ?_
  · refine wp_block ?_
    obtain ⟨fu26, h22⟩ := loopO_some h22
    obtain ⟨I25, hI25⟩ : ∃ I : Nat → Act → World → Prop, I = fun fu a w => ∃ (u12 : List S_Block) (u16 : Int) (k13 : Chunk), loopN (fun s => laws_toBlockS.s0 l0 s.1 s.2) fu (u12, u16) = some o21 ∧ Kn [(0, (.slice A0_ l0.length p0_)), (3, (.slice (some ⟨b4, 0, none⟩) (((l0.length : Int)).toNat) (((l0.length : Int)).toNat))), (4, (.int .i64 u16))] 23 a ∧ Sat [] w0 w [(1, k0_)] [(2, k13)] ∧ Own L_Block 102 (some ⟨b4, 0, none⟩) (((l0.length : Int)).toNat) u12 k13 ∧ u12.length = (((l0.length : Int)).toNat) := ⟨_, rfl⟩
    refine wp_loop_ghost I25 fu26 ?_ ?_
    · rw [hI25]
      exact ⟨(List.replicate ((l0.length : Int)).toNat z_Block), 0, _, h22, (hk.c 0 rfl (hk.c 3 rfl (hk.c 4 rfl hk.k))), (hs.pick [(2, 2)] rfl), o6, lh7⟩
    · clear h22 hk hs
      intro fu26 a w hI0
      rw [hI25] at hI0
      obtain ⟨u12, u16, k13, hi, hk, hs, o14, lh15⟩ := hI0
      obtain ⟨x27, H, h28⟩ := loop_round hi
      try dsimp only at H
      unfold laws_toBlockS.s0 at H
      apply wp_seq_k; intro K29 hK29
      apply wp_seq_k; intro K30 hK30
      apply wp_region_lit
      refine sm _ rfl hk rfl rfl rfl fun a hk => ?_
      refine sm _ rfl hk rfl rfl rfl fun a hk => ?_
      refine sle rfl hk rfl rfl rfl un23 fun a hk => ?_
      refine sv (.bool (decide (u16 < (l0.length : Int)))) hk rfl rfl rfl fun a hk => ?_
      show wpList _ _ _ [] _ _
      refine wpList_nil ?_
      refine hK30 _ _ ?_
      rcases cond_some H with ⟨c31, H⟩ | ⟨c31, H⟩
      · have hk := hk.lit 11 c31 rfl
        refine cnd_true hk rfl rfl ?_
        refine wp_skip ?_
        refine hK29 _ _ ?_
        apply wp_seq_k; intro K32 hK32
        refine wp_block ?_
        apply wp_region_lit
        refine sm _ rfl hk rfl rfl rfl fun a hk => ?_
        refine sm _ rfl hk rfl rfl rfl fun a hk => ?_
        refine sm _ rfl hk rfl rfl rfl fun a hk => ?_
        refine sm _ rfl hk rfl rfl rfl fun a hk => ?_
        rcases ite_some H with ⟨c33, H⟩ | ⟨_, H⟩
        rotate_left
        · cases H
        obtain ⟨b34, q35, hAc33⟩ := (v0_).some_ u16 c33.1 c33.2
        refine si rfl hk rfl rfl rfl rfl un23 sz135 c33.1 c33.2 hAc33 fun a hk => ?_
        obtain ⟨_, rfl, e36⟩ := (v0_).at_ z_Block u16 c33.1 c33.2
        refine sln [.int .i64 ((l0.getD u16.toNat z_Block).Id), .int .i64 ((l0.getD u16.toNat z_Block).Leaf), .int .i64 ((l0.getD u16.toNat z_Block).Value)] rfl hk rfl rfl rfl ag135 sz135 (cells_at e36 (hs.hasD (k := 1) rfl)) fun a hk => ?_
        obtain ⟨y37, h38, H⟩ := bind_some H
        refine sc rfl en128 hk rfl rfl rfl (laws_toBlock_t _ (l0.getD u16.toNat z_Block) _ h38) ?_
        rintro _ w ⟨rfl, hG⟩ a hk
        have hs := hs.call0 hG
        rcases ite_some H with ⟨c39, H⟩ | ⟨_, H⟩
        rotate_left
        · cases H
        obtain ⟨b40, q41, hAc39⟩ := (o14.view).some_ u16 c39.1 (by rw [lh15]; exact c39.2)
        refine si rfl hk rfl rfl rfl rfl un28 sz102 c39.1 c39.2 hAc39 fun a hk => ?_
        refine so (j := 0) 2 z_Block y37 hs rfl o14 c39.1 (by rw [lh15]; exact c39.2) rfl hk rfl rfl rfl rfl rfl sz102 (by simp [Value.cells, Value.oneCell']) (Nat.le_of_ble_eq_true rfl) (fun _ _ h => ⟨by rw [h.1]; rfl, h.2⟩) fun k42 w a hk o43 hs => ?_
        have lh44 : (u12.set u16.toNat y37).length = (((l0.length : Int)).toNat) := by rw [List.length_set]; exact lh15
        show wpList _ _ _ [] _ _
        refine wpList_nil ?_
        refine hK32 _ _ ?_
        apply wp_region_lit
        refine sm _ rfl hk rfl rfl rfl fun a hk => ?_
        refine sv (.int .i64 (w64 (u16 + 1))) hk rfl rfl rfl fun a hk => ?_
        refine sa _ rfl hk rfl rfl rfl fun a hk => ?_
        show wpList _ _ _ [] _ _
        refine wpList_nil ?_
        obtain rfl := Option.some.inj H
        obtain ⟨m45, hmm45, h28⟩ := h28
        show ∃ n', n' < _ ∧ I25 n' _ _
        refine ⟨m45, hmm45, ?_⟩
        rw [hI25]
        exact ⟨(u12.set u16.toNat y37), (w64 (u16 + 1)), _, h28, (hk.c 0 rfl (hk.c 3 rfl (hk.c 4 rfl hk.k))), (hs.pick [(2, 2)] rfl), o43, lh44⟩
      · have hk := hk.lit 11 c31 rfl
        refine cnd_false hk rfl rfl ?_
        refine wp_exit ?_
        obtain rfl := Option.some.inj H
        show R24 _ _
        rw [hR24]
        exact ⟨u12, _, h28.symm, (hk.c 3 rfl hk.k), (hs.pick [(2, 2)] rfl), o14, lh15⟩
  · intro a w hR0
    rw [hR24] at hR0
    obtain ⟨u17, k18, rfl, hk, hs, o19, lh20⟩ := hR0
    have H := HL23
    try dsimp only at H
    refine hK8 _ _ ?_
    apply wp_seq_k; intro K46 hK46
    apply wp_region_lit
    refine sm _ rfl hk rfl rfl rfl fun a hk => ?_
    refine sa _ rfl hk rfl rfl rfl fun a hk => ?_
    show wpList _ _ _ [] _ _
    refine wpList_nil ?_
    refine hK46 _ _ ?_
    refine wp_ret ?_
    obtain rfl := Option.some.inj H
    exact fin hk _ [(.slice (some ⟨b4, 0, none⟩) (((l0.length : Int)).toNat) (((l0.length : Int)).toNat))] rfl ⟨rfl, trivial⟩ ⟨(some ⟨b4, 0, none⟩), (((l0.length : Int)).toNat), _, (by first | (rw [lh20]; done) | (rw [lh20]; rfl)), o19, (hs.pick [(0, 2)] rfl).dnil⟩

noncomputable def laws_toBlockSS.s0 (l0 : List (List S_Block)) (u12 : List (List S_Block)) (u16 : Int) : Option (((List (List S_Block)) × Int) ⊕ Ex ((List (List S_Block))) ((List (List S_Block)))) :=
  (bif (decide (u16 < (l0.length : Int))) then (if 0 ≤ u16 ∧ u16 < (l0.length : Int) then ((laws_toBlockS.f (l0.getD u16.toNat [])).bind fun y40 => (if 0 ≤ u16 ∧ u16 < ((((l0.length : Int)).toNat) : Int) then (some (.inl ((u12.set u16.toNat y40), (w64 (u16 + 1))))) else none)) else none) else (some (.inr (.out u12))))
noncomputable def laws_toBlockSS.f (l0 : List (List S_Block)) : Option ((List (List S_Block))) :=
  (if 0 ≤ (l0.length : Int) ∧ (l0.length : Int) ≤ 1073741824 then ((loopO (fun s => laws_toBlockSS.s0 l0 s.1 s.2) ((List.replicate ((l0.length : Int)).toNat ([] : List S_Block)), 0)).bind fun o => match o with | .out u17 => (some u17) | .ret r => (some r)) else none)
set_option maxRecDepth 100000 in
set_option maxHeartbeats 0 in
theorem laws_toBlockSS_t (w0 : World) (A0_ : Option Addr) (p0_ : Nat) (l0 : List (List S_Block)) (k0_ : Chunk) (v0_ : View (Lay.sl L_Block 135) A0_ p0_ l0 k0_) (w0_ : Has w0 k0_) (r : (List (List S_Block))) (H : laws_toBlockSS.f l0 = some r) :
    Calls Try.prog 62 #[.slice A0_ l0.length p0_] w0 (Ret (fun v w => ∃ (A0 : Option Addr) (p0 : Nat) (k0 : Chunk), v = .slice A0 r.length p0 ∧ Own (Lay.sl L_Block 102) 28 A0 p0 r k0 ∧ Sat [] w0 w [] [(0, k0)])) := by
  have hs : Sat [] w0 w0 [(1, k0_)] [] := Sat.init w0 [(1, k0_)] [] (by simp only [List.mem_cons, List.not_mem_nil, or_false]; rintro x (rfl) <;> assumption) (by simp) List.nodup_nil (by simp [blks])
  unfold laws_toBlockSS.f at H
  refine enter Try.func62 rfl Try.ntmps62 rfl fun a hk => ?_
  apply wp_seq_k; intro K1 hK1
  apply wp_region_lit
  refine sa _ rfl hk rfl rfl rfl fun a hk => ?_
  show wpList _ _ _ [] _ _
  refine wpList_nil ?_
  refine hK1 _ _ ?_
  apply wp_seq_k; intro K2 hK2
  apply wp_region_lit
  refine sm _ rfl hk rfl rfl rfl fun a hk => ?_
  refine sle rfl hk rfl rfl rfl un24 fun a hk => ?_
  rcases ite_some H with ⟨c3, H⟩ | ⟨_, H⟩
  rotate_left
  · cases H
  refine smk 2 (Lay.sl L_Block 102) hs rfl hk rfl rfl rfl rfl un29 mk28 lz28 rfl rfl c3.1 c3.2 fun b4 k5 w a hk o6 hs => ?_
  have lh7 : (List.replicate ((l0.length : Int)).toNat ([] : List S_Block)).length = ((l0.length : Int)).toNat := List.length_replicate
  refine sa _ rfl hk rfl rfl rfl fun a hk => ?_
  show wpList _ _ _ [] _ _
  refine wpList_nil ?_
  refine hK2 _ _ ?_
  apply wp_seq_k; intro K8 hK8
  apply wp_seq_k; intro K9 hK9
  apply wp_region_lit
  refine sa _ rfl hk rfl rfl rfl fun a hk => ?_
  show wpList _ _ _ [] _ _
  refine wpList_nil ?_
  refine hK9 _ _ ?_
  obtain ⟨o21, h22, HL23⟩ := bind_some H
  clear H
  obtain ⟨R24, hR24⟩ : ∃ R : Act → World → Prop, R = fun a w => ∃ (u17 : List (List S_Block)) (k18 : Chunk), o21 = .out u17 ∧ Kn [(3, (.slice (some ⟨b4, 0, none⟩) (((l0.length : Int)).toNat) (((l0.length : Int)).toNat)))] 23 a ∧ Sat [] w0 w [(1, k0_)] [(2, k18)] ∧ Own (Lay.sl L_Block 102) 28 (some ⟨b4, 0, none⟩) (((l0.length : Int)).toNat) u17 k18 ∧ u17.length = (((l0.length : Int)).toNat) := ⟨_, rfl⟩
  refine wp_cutq R24 ?_ ?_
  · refine wp_block ?_
    obtain ⟨fu26, h22⟩ := loopO_some h22
    obtain ⟨I25, hI25⟩ : ∃ I : Nat → Act → World → Prop, I = fun fu a w => ∃ (u12 : List (List S_Block)) (u16 : Int) (k13 : Chunk), loopN (fun s => laws_toBlockSS.s0 l0 s.1 s.2) fu (u12, u16) = some o21 ∧ Kn [(0, (.slice A0_ l0.length p0_)), (3, (.slice (some ⟨b4, 0, none⟩) (((l0.length : Int)).toNat) (((l0.length : Int)).toNat))), (4, (.int .i64 u16))] 23 a ∧ Sat [] w0 w [(1, k0_)] [(2, k13)] ∧ Own (Lay.sl L_Block 102) 28 (some ⟨b4, 0, none⟩) (((l0.length : Int)).toNat) u12 k13 ∧ u12.length = (((l0.length : Int)).toNat) := ⟨_, rfl⟩
    refine wp_loop_ghost I25 fu26 ?_ ?_
    · rw [hI25]
      exact ⟨(List.replicate ((l0.length : Int)).toNat ([] : List S_Block)), 0, _, h22, (hk.c 0 rfl (hk.c 3 rfl (hk.c 4 rfl hk.k))), (hs.pick [(2, 2)] rfl), o6, lh7⟩
    · clear h22 hk hs
      intro fu26 a w hI0
      rw [hI25] at hI0
      obtain ⟨u12, u16, k13, hi, hk, hs, o14, lh15⟩ := hI0
      obtain ⟨x27, H, h28⟩ := loop_round hi
      try dsimp only at H
      unfold laws_toBlockSS.s0 at H
      apply wp_seq_k; intro K29 hK29
      apply wp_seq_k; intro K30 hK30
      apply wp_region_lit
      refine sm _ rfl hk rfl rfl rfl fun a hk => ?_
      refine sm _ rfl hk rfl rfl rfl fun a hk => ?_
      refine sle rfl hk rfl rfl rfl un24 fun a hk => ?_
      refine sv (.bool (decide (u16 < (l0.length : Int)))) hk rfl rfl rfl fun a hk => ?_
      show wpList _ _ _ [] _ _
      refine wpList_nil ?_
      refine hK30 _ _ ?_
      rcases cond_some H with ⟨c31, H⟩ | ⟨c31, H⟩
      · have hk := hk.lit 11 c31 rfl
        refine cnd_true hk rfl rfl ?_
        refine wp_skip ?_
        refine hK29 _ _ ?_
        apply wp_seq_k; intro K32 hK32
        refine wp_block ?_
        apply wp_region_lit
        refine sm _ rfl hk rfl rfl rfl fun a hk => ?_
        refine sm _ rfl hk rfl rfl rfl fun a hk => ?_
        refine sm _ rfl hk rfl rfl rfl fun a hk => ?_
        refine sm _ rfl hk rfl rfl rfl fun a hk => ?_
        rcases ite_some H with ⟨c33, H⟩ | ⟨_, H⟩
        rotate_left
        · cases H
        obtain ⟨b34, q35, hAc33⟩ := (v0_).some_ u16 c33.1 c33.2
        refine si rfl hk rfl rfl rfl rfl un24 sz23 c33.1 c33.2 hAc33 fun a hk => ?_
        obtain ⟨_, ⟨_, rfl, A37, p38, rfl, v39⟩, e36⟩ := (v0_).at_ [] u16 c33.1 c33.2
        refine sl (v := (.slice A37 (l0.getD u16.toNat []).length p38)) rfl hk rfl rfl rfl ag23 ((e36 0 _ rfl).cell (hs.hasD (k := 1) rfl)) fun a hk => ?_
        obtain ⟨y40, h41, H⟩ := bind_some H
        refine sc rfl en61 hk rfl rfl rfl (laws_toBlockS_t _ A37 p38 (l0.getD u16.toNat []) _ v39 (hs.hasD (k := 1) rfl) _ h41) ?_
        rintro _ w ⟨A42, p43, k44, rfl, o45, hG⟩ a hk
        have hs := hs.call0k hG [4] rfl
        rcases ite_some H with ⟨c46, H⟩ | ⟨_, H⟩
        rotate_left
        · cases H
        obtain ⟨b47, q48, hAc46⟩ := (o14.view).some_ u16 c46.1 (by rw [lh15]; exact c46.2)
        refine si rfl hk rfl rfl rfl rfl un29 sz28 c46.1 c46.2 hAc46 fun a hk => ?_
        refine som 2 4 [] y40 hs rfl rfl o14 c46.1 (by rw [lh15]; exact c46.2) rfl hk rfl rfl rfl rfl rfl sz28 (by simp [Value.cells, Value.oneCell']) rfl ⟨_, rfl, o45.toV⟩ fun k49 w a hk o50 hs => ?_
        have lh51 : (u12.set u16.toNat y40).length = (((l0.length : Int)).toNat) := by rw [List.length_set]; exact lh15
        show wpList _ _ _ [] _ _
        refine wpList_nil ?_
        refine hK32 _ _ ?_
        apply wp_region_lit
        refine sm _ rfl hk rfl rfl rfl fun a hk => ?_
        refine sv (.int .i64 (w64 (u16 + 1))) hk rfl rfl rfl fun a hk => ?_
        refine sa _ rfl hk rfl rfl rfl fun a hk => ?_
        show wpList _ _ _ [] _ _
        refine wpList_nil ?_
        obtain rfl := Option.some.inj H
        obtain ⟨m52, hmm52, h28⟩ := h28
        show ∃ n', n' < _ ∧ I25 n' _ _
        refine ⟨m52, hmm52, ?_⟩
        rw [hI25]
        exact ⟨(u12.set u16.toNat y40), (w64 (u16 + 1)), _, h28, (hk.c 0 rfl (hk.c 3 rfl (hk.c 4 rfl hk.k))), (hs.pick [(2, 2)] rfl), o50, lh51⟩
      · have hk := hk.lit 11 c31 rfl
        refine cnd_false hk rfl rfl ?_
        refine wp_exit ?_
        obtain rfl := Option.some.inj H
        show R24 _ _
        rw [hR24]
        exact ⟨u12, _, h28.symm, (hk.c 3 rfl hk.k), (hs.pick [(2, 2)] rfl), o14, lh15⟩
  · intro a w hR0
    rw [hR24] at hR0
    obtain ⟨u17, k18, rfl, hk, hs, o19, lh20⟩ := hR0
    have H := HL23
    try dsimp only at H
    refine hK8 _ _ ?_
    apply wp_seq_k; intro K53 hK53
    apply wp_region_lit
    refine sm _ rfl hk rfl rfl rfl fun a hk => ?_
    refine sa _ rfl hk rfl rfl rfl fun a hk => ?_
    show wpList _ _ _ [] _ _
    refine wpList_nil ?_
    refine hK53 _ _ ?_
    refine wp_ret ?_
    obtain rfl := Option.some.inj H
    exact fin hk _ [(.slice (some ⟨b4, 0, none⟩) (((l0.length : Int)).toNat) (((l0.length : Int)).toNat))] rfl ⟨rfl, trivial⟩ ⟨(some ⟨b4, 0, none⟩), (((l0.length : Int)).toNat), _, (by first | (rw [lh20]; done) | (rw [lh20]; rfl)), o19, (hs.pick [(0, 2)] rfl).dnil⟩

noncomputable def laws_toOram.f (x0 : S_Oram) : Option (S_Oram) :=
  ((laws_toIntS.f x0.Pos).bind fun y7 => ((laws_toBlockS.f x0.Stash).bind fun y14 => ((laws_toBlockSS.f x0.Buckets).bind fun y21 => (some (⟨y7, y14, y21⟩ : S_Oram)))))
set_option maxRecDepth 100000 in
set_option maxHeartbeats 0 in
theorem laws_toOram_t (w0 : World) (x0 : S_Oram) (A0_0 : Option Addr) (p0_0 : Nat) (k0_0 : Chunk) (v0_0 : View (Lay.int .i64) A0_0 p0_0 x0.Pos k0_0) (w0_0 : Has w0 k0_0) (A0_1 : Option Addr) (p0_1 : Nat) (k0_1 : Chunk) (v0_1 : View L_Block A0_1 p0_1 x0.Stash k0_1) (w0_1 : Has w0 k0_1) (A0_2 : Option Addr) (p0_2 : Nat) (k0_2 : Chunk) (v0_2 : View (Lay.sl L_Block 135) A0_2 p0_2 x0.Buckets k0_2) (w0_2 : Has w0 k0_2) (r : S_Oram) (H : laws_toOram.f x0 = some r) :
    Calls Try.prog 11 #[.agg #[.slice A0_0 x0.Pos.length p0_0, .slice A0_1 x0.Stash.length p0_1, .slice A0_2 x0.Buckets.length p0_2]] w0 (Ret (fun v w => ∃ (A0 : Option Addr) (p0 : Nat) (k0 : Chunk), ∃ (A1 : Option Addr) (p1 : Nat) (k1 : Chunk), ∃ (A2 : Option Addr) (p2 : Nat) (k2 : Chunk), v = .agg #[.slice A0 r.Pos.length p0, .slice A1 r.Stash.length p1, .slice A2 r.Buckets.length p2] ∧ Own (Lay.int .i64) 3 A0 p0 r.Pos k0 ∧ Own L_Block 102 A1 p1 r.Stash k1 ∧ Own (Lay.sl L_Block 102) 28 A2 p2 r.Buckets k2 ∧ Sat [] w0 w [] [(0, k0), (1, k1), (2, k2)])) := by
  have hs : Sat [] w0 w0 [(1, k0_0), (2, k0_1), (3, k0_2)] [] := Sat.init w0 [(1, k0_0), (2, k0_1), (3, k0_2)] [] (by simp only [List.mem_cons, List.not_mem_nil, or_false]; rintro x (rfl | rfl | rfl) <;> assumption) (by simp) List.nodup_nil (by simp [blks])
  unfold laws_toOram.f at H
  refine enter Try.func11 rfl Try.ntmps11 rfl fun a hk => ?_
  apply wp_seq_k; intro K1 hK1
  apply wp_region_lit
  refine sbx 4 hs rfl hk rfl rfl rfl rfl fun b2 w a hk hs => ?_
  refine salx 5 hs rfl hk rfl rfl ze31 rfl fun b3 w a hk hs => ?_
  show wpList _ _ _ [] _ _
  refine wpList_nil ?_
  refine hK1 _ _ ?_
  apply wp_seq_k; intro K4 hK4
  apply wp_region_lit
  refine salx 6 hs rfl hk rfl rfl ze31 rfl fun b5 w a hk hs => ?_
  show wpList _ _ _ [] _ _
  refine wpList_nil ?_
  refine hK4 _ _ ?_
  apply wp_seq_k; intro K6 hK6
  apply wp_region_lit
  refine sf ⟨b2, 0, none⟩ rfl hk rfl rfl rfl fd26_0 rfl fun a hk => ?_
  refine sl rfl hk rfl rfl rfl ag22 (box_cell hs (k := 4) rfl rfl) fun a hk => ?_
  obtain ⟨y7, h8, H⟩ := bind_some H
  refine sc rfl en60 hk rfl rfl rfl (laws_toIntS_t _ A0_0 p0_0 x0.Pos _ v0_0 (hs.hasD (k := 1) rfl) _ h8) ?_
  rintro _ w ⟨A9, p10, k11, rfl, o12, hG⟩ a hk
  have hs := hs.call0k hG [7] rfl
  refine sf ⟨b5, 0, none⟩ rfl hk rfl rfl rfl fd31_0 rfl fun a hk => ?_
  refine ssx (cs' := #[.slice A9 y7.length p10, .slice none 0 0, .slice none 0 0]) 6 hs rfl rfl hk rfl rfl rfl rfl sz22 rfl rfl rfl rfl fun w a hk hs => ?_
  show wpList _ _ _ [] _ _
  refine wpList_nil ?_
  refine hK6 _ _ ?_
  apply wp_seq_k; intro K13 hK13
  apply wp_region_lit
  refine sf ⟨b2, 1, none⟩ rfl hk rfl rfl rfl fd26_1 rfl fun a hk => ?_
  refine sl rfl hk rfl rfl rfl ag23 (box_cell hs (k := 4) rfl rfl) fun a hk => ?_
  obtain ⟨y14, h15, H⟩ := bind_some H
  refine sc rfl en61 hk rfl rfl rfl (laws_toBlockS_t _ A0_1 p0_1 x0.Stash _ v0_1 (hs.hasD (k := 2) rfl) _ h15) ?_
  rintro _ w ⟨A16, p17, k18, rfl, o19, hG⟩ a hk
  have hs := hs.call0k hG [8] rfl
  refine sf ⟨b5, 1, none⟩ rfl hk rfl rfl rfl fd31_1 rfl fun a hk => ?_
  refine ssx (cs' := #[.slice A9 y7.length p10, .slice A16 y14.length p17, .slice none 0 0]) 6 hs rfl rfl hk rfl rfl rfl rfl sz28 rfl rfl rfl rfl fun w a hk hs => ?_
  show wpList _ _ _ [] _ _
  refine wpList_nil ?_
  refine hK13 _ _ ?_
  apply wp_seq_k; intro K20 hK20
  apply wp_region_lit
  refine sf ⟨b2, 2, none⟩ rfl hk rfl rfl rfl fd26_2 rfl fun a hk => ?_
  refine sl rfl hk rfl rfl rfl ag24 (box_cell hs (k := 4) rfl rfl) fun a hk => ?_
  obtain ⟨y21, h22, H⟩ := bind_some H
  refine sc rfl en62 hk rfl rfl rfl (laws_toBlockSS_t _ A0_2 p0_2 x0.Buckets _ v0_2 (hs.hasD (k := 3) rfl) _ h22) ?_
  rintro _ w ⟨A23, p24, k25, rfl, o26, hG⟩ a hk
  have hs := hs.call0k hG [9] rfl
  refine sf ⟨b5, 2, none⟩ rfl hk rfl rfl rfl fd31_2 rfl fun a hk => ?_
  refine ssx (cs' := #[.slice A9 y7.length p10, .slice A16 y14.length p17, .slice A23 y21.length p24]) 6 hs rfl rfl hk rfl rfl rfl rfl sz29 rfl rfl rfl rfl fun w a hk hs => ?_
  show wpList _ _ _ [] _ _
  refine wpList_nil ?_
  refine hK20 _ _ ?_
  apply wp_seq_k; intro K27 hK27
  apply wp_region_lit
  refine sln [.slice A9 y7.length p10, .slice A16 y14.length p17, .slice A23 y21.length p24] rfl hk rfl rfl rfl ag31 sz31 (box_cells hs (k := 6) rfl) fun a hk => ?_
  refine ssw 5 hs rfl rfl hk rfl rfl rfl rfl sz31 (by simp [Value.oneCell']) rfl fun w a hk hs => ?_
  show wpList _ _ _ [] _ _
  refine wpList_nil ?_
  refine hK27 _ _ ?_
  refine wp_ret ?_
  obtain rfl := Option.some.inj H
  exact fin hk _ [(.agg #[.slice A9 y7.length p10, .slice A16 y14.length p17, .slice A23 y21.length p24])] rfl ⟨⟨_, rfl, run_loadN ag31 sz31 (box_cells hs (k := 5) rfl)⟩, trivial⟩ ⟨A9, p10, _, A16, p17, _, A23, p24, _, rfl, o12, o19, o26, (hs.pick [(0, 7), (1, 8), (2, 9)] rfl).dnil⟩

noncomputable def laws_toEnc.f (x0 : S_Enc) : Option (S_Enc) :=
  ((laws_toIntS.f x0.Keys).bind fun y7 => ((laws_toOram.f x0.Oram).bind fun y14 => (some (⟨y7, y14⟩ : S_Enc))))
set_option maxRecDepth 100000 in
set_option maxHeartbeats 0 in
theorem laws_toEnc_t (w0 : World) (x0 : S_Enc) (A0_0 : Option Addr) (p0_0 : Nat) (k0_0 : Chunk) (v0_0 : View (Lay.int .i64) A0_0 p0_0 x0.Keys k0_0) (w0_0 : Has w0 k0_0) (A0_1 : Option Addr) (p0_1 : Nat) (k0_1 : Chunk) (v0_1 : View (Lay.int .i64) A0_1 p0_1 x0.Oram.Pos k0_1) (w0_1 : Has w0 k0_1) (A0_2 : Option Addr) (p0_2 : Nat) (k0_2 : Chunk) (v0_2 : View L_Block A0_2 p0_2 x0.Oram.Stash k0_2) (w0_2 : Has w0 k0_2) (A0_3 : Option Addr) (p0_3 : Nat) (k0_3 : Chunk) (v0_3 : View (Lay.sl L_Block 135) A0_3 p0_3 x0.Oram.Buckets k0_3) (w0_3 : Has w0 k0_3) (r : S_Enc) (H : laws_toEnc.f x0 = some r) :
    Calls Try.prog 26 #[.agg #[.slice A0_0 x0.Keys.length p0_0, .slice A0_1 x0.Oram.Pos.length p0_1, .slice A0_2 x0.Oram.Stash.length p0_2, .slice A0_3 x0.Oram.Buckets.length p0_3]] w0 (Ret (fun v w => ∃ (A0 : Option Addr) (p0 : Nat) (k0 : Chunk), ∃ (A1 : Option Addr) (p1 : Nat) (k1 : Chunk), ∃ (A2 : Option Addr) (p2 : Nat) (k2 : Chunk), ∃ (A3 : Option Addr) (p3 : Nat) (k3 : Chunk), v = .agg #[.slice A0 r.Keys.length p0, .slice A1 r.Oram.Pos.length p1, .slice A2 r.Oram.Stash.length p2, .slice A3 r.Oram.Buckets.length p3] ∧ Own (Lay.int .i64) 3 A0 p0 r.Keys k0 ∧ Own (Lay.int .i64) 3 A1 p1 r.Oram.Pos k1 ∧ Own L_Block 102 A2 p2 r.Oram.Stash k2 ∧ Own (Lay.sl L_Block 102) 28 A3 p3 r.Oram.Buckets k3 ∧ Sat [] w0 w [] [(0, k0), (1, k1), (2, k2), (3, k3)])) := by
  have hs : Sat [] w0 w0 [(1, k0_0), (2, k0_1), (3, k0_2), (4, k0_3)] [] := Sat.init w0 [(1, k0_0), (2, k0_1), (3, k0_2), (4, k0_3)] [] (by simp only [List.mem_cons, List.not_mem_nil, or_false]; rintro x (rfl | rfl | rfl | rfl) <;> assumption) (by simp) List.nodup_nil (by simp [blks])
  unfold laws_toEnc.f at H
  refine enter Try.func26 rfl Try.ntmps26 rfl fun a hk => ?_
  apply wp_seq_k; intro K1 hK1
  apply wp_region_lit
  refine sbx 5 hs rfl hk rfl rfl rfl rfl fun b2 w a hk hs => ?_
  refine salx 6 hs rfl hk rfl rfl ze54 rfl fun b3 w a hk hs => ?_
  show wpList _ _ _ [] _ _
  refine wpList_nil ?_
  refine hK1 _ _ ?_
  apply wp_seq_k; intro K4 hK4
  apply wp_region_lit
  refine salx 7 hs rfl hk rfl rfl ze54 rfl fun b5 w a hk hs => ?_
  show wpList _ _ _ [] _ _
  refine wpList_nil ?_
  refine hK4 _ _ ?_
  apply wp_seq_k; intro K6 hK6
  apply wp_region_lit
  refine sf ⟨b2, 0, none⟩ rfl hk rfl rfl rfl fd48_0 rfl fun a hk => ?_
  refine sl rfl hk rfl rfl rfl ag22 (box_cell hs (k := 5) rfl rfl) fun a hk => ?_
  obtain ⟨y7, h8, H⟩ := bind_some H
  refine sc rfl en60 hk rfl rfl rfl (laws_toIntS_t _ A0_0 p0_0 x0.Keys _ v0_0 (hs.hasD (k := 1) rfl) _ h8) ?_
  rintro _ w ⟨A9, p10, k11, rfl, o12, hG⟩ a hk
  have hs := hs.call0k hG [8] rfl
  refine sf ⟨b5, 0, none⟩ rfl hk rfl rfl rfl fd54_0 rfl fun a hk => ?_
  refine ssx (cs' := #[.slice A9 y7.length p10, .slice none 0 0, .slice none 0 0, .slice none 0 0]) 7 hs rfl rfl hk rfl rfl rfl rfl sz22 rfl rfl rfl rfl fun w a hk hs => ?_
  show wpList _ _ _ [] _ _
  refine wpList_nil ?_
  refine hK6 _ _ ?_
  apply wp_seq_k; intro K13 hK13
  apply wp_region_lit
  refine sf ⟨b2, 1, none⟩ rfl hk rfl rfl rfl fd48_1 rfl fun a hk => ?_
  refine sln [.slice A0_1 x0.Oram.Pos.length p0_1, .slice A0_2 x0.Oram.Stash.length p0_2, .slice A0_3 x0.Oram.Buckets.length p0_3] rfl hk rfl rfl rfl ag26 sz26 (box_part hs (k := 5) rfl rfl) fun a hk => ?_
  obtain ⟨y14, h15, H⟩ := bind_some H
  refine sc rfl en11 hk rfl rfl rfl (laws_toOram_t _ x0.Oram A0_1 p0_1 _ v0_1 (hs.hasD (k := 2) rfl) A0_2 p0_2 _ v0_2 (hs.hasD (k := 3) rfl) A0_3 p0_3 _ v0_3 (hs.hasD (k := 4) rfl) _ h15) ?_
  rintro _ w ⟨A16, p17, k18, A20, p21, k22, A24, p25, k26, rfl, o19, o23, o27, hG⟩ a hk
  have hs := hs.call0k hG [9, 10, 11] rfl
  refine sf ⟨b5, 1, none⟩ rfl hk rfl rfl rfl fd54_1 rfl fun a hk => ?_
  refine ssp (cs' := #[.slice A9 y7.length p10, .slice A16 y14.Pos.length p17, .slice A20 y14.Stash.length p21, .slice A24 y14.Buckets.length p25]) 7 hs rfl rfl hk rfl rfl rfl rfl sz31 (by simp [Value.oneCell']) rfl rfl fun w a hk hs => ?_
  show wpList _ _ _ [] _ _
  refine wpList_nil ?_
  refine hK13 _ _ ?_
  apply wp_seq_k; intro K28 hK28
  apply wp_region_lit
  refine sln [.slice A9 y7.length p10, .slice A16 y14.Pos.length p17, .slice A20 y14.Stash.length p21, .slice A24 y14.Buckets.length p25] rfl hk rfl rfl rfl ag54 sz54 (box_cells hs (k := 7) rfl) fun a hk => ?_
  refine ssw 6 hs rfl rfl hk rfl rfl rfl rfl sz54 (by simp [Value.oneCell']) rfl fun w a hk hs => ?_
  show wpList _ _ _ [] _ _
  refine wpList_nil ?_
  refine hK28 _ _ ?_
  refine wp_ret ?_
  obtain rfl := Option.some.inj H
  exact fin hk _ [(.agg #[.slice A9 y7.length p10, .slice A16 y14.Pos.length p17, .slice A20 y14.Stash.length p21, .slice A24 y14.Buckets.length p25])] rfl ⟨⟨_, rfl, run_loadN ag54 sz54 (box_cells hs (k := 6) rfl)⟩, trivial⟩ ⟨A9, p10, _, A16, p17, _, A20, p21, _, A24, p25, _, rfl, o12, o19, o23, o27, (hs.pick [(0, 8), (1, 9), (2, 10), (3, 11)] rfl).dnil⟩

noncomputable def impl_within.f (x0 : Int) (x1 : Int) (x2 : Int) : Option (Bool) :=
  (((bif (decide (x1 ≤ x0)) then (some (decide (x0 ≤ x2))) else (some false)) : Option (Bool)).bind fun u4 => (some u4))
set_option maxRecDepth 100000 in
set_option maxHeartbeats 0 in
theorem impl_within_t (w0 : World) (x0 : Int) (x1 : Int) (x2 : Int) (r : Bool) (H : impl_within.f x0 x1 x2 = some r) :
    Calls Try.prog 92 #[.int .i64 x0, .int .i64 x1, .int .i64 x2] w0 (Ret (fun v w => v = .bool r ∧ Sat [] w0 w [] [])) := by
  have hs : Sat [] w0 w0 [] [] := Sat.init w0 [] [] (by simp) (by simp) List.nodup_nil (by simp [blks])
  unfold impl_within.f at H
  refine enter Try.func92 rfl Try.ntmps92 rfl fun a hk => ?_
  apply wp_seq_k; intro K1 hK1
  apply wp_region_lit
  refine sa _ rfl hk rfl rfl rfl fun a hk => ?_
  show wpList _ _ _ [] _ _
  refine wpList_nil ?_
  refine hK1 _ _ ?_
  apply wp_seq_k; intro K2 hK2
  obtain ⟨o5, h6, HL7⟩ := bind_some H
  clear H
  obtain ⟨R8, hR8⟩ : ∃ R : Act → World → Prop, R = fun a w => ∃ (u4 : Bool), u4 = o5 ∧ Kn [(6, (.bool u4))] 15 a ∧ Sat [] w0 w [] [] := ⟨_, rfl⟩
  refine wp_cutq R8 ?_ ?_
  · have H := h6
    apply wp_region_lit
    refine sm _ rfl hk rfl rfl rfl fun a hk => ?_
    refine sm _ rfl hk rfl rfl rfl fun a hk => ?_
    refine sv (.bool (decide (x1 ≤ x0))) hk rfl rfl rfl fun a hk => ?_
    refine sm _ rfl hk rfl rfl rfl fun a hk => ?_
    rcases cond_some H with ⟨c9, H⟩ | ⟨c9, H⟩
    · have hk := hk.lit 10 c9 rfl
      refine sm _ rfl hk rfl rfl rfl fun a hk => ?_
      refine sm _ rfl hk rfl rfl rfl fun a hk => ?_
      refine sv (.bool (decide (x0 ≤ x2))) hk rfl rfl rfl fun a hk => ?_
      refine sv (.bool (decide (x0 ≤ x2))) hk rfl rfl rfl fun a hk => ?_
      refine sa _ rfl hk rfl rfl rfl fun a hk => ?_
      show wpList _ _ _ [] _ _
      refine wpList_nil ?_
      obtain rfl := Option.some.inj H
      show R8 _ _
      rw [hR8]
      exact ⟨(decide (x0 ≤ x2)), rfl, (hk.c 6 rfl hk.k), (hs.pick [] rfl)⟩
    · have hk := hk.lit 10 c9 rfl
      refine sk hk rfl rfl rfl fun a hk => ?_
      refine sk hk rfl rfl rfl fun a hk => ?_
      refine sk hk rfl rfl rfl fun a hk => ?_
      refine sv (.bool false) hk rfl rfl rfl fun a hk => ?_
      refine sa _ rfl hk rfl rfl rfl fun a hk => ?_
      show wpList _ _ _ [] _ _
      refine wpList_nil ?_
      obtain rfl := Option.some.inj H
      show R8 _ _
      rw [hR8]
      exact ⟨false, rfl, (hk.c 6 rfl hk.k), (hs.pick [] rfl)⟩
  · intro a w hR0
    rw [hR8] at hR0
    obtain ⟨u4, rfl, hk, hs⟩ := hR0
    have H := HL7
    try dsimp only at H
    refine hK2 _ _ ?_
    refine wp_ret ?_
    obtain rfl := Option.some.inj H
    exact fin hk _ [(.bool u4)] rfl ⟨rfl, trivial⟩ ⟨rfl, (hs.pick [] rfl).dnil⟩

noncomputable def impl_isLeaf.f (x0 : Int) : Option (Bool) :=
  ((impl_within.f x0 0 7).bind fun y3 => (some y3))
set_option maxRecDepth 100000 in
set_option maxHeartbeats 0 in
theorem impl_isLeaf_t (w0 : World) (x0 : Int) (r : Bool) (H : impl_isLeaf.f x0 = some r) :
    Calls Try.prog 64 #[.int .i64 x0] w0 (Ret (fun v w => v = .bool r ∧ Sat [] w0 w [] [])) := by
  have hs : Sat [] w0 w0 [] [] := Sat.init w0 [] [] (by simp) (by simp) List.nodup_nil (by simp [blks])
  unfold impl_isLeaf.f at H
  refine enter Try.func64 rfl Try.ntmps64 rfl fun a hk => ?_
  apply wp_seq_k; intro K1 hK1
  apply wp_region_lit
  refine sa _ rfl hk rfl rfl rfl fun a hk => ?_
  show wpList _ _ _ [] _ _
  refine wpList_nil ?_
  refine hK1 _ _ ?_
  apply wp_seq_k; intro K2 hK2
  apply wp_region_lit
  refine sm _ rfl hk rfl rfl rfl fun a hk => ?_
  obtain ⟨y3, h4, H⟩ := bind_some H
  refine sc rfl en92 hk rfl rfl rfl (impl_within_t _ x0 0 7 _ h4) ?_
  rintro _ w ⟨rfl, hG⟩ a hk
  have hs := hs.call0 hG
  refine sa _ rfl hk rfl rfl rfl fun a hk => ?_
  show wpList _ _ _ [] _ _
  refine wpList_nil ?_
  refine hK2 _ _ ?_
  refine wp_ret ?_
  obtain rfl := Option.some.inj H
  exact fin hk _ [(.bool y3)] rfl ⟨rfl, trivial⟩ ⟨rfl, (hs.pick [] rfl).dnil⟩

noncomputable def slices_IndexFunc_int_int.s0 (l0 : List Int) (q1 : Int → Option (Bool)) (u6 : Int) : Option ((Int) ⊕ Ex (Unit) (Int)) :=
  (bif (decide (u6 < (l0.length : Int))) then (if 0 ≤ u6 ∧ u6 < (l0.length : Int) then ((q1 (l0.getD u6.toNat 0)).bind fun y25 => (bif y25 then (some (.inr (.ret u6))) else (some (.inl (w64 (u6 + 1)))))) else none) else (some (.inr (.out ()))))
noncomputable def slices_IndexFunc_int_int.f (l0 : List Int) (q1 : Int → Option (Bool)) : Option (Int) :=
  ((loopO (fun s => slices_IndexFunc_int_int.s0 l0 q1 s) 0).bind fun o => match o with | .out _ => (some (-1)) | .ret r => (some r))
set_option maxRecDepth 100000 in
set_option maxHeartbeats 0 in
theorem slices_IndexFunc_int_int_t (w0 : World) (A0_ : Option Addr) (p0_ : Nat) (l0 : List Int) (k0_ : Chunk) (v0_ : View (Lay.int .i64) A0_ p0_ l0 k0_) (w0_ : Has w0 k0_) (f1_ : FuncId) (c1_ : List Value) (e1_ : Enters Try.prog f1_) (q1 : Int → Option (Bool)) (k1_ : Chunk) (t1_ : ∀ w, Has w k1_ → ∀ (z0 : Int) (r : Bool), q1 z0 = some r → Calls Try.prog f1_ (([.int .i64 z0] : List Value) ++ c1_).toArray w (Ret (fun v w2 => v = .bool r ∧ Sat [] w w2 [] []))) (w1_ : Has w0 k1_) (r : Int) (H : slices_IndexFunc_int_int.f l0 q1 = some r) :
    Calls Try.prog 181 #[.slice A0_ l0.length p0_, .func (.func f1_) #[] c1_.toArray] w0 (Ret (fun v w => v = .int .i64 r ∧ Sat [] w0 w [] [])) := by
  have hs : Sat [] w0 w0 [(1, k0_), (2, k1_)] [] := Sat.init w0 [(1, k0_), (2, k1_)] [] (by simp only [List.mem_cons, List.not_mem_nil, or_false]; rintro x (rfl | rfl) <;> assumption) (by simp) List.nodup_nil (by simp [blks])
  unfold slices_IndexFunc_int_int.f at H
  refine enter Try.func181 rfl Try.ntmps181 rfl fun a hk => ?_
  apply wp_seq_k; intro K1 hK1
  apply wp_region_lit
  refine sa _ rfl hk rfl rfl rfl fun a hk => ?_
  show wpList _ _ _ [] _ _
  refine wpList_nil ?_
  refine hK1 _ _ ?_
  apply wp_seq_k; intro K2 hK2
  apply wp_seq_k; intro K3 hK3
  apply wp_region_lit
  refine sm _ rfl hk rfl rfl rfl fun a hk => ?_
  refine sle rfl hk rfl rfl rfl un22 fun a hk => ?_
  refine sm _ rfl hk rfl rfl rfl fun a hk => ?_
  show wpList _ _ _ [] _ _
  refine wpList_nil ?_
  refine hK3 _ _ ?_
  obtain ⟨o7, h8, HL9⟩ := bind_some H
  clear H
  obtain ⟨R10, hR10⟩ : ∃ R : Act → World → Prop, R = fun a w => o7 = .out () ∧ Kn [] 19 a ∧ Sat [] w0 w [(1, k0_), (2, k1_)] [] := ⟨_, rfl⟩
  refine wp_cutq R10 ?_ ?_
  · refine wp_block ?_
    obtain ⟨fu12, h8⟩ := loopO_some h8
    obtain ⟨I11, hI11⟩ : ∃ I : Nat → Act → World → Prop, I = fun fu a w => ∃ (u6 : Int), loopN (fun s => slices_IndexFunc_int_int.s0 l0 q1 s) fu u6 = some o7 ∧ Kn [(0, (.slice A0_ l0.length p0_)), (1, (.func (.func f1_) #[] c1_.toArray)), (7, (.int .i64 (l0.length : Int))), (8, (.int .i64 u6))] 19 a ∧ Sat [] w0 w [(1, k0_), (2, k1_)] [] := ⟨_, rfl⟩
    refine wp_loop_ghost I11 fu12 ?_ ?_
    · rw [hI11]
      exact ⟨0, h8, (hk.c 0 rfl (hk.c 1 rfl (hk.c 7 rfl (hk.c 8 rfl hk.k)))), (hs.pick [] rfl)⟩
    · clear h8 hk hs
      intro fu12 a w hI0
      rw [hI11] at hI0
      obtain ⟨u6, hi, hk, hs⟩ := hI0
      obtain ⟨x13, H, h14⟩ := loop_round hi
      try dsimp only at H
      unfold slices_IndexFunc_int_int.s0 at H
      apply wp_seq_k; intro K15 hK15
      apply wp_region_lit
      refine sv (.bool (decide (u6 < (l0.length : Int)))) hk rfl rfl rfl fun a hk => ?_
      show wpList _ _ _ [] _ _
      refine wpList_nil ?_
      refine hK15 _ _ ?_
      apply wp_seq_k; intro K16 hK16
      rcases cond_some H with ⟨c17, H⟩ | ⟨c17, H⟩
      · have hk := hk.lit 9 c17 rfl
        refine cnd_true hk rfl rfl ?_
        refine wp_skip ?_
        refine hK16 _ _ ?_
        apply wp_seq_k; intro K18 hK18
        refine wp_block ?_
        apply wp_seq_k; intro K19 hK19
        apply wp_region_lit
        refine sm _ rfl hk rfl rfl rfl fun a hk => ?_
        refine sa _ rfl hk rfl rfl rfl fun a hk => ?_
        show wpList _ _ _ [] _ _
        refine wpList_nil ?_
        refine hK19 _ _ ?_
        apply wp_seq_k; intro K20 hK20
        apply wp_region_lit
        refine sm _ rfl hk rfl rfl rfl fun a hk => ?_
        refine sm _ rfl hk rfl rfl rfl fun a hk => ?_
        refine sm _ rfl hk rfl rfl rfl fun a hk => ?_
        rcases ite_some H with ⟨c21, H⟩ | ⟨_, H⟩
        rotate_left
        · cases H
        obtain ⟨b22, q23, hAc21⟩ := (v0_).some_ u6 c21.1 c21.2
        refine si rfl hk rfl rfl rfl rfl un22 sz3 c21.1 c21.2 hAc21 fun a hk => ?_
        obtain ⟨_, rfl, e24⟩ := (v0_).at_ 0 u6 c21.1 c21.2
        refine sl (v := (.int .i64 (l0.getD u6.toNat 0))) rfl hk rfl rfl rfl ag3 ((e24 0 _ rfl).cell (hs.hasD (k := 1) rfl)) fun a hk => ?_
        obtain ⟨y25, h26, H⟩ := bind_some H
        refine scv (vs := ([(.int .i64 (l0.getD u6.toNat 0))] : List Value) ++ c1_) rfl rfl e1_ hk rfl rfl rfl (t1_ _ (hs.hasD (k := 2) rfl) (l0.getD u6.toNat 0) _ h26) ?_
        rintro _ w ⟨rfl, hG⟩ a hk
        have hs := hs.call0 hG
        show wpList _ _ _ [] _ _
        refine wpList_nil ?_
        refine hK20 _ _ ?_
        rcases cond_some H with ⟨c27, H⟩ | ⟨c27, H⟩
        · have hk := hk.lit 16 c27 rfl
          refine cnd_true hk rfl rfl ?_
          apply wp_seq_k; intro K28 hK28
          apply wp_region_lit
          refine sm _ rfl hk rfl rfl rfl fun a hk => ?_
          refine sa _ rfl hk rfl rfl rfl fun a hk => ?_
          show wpList _ _ _ [] _ _
          refine wpList_nil ?_
          refine hK28 _ _ ?_
          refine wp_ret ?_
          obtain rfl := Option.some.inj H
          have ho7 := h14
          try dsimp only at ho7
          subst ho7
          have H := HL9
          try dsimp only at H
          obtain rfl := Option.some.inj H
          exact fin hk _ [(.int .i64 u6)] rfl ⟨rfl, trivial⟩ ⟨rfl, (hs.pick [] rfl).dnil⟩
        · have hk := hk.lit 16 c27 rfl
          refine cnd_false hk rfl rfl ?_
          refine wp_skip ?_
          refine hK18 _ _ ?_
          apply wp_region_lit
          refine sv (.int .i64 (w64 (u6 + 1))) hk rfl rfl rfl fun a hk => ?_
          refine sm _ rfl hk rfl rfl rfl fun a hk => ?_
          show wpList _ _ _ [] _ _
          refine wpList_nil ?_
          obtain rfl := Option.some.inj H
          obtain ⟨m29, hmm29, h14⟩ := h14
          show ∃ n', n' < _ ∧ I11 n' _ _
          refine ⟨m29, hmm29, ?_⟩
          rw [hI11]
          exact ⟨(w64 (u6 + 1)), h14, (hk.c 0 rfl (hk.c 1 rfl (hk.c 7 rfl (hk.c 8 rfl hk.k)))), (hs.pick [] rfl)⟩
      · have hk := hk.lit 9 c17 rfl
        refine cnd_false hk rfl rfl ?_
        refine wp_exit ?_
        obtain rfl := Option.some.inj H
        show R10 _ _
        rw [hR10]
        exact ⟨h14.symm, hk.k, (hs.pick [] rfl)⟩
  · intro a w hR0
    rw [hR10] at hR0
    obtain ⟨rfl, hk, hs⟩ := hR0
    have H := HL9
    try dsimp only at H
    refine hK2 _ _ ?_
    apply wp_seq_k; intro K30 hK30
    apply wp_region_lit
    refine sa _ rfl hk rfl rfl rfl fun a hk => ?_
    show wpList _ _ _ [] _ _
    refine wpList_nil ?_
    refine hK30 _ _ ?_
    refine wp_ret ?_
    obtain rfl := Option.some.inj H
    exact fin hk _ [(.int .i64 (-1))] rfl ⟨rfl, trivial⟩ ⟨rfl, (hs.pick [] rfl).dnil⟩

noncomputable def slices_ContainsFunc_int_int.f (l0 : List Int) (q1 : Int → Option (Bool)) : Option (Bool) :=
  ((slices_IndexFunc_int_int.f l0 q1).bind fun y3 => (some (decide (y3 ≥ 0))))
set_option maxRecDepth 100000 in
set_option maxHeartbeats 0 in
theorem slices_ContainsFunc_int_int_t (w0 : World) (A0_ : Option Addr) (p0_ : Nat) (l0 : List Int) (k0_ : Chunk) (v0_ : View (Lay.int .i64) A0_ p0_ l0 k0_) (w0_ : Has w0 k0_) (f1_ : FuncId) (c1_ : List Value) (e1_ : Enters Try.prog f1_) (q1 : Int → Option (Bool)) (k1_ : Chunk) (t1_ : ∀ w, Has w k1_ → ∀ (z0 : Int) (r : Bool), q1 z0 = some r → Calls Try.prog f1_ (([.int .i64 z0] : List Value) ++ c1_).toArray w (Ret (fun v w2 => v = .bool r ∧ Sat [] w w2 [] []))) (w1_ : Has w0 k1_) (r : Bool) (H : slices_ContainsFunc_int_int.f l0 q1 = some r) :
    Calls Try.prog 141 #[.slice A0_ l0.length p0_, .func (.func f1_) #[] c1_.toArray] w0 (Ret (fun v w => v = .bool r ∧ Sat [] w0 w [] [])) := by
  have hs : Sat [] w0 w0 [(1, k0_), (2, k1_)] [] := Sat.init w0 [(1, k0_), (2, k1_)] [] (by simp only [List.mem_cons, List.not_mem_nil, or_false]; rintro x (rfl | rfl) <;> assumption) (by simp) List.nodup_nil (by simp [blks])
  unfold slices_ContainsFunc_int_int.f at H
  refine enter Try.func141 rfl Try.ntmps141 rfl fun a hk => ?_
  apply wp_seq_k; intro K1 hK1
  apply wp_region_lit
  refine sa _ rfl hk rfl rfl rfl fun a hk => ?_
  show wpList _ _ _ [] _ _
  refine wpList_nil ?_
  refine hK1 _ _ ?_
  apply wp_seq_k; intro K2 hK2
  apply wp_region_lit
  refine sm _ rfl hk rfl rfl rfl fun a hk => ?_
  refine sm _ rfl hk rfl rfl rfl fun a hk => ?_
  obtain ⟨y3, h4, H⟩ := bind_some H
  refine sc rfl en181 hk rfl rfl rfl (slices_IndexFunc_int_int_t _ A0_ p0_ l0 _ v0_ (hs.hasD (k := 1) rfl) f1_ c1_ e1_ q1 k1_ t1_ (hs.hasD (k := 2) rfl) _ h4) ?_
  rintro _ w ⟨rfl, hG⟩ a hk
  have hs := hs.call0 hG
  refine sv (.bool (decide (y3 ≥ 0))) hk rfl rfl rfl fun a hk => ?_
  refine sa _ rfl hk rfl rfl rfl fun a hk => ?_
  show wpList _ _ _ [] _ _
  refine wpList_nil ?_
  refine hK2 _ _ ?_
  refine wp_ret ?_
  obtain rfl := Option.some.inj H
  exact fin hk _ [(.bool (decide (y3 ≥ 0)))] rfl ⟨rfl, trivial⟩ ⟨rfl, (hs.pick [] rfl).dnil⟩

noncomputable def impl_areAll_int__c1.f (x0 : Int) (q1 : Int → Option (Bool)) : Option (Bool) :=
  ((q1 x0).bind fun y3 => (some (!y3)))
set_option maxRecDepth 100000 in
set_option maxHeartbeats 0 in
theorem impl_areAll_int__c1_t (w0 : World) (x0 : Int) (b1_ : Nat) (f1_ : FuncId) (c1_ : List Value) (e1_ : Enters Try.prog f1_) (q1 : Int → Option (Bool)) (k1_ : Chunk) (t1_ : ∀ w, Has w k1_ → ∀ (z0 : Int) (r : Bool), q1 z0 = some r → Calls Try.prog f1_ (([.int .i64 z0] : List Value) ++ c1_).toArray w (Ret (fun v w2 => v = .bool r ∧ Sat [] w w2 [] []))) (w1_ : Has w0 k1_) (h1_ : Has w0 [(b1_, .cells #[.func (.func f1_) #[] c1_.toArray] 89 (0, 0))]) (r : Bool) (H : impl_areAll_int__c1.f x0 q1 = some r) :
    Calls Try.prog 142 #[.int .i64 x0, .pointer (some ⟨b1_, 0, none⟩)] w0 (Ret (fun v w => v = .bool r ∧ Sat [] w0 w [] [])) := by
  have hs : Sat [] w0 w0 [(2, k1_), (1, [(b1_, .cells #[.func (.func f1_) #[] c1_.toArray] 89 (0, 0))])] [] := Sat.init w0 [(2, k1_), (1, [(b1_, .cells #[.func (.func f1_) #[] c1_.toArray] 89 (0, 0))])] [] (by simp only [List.mem_cons, List.not_mem_nil, or_false]; rintro x (rfl | rfl) <;> assumption) (by simp) List.nodup_nil (by simp [blks])
  unfold impl_areAll_int__c1.f at H
  refine enter Try.func142 rfl Try.ntmps142 rfl fun a hk => ?_
  apply wp_seq_k; intro K1 hK1
  apply wp_region_lit
  refine sa _ rfl hk rfl rfl rfl fun a hk => ?_
  show wpList _ _ _ [] _ _
  refine wpList_nil ?_
  refine hK1 _ _ ?_
  apply wp_seq_k; intro K2 hK2
  apply wp_region_lit
  refine sl rfl hk rfl rfl rfl ag89 (box_cellD hs (k := 1) rfl rfl) fun a hk => ?_
  refine sm _ rfl hk rfl rfl rfl fun a hk => ?_
  obtain ⟨y3, h4, H⟩ := bind_some H
  refine scv (vs := ([(.int .i64 x0)] : List Value) ++ c1_) rfl rfl e1_ hk rfl rfl rfl (t1_ _ (hs.hasD (k := 2) rfl) x0 _ h4) ?_
  rintro _ w ⟨rfl, hG⟩ a hk
  have hs := hs.call0 hG
  refine sv (.bool (!y3)) hk rfl rfl rfl fun a hk => ?_
  refine sa _ rfl hk rfl rfl rfl fun a hk => ?_
  show wpList _ _ _ [] _ _
  refine wpList_nil ?_
  refine hK2 _ _ ?_
  refine wp_ret ?_
  obtain rfl := Option.some.inj H
  exact fin hk _ [(.bool (!y3))] rfl ⟨rfl, trivial⟩ ⟨rfl, (hs.pick [] rfl).dnil⟩

end Go.Proofs.Ytjlhmcieholdiaa
