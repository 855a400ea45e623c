/- The functions that FnExactSameStore reaches: for each a model and the walk that shows that the Go code comes to it. -/
import Derived.Test.YtmafglodgnbajaaT
namespace Go.Proofs.Ytmafglodgnbajaa
open Go Go.Z Go.Proofs Go.MuLone Go.ChangeShapes Go.WideShapes Go.ChangeAt Go.RowKit
set_option linter.unusedVariables false
set_option linter.unusedSimpArgs false
noncomputable def laws_szStringS.s0 (l0 : List ByteArray) (u11 : Int) (u12 : Int) : Option ((Int × Int) ⊕ Ex (Int) (Int)) :=
  (bif (decide (u12 < (l0.length : Int))) then (if 0 ≤ u12 ∧ u12 < (l0.length : Int) then (bif (decide ((w64 (u11 - ((l0.getD u12.toNat ByteArray.empty).size : Int))) < 0)) then (some (.inr (.ret (-1)))) else (some (.inl ((w64 (u11 - ((l0.getD u12.toNat ByteArray.empty).size : Int))), (w64 (u12 + 1)))))) else none) else (some (.inr (.out u11))))
noncomputable def laws_szStringS.f (l0 : List ByteArray) (x1 : Int) : Option (Int) :=
  (bif (decide ((w64 (x1 - (l0.length : Int))) < 0)) then (some (-1)) else ((loopO (fun s => laws_szStringS.s0 l0 s.1 s.2) ((w64 (x1 - (l0.length : Int))), 0)).bind fun o => match o with | .out u13 => (some u13) | .ret r => (some r)))
set_option maxRecDepth 100000 in
set_option maxHeartbeats 0 in
theorem laws_szStringS_t (w0 : World) (A0_ : Option Addr) (p0_ : Nat) (l0 : List ByteArray) (k0_ : Chunk) (v0_ : View Lay.str A0_ p0_ l0 k0_) (w0_ : Has w0 k0_) (x1 : Int) (r : Int) (H : laws_szStringS.f l0 x1 = some r) :
    Calls Try.prog 73 #[.slice A0_ l0.length p0_, .int .i64 x1] w0 (Ret (fun v w => v = .int .i64 r ∧ Sat [] w0 w [] [])) := by
  have hs : Sat [] w0 w0 [(1, k0_)] [] := Sat.init w0 [(1, k0_)] [] (by simp only [List.mem_cons, List.not_mem_nil, or_false]; rintro x (rfl) <;> assumption) (by simp) List.nodup_nil (by simp [blks])
  unfold laws_szStringS.f at H
  refine enter Try.func73 rfl Try.ntmps73 rfl fun a hk => ?_
  apply wp_seq_k; intro K1 hK1
  apply wp_region_lit
  refine sa _ rfl hk rfl rfl rfl fun a hk => ?_
  show wpList _ _ _ [] _ _
  refine wpList_nil ?_
  refine hK1 _ _ ?_
  apply wp_seq_k; intro K2 hK2
  apply wp_region_lit
  refine sm _ rfl hk rfl rfl rfl fun a hk => ?_
  refine sm _ rfl hk rfl rfl rfl fun a hk => ?_
  refine sle rfl hk rfl rfl rfl un24 fun a hk => ?_
  refine sv (.int .i64 (w64 (x1 - (l0.length : Int)))) hk rfl rfl rfl fun a hk => ?_
  refine sa _ rfl hk rfl rfl rfl fun a hk => ?_
  show wpList _ _ _ [] _ _
  refine wpList_nil ?_
  refine hK2 _ _ ?_
  apply wp_seq_k; intro K3 hK3
  apply wp_seq_k; intro K4 hK4
  apply wp_region_lit
  refine sm _ rfl hk rfl rfl rfl fun a hk => ?_
  refine sv (.bool (decide ((w64 (x1 - (l0.length : Int))) < 0))) hk rfl rfl rfl fun a hk => ?_
  show wpList _ _ _ [] _ _
  refine wpList_nil ?_
  refine hK4 _ _ ?_
  rcases cond_some H with ⟨c5, H⟩ | ⟨c5, H⟩
  · have hk := hk.lit 11 c5 rfl
    refine cnd_true hk rfl rfl ?_
    apply wp_seq_k; intro K6 hK6
    apply wp_region_lit
    refine sa _ rfl hk rfl rfl rfl fun a hk => ?_
    show wpList _ _ _ [] _ _
    refine wpList_nil ?_
    refine hK6 _ _ ?_
    refine wp_ret ?_
    obtain rfl := Option.some.inj H
    exact fin hk _ [(.int .i64 (-1))] rfl ⟨rfl, trivial⟩ ⟨rfl, (hs.pick [] rfl).dnil⟩
  · have hk := hk.lit 11 c5 rfl
    refine cnd_false hk rfl rfl ?_
    refine wp_skip ?_
    refine hK3 _ _ ?_
    apply wp_seq_k; intro K7 hK7
    apply wp_seq_k; intro K8 hK8
    apply wp_region_lit
    refine sa _ rfl hk rfl rfl rfl fun a hk => ?_
    show wpList _ _ _ [] _ _
    refine wpList_nil ?_
    refine hK8 _ _ ?_
    obtain ⟨o14, h15, HL16⟩ := bind_some H
    clear H
    obtain ⟨R17, hR17⟩ : ∃ R : Act → World → Prop, R = fun a w => ∃ (u13 : Int), o14 = .out u13 ∧ Kn [(1, (.int .i64 u13))] 28 a ∧ Sat [] w0 w [(1, k0_)] [] := ⟨_, rfl⟩
    refine wp_cutq R17 ?_ ?_
    · refine wp_block ?_
      obtain ⟨fu19, h15⟩ := loopO_some h15
      obtain ⟨I18, hI18⟩ : ∃ I : Nat → Act → World → Prop, I = fun fu a w => ∃ (u11 : Int) (u12 : Int), loopN (fun s => laws_szStringS.s0 l0 s.1 s.2) fu (u11, u12) = some o14 ∧ Kn [(0, (.slice A0_ l0.length p0_)), (1, (.int .i64 u11)), (5, (.int .i64 u12))] 28 a ∧ Sat [] w0 w [(1, k0_)] [] := ⟨_, rfl⟩
      refine wp_loop_ghost I18 fu19 ?_ ?_
      · rw [hI18]
        exact ⟨(w64 (x1 - (l0.length : Int))), 0, h15, (hk.c 0 rfl (hk.c 1 rfl (hk.c 5 rfl hk.k))), (hs.pick [] rfl)⟩
      · clear h15 hk hs
        intro fu19 a w hI0
        rw [hI18] at hI0
        obtain ⟨u11, u12, hi, hk, hs⟩ := hI0
        obtain ⟨x20, H, h21⟩ := loop_round hi
        try dsimp only at H
        unfold laws_szStringS.s0 at H
        apply wp_seq_k; intro K22 hK22
        apply wp_seq_k; intro K23 hK23
        apply wp_region_lit
        refine sm _ rfl hk rfl rfl rfl fun a hk => ?_
        refine sm _ rfl hk rfl rfl rfl fun a hk => ?_
        refine sle rfl hk rfl rfl rfl un24 fun a hk => ?_
        refine sv (.bool (decide (u12 < (l0.length : Int)))) hk rfl rfl rfl fun a hk => ?_
        show wpList _ _ _ [] _ _
        refine wpList_nil ?_
        refine hK23 _ _ ?_
        rcases cond_some H with ⟨c24, H⟩ | ⟨c24, H⟩
        · have hk := hk.lit 15 c24 rfl
          refine cnd_true hk rfl rfl ?_
          refine wp_skip ?_
          refine hK22 _ _ ?_
          apply wp_seq_k; intro K25 hK25
          refine wp_block ?_
          apply wp_seq_k; intro K26 hK26
          apply wp_region_lit
          refine sm _ rfl hk rfl rfl rfl fun a hk => ?_
          refine sm _ rfl hk rfl rfl rfl fun a hk => ?_
          refine sm _ rfl hk rfl rfl rfl fun a hk => ?_
          rcases ite_some H with ⟨c27, H⟩ | ⟨_, H⟩
          rotate_left
          · cases H
          obtain ⟨b28, q29, hAc27⟩ := (v0_).some_ u12 c27.1 c27.2
          refine si rfl hk rfl rfl rfl rfl un24 sz9 c27.1 c27.2 hAc27 fun a hk => ?_
          obtain ⟨_, rfl, e30⟩ := (v0_).at_ ByteArray.empty u12 c27.1 c27.2
          refine sl (v := (.string (l0.getD u12.toNat ByteArray.empty))) rfl hk rfl rfl rfl ag9 ((e30 0 _ rfl).cell (hs.hasD (k := 1) rfl)) fun a hk => ?_
          refine sles rfl hk rfl rfl rfl un9 fun a hk => ?_
          refine sv (.int .i64 (w64 (u11 - ((l0.getD u12.toNat ByteArray.empty).size : Int)))) hk rfl rfl rfl fun a hk => ?_
          refine sa _ rfl hk rfl rfl rfl fun a hk => ?_
          show wpList _ _ _ [] _ _
          refine wpList_nil ?_
          refine hK26 _ _ ?_
          apply wp_seq_k; intro K31 hK31
          apply wp_region_lit
          refine sm _ rfl hk rfl rfl rfl fun a hk => ?_
          refine sv (.bool (decide ((w64 (u11 - ((l0.getD u12.toNat ByteArray.empty).size : Int))) < 0))) hk rfl rfl rfl fun a hk => ?_
          show wpList _ _ _ [] _ _
          refine wpList_nil ?_
          refine hK31 _ _ ?_
          rcases cond_some H with ⟨c32, H⟩ | ⟨c32, H⟩
          · have hk := hk.lit 26 c32 rfl
            refine cnd_true hk rfl rfl ?_
            apply wp_seq_k; intro K33 hK33
            apply wp_region_lit
            refine sa _ rfl hk rfl rfl rfl fun a hk => ?_
            show wpList _ _ _ [] _ _
            refine wpList_nil ?_
            refine hK33 _ _ ?_
            refine wp_ret ?_
            obtain rfl := Option.some.inj H
            have ho14 := h21
            try dsimp only at ho14
            subst ho14
            have H := HL16
            try dsimp only at H
            obtain rfl := Option.some.inj H
            exact fin hk _ [(.int .i64 (-1))] rfl ⟨rfl, trivial⟩ ⟨rfl, (hs.pick [] rfl).dnil⟩
          · have hk := hk.lit 26 c32 rfl
            refine cnd_false hk rfl rfl ?_
            refine wp_skip ?_
            refine hK25 _ _ ?_
            apply wp_region_lit
            refine sm _ rfl hk rfl rfl rfl fun a hk => ?_
            refine sv (.int .i64 (w64 (u12 + 1))) hk rfl rfl rfl fun a hk => ?_
            refine sa _ rfl hk rfl rfl rfl fun a hk => ?_
            show wpList _ _ _ [] _ _
            refine wpList_nil ?_
            obtain rfl := Option.some.inj H
            obtain ⟨m34, hmm34, h21⟩ := h21
            show ∃ n', n' < _ ∧ I18 n' _ _
            refine ⟨m34, hmm34, ?_⟩
            rw [hI18]
            exact ⟨(w64 (u11 - ((l0.getD u12.toNat ByteArray.empty).size : Int))), (w64 (u12 + 1)), h21, (hk.c 0 rfl (hk.c 1 rfl (hk.c 5 rfl hk.k))), (hs.pick [] rfl)⟩
        · have hk := hk.lit 15 c24 rfl
          refine cnd_false hk rfl rfl ?_
          refine wp_exit ?_
          obtain rfl := Option.some.inj H
          show R17 _ _
          rw [hR17]
          exact ⟨u11, h21.symm, (hk.c 1 rfl hk.k), (hs.pick [] rfl)⟩
    · intro a w hR0
      rw [hR17] at hR0
      obtain ⟨u13, rfl, hk, hs⟩ := hR0
      have H := HL16
      try dsimp only at H
      refine hK7 _ _ ?_
      apply wp_seq_k; intro K35 hK35
      apply wp_region_lit
      refine sm _ rfl hk rfl rfl rfl fun a hk => ?_
      refine sa _ rfl hk rfl rfl rfl fun a hk => ?_
      show wpList _ _ _ [] _ _
      refine wpList_nil ?_
      refine hK35 _ _ ?_
      refine wp_ret ?_
      obtain rfl := Option.some.inj H
      exact fin hk _ [(.int .i64 u13)] rfl ⟨rfl, trivial⟩ ⟨rfl, (hs.pick [] rfl).dnil⟩

noncomputable def laws_szIo.f (x0 : S_Io) (x1 : Int) : Option (Int) :=
  (bif (decide ((w64 (x1 - (x0.Data.size : Int))) < 0)) then (some (-1)) else (some (w64 (x1 - (x0.Data.size : Int)))))
set_option maxRecDepth 100000 in
set_option maxHeartbeats 0 in
theorem laws_szIo_t (w0 : World) (x0 : S_Io) (x1 : Int) (r : Int) (H : laws_szIo.f x0 x1 = some r) :
    Calls Try.prog 113 #[.agg #[.int .i64 x0.At, .string x0.Data], .int .i64 x1] w0 (Ret (fun v w => v = .int .i64 r ∧ Sat [] w0 w [] [])) := by
  have hs : Sat [] w0 w0 [] [] := Sat.init w0 [] [] (by simp) (by simp) List.nodup_nil (by simp [blks])
  unfold laws_szIo.f at H
  refine enter Try.func113 rfl Try.ntmps113 rfl fun a hk => ?_
  apply wp_seq_k; intro K1 hK1
  apply wp_region_lit
  refine sbx 1 hs rfl hk rfl rfl rfl rfl fun b2 w a hk hs => ?_
  refine sa _ rfl hk rfl rfl rfl fun a hk => ?_
  show wpList _ _ _ [] _ _
  refine wpList_nil ?_
  refine hK1 _ _ ?_
  apply wp_seq_k; intro K3 hK3
  apply wp_region_lit
  refine sm _ rfl hk rfl rfl rfl fun a hk => ?_
  refine sf ⟨b2, 1, none⟩ rfl hk rfl rfl rfl fd127_1 rfl fun a hk => ?_
  refine sl rfl hk rfl rfl rfl ag9 (box_cell hs (k := 1) rfl rfl) fun a hk => ?_
  refine sles rfl hk rfl rfl rfl un9 fun a hk => ?_
  refine sv (.int .i64 (w64 (x1 - (x0.Data.size : Int)))) hk rfl rfl rfl fun a hk => ?_
  refine sa _ rfl hk rfl rfl rfl fun a hk => ?_
  show wpList _ _ _ [] _ _
  refine wpList_nil ?_
  refine hK3 _ _ ?_
  apply wp_seq_k; intro K4 hK4
  apply wp_seq_k; intro K5 hK5
  apply wp_region_lit
  refine sm _ rfl hk rfl rfl rfl fun a hk => ?_
  refine sv (.bool (decide ((w64 (x1 - (x0.Data.size : Int))) < 0))) hk rfl rfl rfl fun a hk => ?_
  show wpList _ _ _ [] _ _
  refine wpList_nil ?_
  refine hK5 _ _ ?_
  rcases cond_some H with ⟨c6, H⟩ | ⟨c6, H⟩
  · have hk := hk.lit 11 c6 rfl
    refine cnd_true hk rfl rfl ?_
    apply wp_seq_k; intro K7 hK7
    apply wp_region_lit
    refine sa _ rfl hk rfl rfl rfl fun a hk => ?_
    show wpList _ _ _ [] _ _
    refine wpList_nil ?_
    refine hK7 _ _ ?_
    refine wp_ret ?_
    obtain rfl := Option.some.inj H
    exact fin hk _ [(.int .i64 (-1))] rfl ⟨rfl, trivial⟩ ⟨rfl, (hs.pick [] rfl).dnil⟩
  · have hk := hk.lit 11 c6 rfl
    refine cnd_false hk rfl rfl ?_
    refine wp_skip ?_
    refine hK4 _ _ ?_
    apply wp_seq_k; intro K8 hK8
    apply wp_region_lit
    refine sm _ rfl hk rfl rfl rfl fun a hk => ?_
    refine sa _ rfl hk rfl rfl rfl fun a hk => ?_
    show wpList _ _ _ [] _ _
    refine wpList_nil ?_
    refine hK8 _ _ ?_
    refine wp_ret ?_
    obtain rfl := Option.some.inj H
    exact fin hk _ [(.int .i64 (w64 (x1 - (x0.Data.size : Int))))] rfl ⟨rfl, trivial⟩ ⟨rfl, (hs.pick [] rfl).dnil⟩

noncomputable def laws_szIoS.s0 (l0 : List S_Io) (u11 : Int) (u12 : Int) : Option ((Int × Int) ⊕ Ex (Int) (Int)) :=
  (bif (decide (u12 < (l0.length : Int))) then (if 0 ≤ u12 ∧ u12 < (l0.length : Int) then ((laws_szIo.f (l0.getD u12.toNat z_Io) u11).bind fun y31 => (bif (decide (y31 < 0)) then (some (.inr (.ret (-1)))) else (some (.inl (y31, (w64 (u12 + 1))))))) else none) else (some (.inr (.out u11))))
noncomputable def laws_szIoS.f (l0 : List S_Io) (x1 : Int) : Option (Int) :=
  (bif (decide ((w64 (x1 - (l0.length : Int))) < 0)) then (some (-1)) else ((loopO (fun s => laws_szIoS.s0 l0 s.1 s.2) ((w64 (x1 - (l0.length : Int))), 0)).bind fun o => match o with | .out u13 => (some u13) | .ret r => (some r)))
set_option maxRecDepth 100000 in
set_option maxHeartbeats 0 in
theorem laws_szIoS_t (w0 : World) (A0_ : Option Addr) (p0_ : Nat) (l0 : List S_Io) (k0_ : Chunk) (v0_ : View L_Io A0_ p0_ l0 k0_) (w0_ : Has w0 k0_) (x1 : Int) (r : Int) (H : laws_szIoS.f l0 x1 = some r) :
    Calls Try.prog 74 #[.slice A0_ l0.length p0_, .int .i64 x1] w0 (Ret (fun v w => v = .int .i64 r ∧ Sat [] w0 w [] [])) := by
  have hs : Sat [] w0 w0 [(1, k0_)] [] := Sat.init w0 [(1, k0_)] [] (by simp only [List.mem_cons, List.not_mem_nil, or_false]; rintro x (rfl) <;> assumption) (by simp) List.nodup_nil (by simp [blks])
  unfold laws_szIoS.f at H
  refine enter Try.func74 rfl Try.ntmps74 rfl fun a hk => ?_
  apply wp_seq_k; intro K1 hK1
  apply wp_region_lit
  refine sa _ rfl hk rfl rfl rfl fun a hk => ?_
  show wpList _ _ _ [] _ _
  refine wpList_nil ?_
  refine hK1 _ _ ?_
  apply wp_seq_k; intro K2 hK2
  apply wp_region_lit
  refine sm _ rfl hk rfl rfl rfl fun a hk => ?_
  refine sm _ rfl hk rfl rfl rfl fun a hk => ?_
  refine sle rfl hk rfl rfl rfl un25 fun a hk => ?_
  refine sv (.int .i64 (w64 (x1 - (l0.length : Int)))) hk rfl rfl rfl fun a hk => ?_
  refine sa _ rfl hk rfl rfl rfl fun a hk => ?_
  show wpList _ _ _ [] _ _
  refine wpList_nil ?_
  refine hK2 _ _ ?_
  apply wp_seq_k; intro K3 hK3
  apply wp_seq_k; intro K4 hK4
  apply wp_region_lit
  refine sm _ rfl hk rfl rfl rfl fun a hk => ?_
  refine sv (.bool (decide ((w64 (x1 - (l0.length : Int))) < 0))) hk rfl rfl rfl fun a hk => ?_
  show wpList _ _ _ [] _ _
  refine wpList_nil ?_
  refine hK4 _ _ ?_
  rcases cond_some H with ⟨c5, H⟩ | ⟨c5, H⟩
  · have hk := hk.lit 11 c5 rfl
    refine cnd_true hk rfl rfl ?_
    apply wp_seq_k; intro K6 hK6
    apply wp_region_lit
    refine sa _ rfl hk rfl rfl rfl fun a hk => ?_
    show wpList _ _ _ [] _ _
    refine wpList_nil ?_
    refine hK6 _ _ ?_
    refine wp_ret ?_
    obtain rfl := Option.some.inj H
    exact fin hk _ [(.int .i64 (-1))] rfl ⟨rfl, trivial⟩ ⟨rfl, (hs.pick [] rfl).dnil⟩
  · have hk := hk.lit 11 c5 rfl
    refine cnd_false hk rfl rfl ?_
    refine wp_skip ?_
    refine hK3 _ _ ?_
    apply wp_seq_k; intro K7 hK7
    apply wp_seq_k; intro K8 hK8
    apply wp_region_lit
    refine sa _ rfl hk rfl rfl rfl fun a hk => ?_
    show wpList _ _ _ [] _ _
    refine wpList_nil ?_
    refine hK8 _ _ ?_
    obtain ⟨o14, h15, HL16⟩ := bind_some H
    clear H
    obtain ⟨R17, hR17⟩ : ∃ R : Act → World → Prop, R = fun a w => ∃ (u13 : Int), o14 = .out u13 ∧ Kn [(1, (.int .i64 u13))] 27 a ∧ Sat [] w0 w [(1, k0_)] [] := ⟨_, rfl⟩
    refine wp_cutq R17 ?_ ?_
    · refine wp_block ?_
      obtain ⟨fu19, h15⟩ := loopO_some h15
      obtain ⟨I18, hI18⟩ : ∃ I : Nat → Act → World → Prop, I = fun fu a w => ∃ (u11 : Int) (u12 : Int), loopN (fun s => laws_szIoS.s0 l0 s.1 s.2) fu (u11, u12) = some o14 ∧ Kn [(0, (.slice A0_ l0.length p0_)), (1, (.int .i64 u11)), (5, (.int .i64 u12))] 27 a ∧ Sat [] w0 w [(1, k0_)] [] := ⟨_, rfl⟩
      refine wp_loop_ghost I18 fu19 ?_ ?_
      · rw [hI18]
        exact ⟨(w64 (x1 - (l0.length : Int))), 0, h15, (hk.c 0 rfl (hk.c 1 rfl (hk.c 5 rfl hk.k))), (hs.pick [] rfl)⟩
      · clear h15 hk hs
        intro fu19 a w hI0
        rw [hI18] at hI0
        obtain ⟨u11, u12, hi, hk, hs⟩ := hI0
        obtain ⟨x20, H, h21⟩ := loop_round hi
        try dsimp only at H
        unfold laws_szIoS.s0 at H
        apply wp_seq_k; intro K22 hK22
        apply wp_seq_k; intro K23 hK23
        apply wp_region_lit
        refine sm _ rfl hk rfl rfl rfl fun a hk => ?_
        refine sm _ rfl hk rfl rfl rfl fun a hk => ?_
        refine sle rfl hk rfl rfl rfl un25 fun a hk => ?_
        refine sv (.bool (decide (u12 < (l0.length : Int)))) hk rfl rfl rfl fun a hk => ?_
        show wpList _ _ _ [] _ _
        refine wpList_nil ?_
        refine hK23 _ _ ?_
        rcases cond_some H with ⟨c24, H⟩ | ⟨c24, H⟩
        · have hk := hk.lit 15 c24 rfl
          refine cnd_true hk rfl rfl ?_
          refine wp_skip ?_
          refine hK22 _ _ ?_
          apply wp_seq_k; intro K25 hK25
          refine wp_block ?_
          apply wp_seq_k; intro K26 hK26
          apply wp_region_lit
          refine sm _ rfl hk rfl rfl rfl fun a hk => ?_
          refine sm _ rfl hk rfl rfl rfl fun a hk => ?_
          rcases ite_some H with ⟨c27, H⟩ | ⟨_, H⟩
          rotate_left
          · cases H
          obtain ⟨b28, q29, hAc27⟩ := (v0_).some_ u12 c27.1 c27.2
          refine si rfl hk rfl rfl rfl rfl un25 sz127 c27.1 c27.2 hAc27 fun a hk => ?_
          obtain ⟨_, rfl, e30⟩ := (v0_).at_ z_Io u12 c27.1 c27.2
          refine sln [.int .i64 ((l0.getD u12.toNat z_Io).At), .string ((l0.getD u12.toNat z_Io).Data)] rfl hk rfl rfl rfl ag127 sz127 (cells_at e30 (hs.hasD (k := 1) rfl)) fun a hk => ?_
          refine sm _ rfl hk rfl rfl rfl fun a hk => ?_
          obtain ⟨y31, h32, H⟩ := bind_some H
          refine sc rfl en113 hk rfl rfl rfl (laws_szIo_t _ (l0.getD u12.toNat z_Io) u11 _ h32) ?_
          rintro _ w ⟨rfl, hG⟩ a hk
          have hs := hs.call0 hG
          refine sa _ rfl hk rfl rfl rfl fun a hk => ?_
          show wpList _ _ _ [] _ _
          refine wpList_nil ?_
          refine hK26 _ _ ?_
          apply wp_seq_k; intro K33 hK33
          apply wp_region_lit
          refine sm _ rfl hk rfl rfl rfl fun a hk => ?_
          refine sv (.bool (decide (y31 < 0))) hk rfl rfl rfl fun a hk => ?_
          show wpList _ _ _ [] _ _
          refine wpList_nil ?_
          refine hK33 _ _ ?_
          rcases cond_some H with ⟨c34, H⟩ | ⟨c34, H⟩
          · have hk := hk.lit 25 c34 rfl
            refine cnd_true hk rfl rfl ?_
            apply wp_seq_k; intro K35 hK35
            apply wp_region_lit
            refine sa _ rfl hk rfl rfl rfl fun a hk => ?_
            show wpList _ _ _ [] _ _
            refine wpList_nil ?_
            refine hK35 _ _ ?_
            refine wp_ret ?_
            obtain rfl := Option.some.inj H
            have ho14 := h21
            try dsimp only at ho14
            subst ho14
            have H := HL16
            try dsimp only at H
            obtain rfl := Option.some.inj H
            exact fin hk _ [(.int .i64 (-1))] rfl ⟨rfl, trivial⟩ ⟨rfl, (hs.pick [] rfl).dnil⟩
          · have hk := hk.lit 25 c34 rfl
            refine cnd_false hk rfl rfl ?_
            refine wp_skip ?_
            refine hK25 _ _ ?_
            apply wp_region_lit
            refine sm _ rfl hk rfl rfl rfl fun a hk => ?_
            refine sv (.int .i64 (w64 (u12 + 1))) hk rfl rfl rfl fun a hk => ?_
            refine sa _ rfl hk rfl rfl rfl fun a hk => ?_
            show wpList _ _ _ [] _ _
            refine wpList_nil ?_
            obtain rfl := Option.some.inj H
            obtain ⟨m36, hmm36, h21⟩ := h21
            show ∃ n', n' < _ ∧ I18 n' _ _
            refine ⟨m36, hmm36, ?_⟩
            rw [hI18]
            exact ⟨y31, (w64 (u12 + 1)), h21, (hk.c 0 rfl (hk.c 1 rfl (hk.c 5 rfl hk.k))), (hs.pick [] rfl)⟩
        · have hk := hk.lit 15 c24 rfl
          refine cnd_false hk rfl rfl ?_
          refine wp_exit ?_
          obtain rfl := Option.some.inj H
          show R17 _ _
          rw [hR17]
          exact ⟨u11, h21.symm, (hk.c 1 rfl hk.k), (hs.pick [] rfl)⟩
    · intro a w hR0
      rw [hR17] at hR0
      obtain ⟨u13, rfl, hk, hs⟩ := hR0
      have H := HL16
      try dsimp only at H
      refine hK7 _ _ ?_
      apply wp_seq_k; intro K37 hK37
      apply wp_region_lit
      refine sm _ rfl hk rfl rfl rfl fun a hk => ?_
      refine sa _ rfl hk rfl rfl rfl fun a hk => ?_
      show wpList _ _ _ [] _ _
      refine wpList_nil ?_
      refine hK37 _ _ ?_
      refine wp_ret ?_
      obtain rfl := Option.some.inj H
      exact fin hk _ [(.int .i64 u13)] rfl ⟨rfl, trivial⟩ ⟨rfl, (hs.pick [] rfl).dnil⟩

noncomputable def laws_szDevice.f (x0 : S_Device) (x1 : Int) : Option (Int) :=
  ((laws_szStringS.f x0.Sure x1).bind fun y4 => (bif (decide (y4 < 0)) then (some (-1)) else ((laws_szIoS.f x0.Unsure y4).bind fun y11 => (bif (decide (y11 < 0)) then (some (-1)) else (some y11)))))
set_option maxRecDepth 100000 in
set_option maxHeartbeats 0 in
theorem laws_szDevice_t (w0 : World) (x0 : S_Device) (A0_0 : Option Addr) (p0_0 : Nat) (k0_0 : Chunk) (v0_0 : View Lay.str A0_0 p0_0 x0.Sure k0_0) (w0_0 : Has w0 k0_0) (A0_1 : Option Addr) (p0_1 : Nat) (k0_1 : Chunk) (v0_1 : View L_Io A0_1 p0_1 x0.Unsure k0_1) (w0_1 : Has w0 k0_1) (x1 : Int) (r : Int) (H : laws_szDevice.f x0 x1 = some r) :
    Calls Try.prog 28 #[.agg #[.slice A0_0 x0.Sure.length p0_0, .slice A0_1 x0.Unsure.length p0_1], .int .i64 x1] w0 (Ret (fun v w => v = .int .i64 r ∧ Sat [] w0 w [] [])) := by
  have hs : Sat [] w0 w0 [(1, k0_0), (2, k0_1)] [] := Sat.init w0 [(1, k0_0), (2, k0_1)] [] (by simp only [List.mem_cons, List.not_mem_nil, or_false]; rintro x (rfl | rfl) <;> assumption) (by simp) List.nodup_nil (by simp [blks])
  unfold laws_szDevice.f at H
  refine enter Try.func28 rfl Try.ntmps28 rfl fun a hk => ?_
  apply wp_seq_k; intro K1 hK1
  apply wp_region_lit
  refine sbx 3 hs rfl hk rfl rfl rfl rfl fun b2 w a hk hs => ?_
  refine sa _ rfl hk rfl rfl rfl fun a hk => ?_
  show wpList _ _ _ [] _ _
  refine wpList_nil ?_
  refine hK1 _ _ ?_
  apply wp_seq_k; intro K3 hK3
  apply wp_region_lit
  refine sf ⟨b2, 0, none⟩ rfl hk rfl rfl rfl fd27_0 rfl fun a hk => ?_
  refine sl rfl hk rfl rfl rfl ag24 (box_cell hs (k := 3) rfl rfl) fun a hk => ?_
  refine sm _ rfl hk rfl rfl rfl fun a hk => ?_
  obtain ⟨y4, h5, H⟩ := bind_some H
  refine sc rfl en73 hk rfl rfl rfl (laws_szStringS_t _ A0_0 p0_0 x0.Sure _ v0_0 (hs.hasD (k := 1) rfl) x1 _ h5) ?_
  rintro _ w ⟨rfl, hG⟩ a hk
  have hs := hs.call0 hG
  refine sa _ rfl hk rfl rfl rfl fun a hk => ?_
  show wpList _ _ _ [] _ _
  refine wpList_nil ?_
  refine hK3 _ _ ?_
  apply wp_seq_k; intro K6 hK6
  apply wp_seq_k; intro K7 hK7
  apply wp_region_lit
  refine sm _ rfl hk rfl rfl rfl fun a hk => ?_
  refine sv (.bool (decide (y4 < 0))) hk rfl rfl rfl fun a hk => ?_
  show wpList _ _ _ [] _ _
  refine wpList_nil ?_
  refine hK7 _ _ ?_
  rcases cond_some H with ⟨c8, H⟩ | ⟨c8, H⟩
  · have hk := hk.lit 10 c8 rfl
    refine cnd_true hk rfl rfl ?_
    apply wp_seq_k; intro K9 hK9
    apply wp_region_lit
    refine sa _ rfl hk rfl rfl rfl fun a hk => ?_
    show wpList _ _ _ [] _ _
    refine wpList_nil ?_
    refine hK9 _ _ ?_
    refine wp_ret ?_
    obtain rfl := Option.some.inj H
    exact fin hk _ [(.int .i64 (-1))] rfl ⟨rfl, trivial⟩ ⟨rfl, (hs.pick [] rfl).dnil⟩
  · have hk := hk.lit 10 c8 rfl
    refine cnd_false hk rfl rfl ?_
    refine wp_skip ?_
    refine hK6 _ _ ?_
    apply wp_seq_k; intro K10 hK10
    apply wp_region_lit
    refine sf ⟨b2, 1, none⟩ rfl hk rfl rfl rfl fd27_1 rfl fun a hk => ?_
    refine sl rfl hk rfl rfl rfl ag25 (box_cell hs (k := 3) rfl rfl) fun a hk => ?_
    refine sm _ rfl hk rfl rfl rfl fun a hk => ?_
    obtain ⟨y11, h12, H⟩ := bind_some H
    refine sc rfl en74 hk rfl rfl rfl (laws_szIoS_t _ A0_1 p0_1 x0.Unsure _ v0_1 (hs.hasD (k := 2) rfl) y4 _ h12) ?_
    rintro _ w ⟨rfl, hG⟩ a hk
    have hs := hs.call0 hG
    refine sa _ rfl hk rfl rfl rfl fun a hk => ?_
    show wpList _ _ _ [] _ _
    refine wpList_nil ?_
    refine hK10 _ _ ?_
    apply wp_seq_k; intro K13 hK13
    apply wp_seq_k; intro K14 hK14
    apply wp_region_lit
    refine sm _ rfl hk rfl rfl rfl fun a hk => ?_
    refine sv (.bool (decide (y11 < 0))) hk rfl rfl rfl fun a hk => ?_
    show wpList _ _ _ [] _ _
    refine wpList_nil ?_
    refine hK14 _ _ ?_
    rcases cond_some H with ⟨c15, H⟩ | ⟨c15, H⟩
    · have hk := hk.lit 16 c15 rfl
      refine cnd_true hk rfl rfl ?_
      apply wp_seq_k; intro K16 hK16
      apply wp_region_lit
      refine sa _ rfl hk rfl rfl rfl fun a hk => ?_
      show wpList _ _ _ [] _ _
      refine wpList_nil ?_
      refine hK16 _ _ ?_
      refine wp_ret ?_
      obtain rfl := Option.some.inj H
      exact fin hk _ [(.int .i64 (-1))] rfl ⟨rfl, trivial⟩ ⟨rfl, (hs.pick [] rfl).dnil⟩
    · have hk := hk.lit 16 c15 rfl
      refine cnd_false hk rfl rfl ?_
      refine wp_skip ?_
      refine hK13 _ _ ?_
      apply wp_seq_k; intro K17 hK17
      apply wp_region_lit
      refine sm _ rfl hk rfl rfl rfl fun a hk => ?_
      refine sa _ rfl hk rfl rfl rfl fun a hk => ?_
      show wpList _ _ _ [] _ _
      refine wpList_nil ?_
      refine hK17 _ _ ?_
      refine wp_ret ?_
      obtain rfl := Option.some.inj H
      exact fin hk _ [(.int .i64 y11)] rfl ⟨rfl, trivial⟩ ⟨rfl, (hs.pick [] rfl).dnil⟩

noncomputable def laws_szRegister.f (x0 : S_Register) (x1 : Int) : Option (Int) :=
  (bif (decide ((w64 (x1 - (x0.Base.size : Int))) < 0)) then (some (-1)) else (bif (decide ((w64 ((w64 (x1 - (x0.Base.size : Int))) - (x0.Tip.size : Int))) < 0)) then (some (-1)) else (bif (decide ((w64 ((w64 ((w64 (x1 - (x0.Base.size : Int))) - (x0.Tip.size : Int))) - (x0.Root.size : Int))) < 0)) then (some (-1)) else (some (w64 ((w64 ((w64 (x1 - (x0.Base.size : Int))) - (x0.Tip.size : Int))) - (x0.Root.size : Int)))))))
set_option maxRecDepth 100000 in
set_option maxHeartbeats 0 in
theorem laws_szRegister_t (w0 : World) (x0 : S_Register) (x1 : Int) (r : Int) (H : laws_szRegister.f x0 x1 = some r) :
    Calls Try.prog 43 #[.agg #[.int .i64 x0.Epoch, .int .i64 x0.Side, .int .i64 x0.Count, .int .i64 x0.Boot, .string x0.Base, .string x0.Tip, .string x0.Root], .int .i64 x1] w0 (Ret (fun v w => v = .int .i64 r ∧ Sat [] w0 w [] [])) := by
  have hs : Sat [] w0 w0 [] [] := Sat.init w0 [] [] (by simp) (by simp) List.nodup_nil (by simp [blks])
  unfold laws_szRegister.f at H
  refine enter Try.func43 rfl Try.ntmps43 rfl fun a hk => ?_
  apply wp_seq_k; intro K1 hK1
  apply wp_region_lit
  refine sbx 1 hs rfl hk rfl rfl rfl rfl fun b2 w a hk hs => ?_
  refine sa _ rfl hk rfl rfl rfl fun a hk => ?_
  show wpList _ _ _ [] _ _
  refine wpList_nil ?_
  refine hK1 _ _ ?_
  apply wp_seq_k; intro K3 hK3
  apply wp_region_lit
  refine sm _ rfl hk rfl rfl rfl fun a hk => ?_
  refine sf ⟨b2, 4, none⟩ rfl hk rfl rfl rfl fd23_4 rfl fun a hk => ?_
  refine sl rfl hk rfl rfl rfl ag9 (box_cell hs (k := 1) rfl rfl) fun a hk => ?_
  refine sles rfl hk rfl rfl rfl un9 fun a hk => ?_
  refine sv (.int .i64 (w64 (x1 - (x0.Base.size : Int)))) hk rfl rfl rfl fun a hk => ?_
  refine sa _ rfl hk rfl rfl rfl fun a hk => ?_
  show wpList _ _ _ [] _ _
  refine wpList_nil ?_
  refine hK3 _ _ ?_
  apply wp_seq_k; intro K4 hK4
  apply wp_seq_k; intro K5 hK5
  apply wp_region_lit
  refine sm _ rfl hk rfl rfl rfl fun a hk => ?_
  refine sv (.bool (decide ((w64 (x1 - (x0.Base.size : Int))) < 0))) hk rfl rfl rfl fun a hk => ?_
  show wpList _ _ _ [] _ _
  refine wpList_nil ?_
  refine hK5 _ _ ?_
  rcases cond_some H with ⟨c6, H⟩ | ⟨c6, H⟩
  · have hk := hk.lit 11 c6 rfl
    refine cnd_true hk rfl rfl ?_
    apply wp_seq_k; intro K7 hK7
    apply wp_region_lit
    refine sa _ rfl hk rfl rfl rfl fun a hk => ?_
    show wpList _ _ _ [] _ _
    refine wpList_nil ?_
    refine hK7 _ _ ?_
    refine wp_ret ?_
    obtain rfl := Option.some.inj H
    exact fin hk _ [(.int .i64 (-1))] rfl ⟨rfl, trivial⟩ ⟨rfl, (hs.pick [] rfl).dnil⟩
  · have hk := hk.lit 11 c6 rfl
    refine cnd_false hk rfl rfl ?_
    refine wp_skip ?_
    refine hK4 _ _ ?_
    apply wp_seq_k; intro K8 hK8
    apply wp_region_lit
    refine sm _ rfl hk rfl rfl rfl fun a hk => ?_
    refine sf ⟨b2, 5, none⟩ rfl hk rfl rfl rfl fd23_5 rfl fun a hk => ?_
    refine sl rfl hk rfl rfl rfl ag9 (box_cell hs (k := 1) rfl rfl) fun a hk => ?_
    refine sles rfl hk rfl rfl rfl un9 fun a hk => ?_
    refine sv (.int .i64 (w64 ((w64 (x1 - (x0.Base.size : Int))) - (x0.Tip.size : Int)))) hk rfl rfl rfl fun a hk => ?_
    refine sa _ rfl hk rfl rfl rfl fun a hk => ?_
    show wpList _ _ _ [] _ _
    refine wpList_nil ?_
    refine hK8 _ _ ?_
    apply wp_seq_k; intro K9 hK9
    apply wp_seq_k; intro K10 hK10
    apply wp_region_lit
    refine sm _ rfl hk rfl rfl rfl fun a hk => ?_
    refine sv (.bool (decide ((w64 ((w64 (x1 - (x0.Base.size : Int))) - (x0.Tip.size : Int))) < 0))) hk rfl rfl rfl fun a hk => ?_
    show wpList _ _ _ [] _ _
    refine wpList_nil ?_
    refine hK10 _ _ ?_
    rcases cond_some H with ⟨c11, H⟩ | ⟨c11, H⟩
    · have hk := hk.lit 18 c11 rfl
      refine cnd_true hk rfl rfl ?_
      apply wp_seq_k; intro K12 hK12
      apply wp_region_lit
      refine sa _ rfl hk rfl rfl rfl fun a hk => ?_
      show wpList _ _ _ [] _ _
      refine wpList_nil ?_
      refine hK12 _ _ ?_
      refine wp_ret ?_
      obtain rfl := Option.some.inj H
      exact fin hk _ [(.int .i64 (-1))] rfl ⟨rfl, trivial⟩ ⟨rfl, (hs.pick [] rfl).dnil⟩
    · have hk := hk.lit 18 c11 rfl
      refine cnd_false hk rfl rfl ?_
      refine wp_skip ?_
      refine hK9 _ _ ?_
      apply wp_seq_k; intro K13 hK13
      apply wp_region_lit
      refine sm _ rfl hk rfl rfl rfl fun a hk => ?_
      refine sf ⟨b2, 6, none⟩ rfl hk rfl rfl rfl fd23_6 rfl fun a hk => ?_
      refine sl rfl hk rfl rfl rfl ag9 (box_cell hs (k := 1) rfl rfl) fun a hk => ?_
      refine sles rfl hk rfl rfl rfl un9 fun a hk => ?_
      refine sv (.int .i64 (w64 ((w64 ((w64 (x1 - (x0.Base.size : Int))) - (x0.Tip.size : Int))) - (x0.Root.size : Int)))) hk rfl rfl rfl fun a hk => ?_
      refine sa _ rfl hk rfl rfl rfl fun a hk => ?_
      show wpList _ _ _ [] _ _
      refine wpList_nil ?_
      refine hK13 _ _ ?_
      apply wp_seq_k; intro K14 hK14
      apply wp_seq_k; intro K15 hK15
      apply wp_region_lit
      refine sm _ rfl hk rfl rfl rfl fun a hk => ?_
      refine sv (.bool (decide ((w64 ((w64 ((w64 (x1 - (x0.Base.size : Int))) - (x0.Tip.size : Int))) - (x0.Root.size : Int))) < 0))) hk rfl rfl rfl fun a hk => ?_
      show wpList _ _ _ [] _ _
      refine wpList_nil ?_
      refine hK15 _ _ ?_
      rcases cond_some H with ⟨c16, H⟩ | ⟨c16, H⟩
      · have hk := hk.lit 25 c16 rfl
        refine cnd_true hk rfl rfl ?_
        apply wp_seq_k; intro K17 hK17
        apply wp_region_lit
        refine sa _ rfl hk rfl rfl rfl fun a hk => ?_
        show wpList _ _ _ [] _ _
        refine wpList_nil ?_
        refine hK17 _ _ ?_
        refine wp_ret ?_
        obtain rfl := Option.some.inj H
        exact fin hk _ [(.int .i64 (-1))] rfl ⟨rfl, trivial⟩ ⟨rfl, (hs.pick [] rfl).dnil⟩
      · have hk := hk.lit 25 c16 rfl
        refine cnd_false hk rfl rfl ?_
        refine wp_skip ?_
        refine hK14 _ _ ?_
        apply wp_seq_k; intro K18 hK18
        apply wp_region_lit
        refine sm _ rfl hk rfl rfl rfl fun a hk => ?_
        refine sa _ rfl hk rfl rfl rfl fun a hk => ?_
        show wpList _ _ _ [] _ _
        refine wpList_nil ?_
        refine hK18 _ _ ?_
        refine wp_ret ?_
        obtain rfl := Option.some.inj H
        exact fin hk _ [(.int .i64 (w64 ((w64 ((w64 (x1 - (x0.Base.size : Int))) - (x0.Tip.size : Int))) - (x0.Root.size : Int))))] rfl ⟨rfl, trivial⟩ ⟨rfl, (hs.pick [] rfl).dnil⟩

noncomputable def laws_szStore.f (x0 : S_Store) (x1 : Int) : Option (Int) :=
  (bif (decide ((w64 (x1 - (x0.Key.size : Int))) < 0)) then (some (-1)) else ((laws_szRegister.f x0.Reg (w64 (x1 - (x0.Key.size : Int)))).bind fun y9 => (bif (decide (y9 < 0)) then (some (-1)) else ((laws_szDevice.f x0.Device y9).bind fun y16 => (bif (decide (y16 < 0)) then (some (-1)) else (some y16))))))
set_option maxRecDepth 100000 in
set_option maxHeartbeats 0 in
theorem laws_szStore_t (w0 : World) (x0 : S_Store) (A0_0 : Option Addr) (p0_0 : Nat) (k0_0 : Chunk) (v0_0 : View Lay.str A0_0 p0_0 x0.Device.Sure k0_0) (w0_0 : Has w0 k0_0) (A0_1 : Option Addr) (p0_1 : Nat) (k0_1 : Chunk) (v0_1 : View L_Io A0_1 p0_1 x0.Device.Unsure k0_1) (w0_1 : Has w0 k0_1) (x1 : Int) (r : Int) (H : laws_szStore.f x0 x1 = some r) :
    Calls Try.prog 11 #[.agg #[.string x0.Key, .int .i64 x0.Reg.Epoch, .int .i64 x0.Reg.Side, .int .i64 x0.Reg.Count, .int .i64 x0.Reg.Boot, .string x0.Reg.Base, .string x0.Reg.Tip, .string x0.Reg.Root, .slice A0_0 x0.Device.Sure.length p0_0, .slice A0_1 x0.Device.Unsure.length p0_1, .bool x0.Up, .bool x0.Dead], .int .i64 x1] w0 (Ret (fun v w => v = .int .i64 r ∧ Sat [] w0 w [] [])) := by
  have hs : Sat [] w0 w0 [(1, k0_0), (2, k0_1)] [] := Sat.init w0 [(1, k0_0), (2, k0_1)] [] (by simp only [List.mem_cons, List.not_mem_nil, or_false]; rintro x (rfl | rfl) <;> assumption) (by simp) List.nodup_nil (by simp [blks])
  unfold laws_szStore.f at H
  refine enter Try.func11 rfl Try.ntmps11 rfl fun a hk => ?_
  apply wp_seq_k; intro K1 hK1
  apply wp_region_lit
  refine sbx 3 hs rfl hk rfl rfl rfl rfl fun b2 w a hk hs => ?_
  refine sa _ rfl hk rfl rfl rfl fun a hk => ?_
  show wpList _ _ _ [] _ _
  refine wpList_nil ?_
  refine hK1 _ _ ?_
  apply wp_seq_k; intro K3 hK3
  apply wp_region_lit
  refine sm _ rfl hk rfl rfl rfl fun a hk => ?_
  refine sf ⟨b2, 0, none⟩ rfl hk rfl rfl rfl fd29_0 rfl fun a hk => ?_
  refine sl rfl hk rfl rfl rfl ag9 (box_cell hs (k := 3) rfl rfl) fun a hk => ?_
  refine sles rfl hk rfl rfl rfl un9 fun a hk => ?_
  refine sv (.int .i64 (w64 (x1 - (x0.Key.size : Int)))) hk rfl rfl rfl fun a hk => ?_
  refine sa _ rfl hk rfl rfl rfl fun a hk => ?_
  show wpList _ _ _ [] _ _
  refine wpList_nil ?_
  refine hK3 _ _ ?_
  apply wp_seq_k; intro K4 hK4
  apply wp_seq_k; intro K5 hK5
  apply wp_region_lit
  refine sm _ rfl hk rfl rfl rfl fun a hk => ?_
  refine sv (.bool (decide ((w64 (x1 - (x0.Key.size : Int))) < 0))) hk rfl rfl rfl fun a hk => ?_
  show wpList _ _ _ [] _ _
  refine wpList_nil ?_
  refine hK5 _ _ ?_
  rcases cond_some H with ⟨c6, H⟩ | ⟨c6, H⟩
  · have hk := hk.lit 11 c6 rfl
    refine cnd_true hk rfl rfl ?_
    apply wp_seq_k; intro K7 hK7
    apply wp_region_lit
    refine sa _ rfl hk rfl rfl rfl fun a hk => ?_
    show wpList _ _ _ [] _ _
    refine wpList_nil ?_
    refine hK7 _ _ ?_
    refine wp_ret ?_
    obtain rfl := Option.some.inj H
    exact fin hk _ [(.int .i64 (-1))] rfl ⟨rfl, trivial⟩ ⟨rfl, (hs.pick [] rfl).dnil⟩
  · have hk := hk.lit 11 c6 rfl
    refine cnd_false hk rfl rfl ?_
    refine wp_skip ?_
    refine hK4 _ _ ?_
    apply wp_seq_k; intro K8 hK8
    apply wp_region_lit
    refine sf ⟨b2, 1, none⟩ rfl hk rfl rfl rfl fd29_1 rfl fun a hk => ?_
    refine sln [.int .i64 x0.Reg.Epoch, .int .i64 x0.Reg.Side, .int .i64 x0.Reg.Count, .int .i64 x0.Reg.Boot, .string x0.Reg.Base, .string x0.Reg.Tip, .string x0.Reg.Root] rfl hk rfl rfl rfl ag23 sz23 (box_part hs (k := 3) rfl rfl) fun a hk => ?_
    refine sm _ rfl hk rfl rfl rfl fun a hk => ?_
    obtain ⟨y9, h10, H⟩ := bind_some H
    refine sc rfl en43 hk rfl rfl rfl (laws_szRegister_t _ x0.Reg (w64 (x1 - (x0.Key.size : Int))) _ h10) ?_
    rintro _ w ⟨rfl, hG⟩ a hk
    have hs := hs.call0 hG
    refine sa _ rfl hk rfl rfl rfl fun a hk => ?_
    show wpList _ _ _ [] _ _
    refine wpList_nil ?_
    refine hK8 _ _ ?_
    apply wp_seq_k; intro K11 hK11
    apply wp_seq_k; intro K12 hK12
    apply wp_region_lit
    refine sm _ rfl hk rfl rfl rfl fun a hk => ?_
    refine sv (.bool (decide (y9 < 0))) hk rfl rfl rfl fun a hk => ?_
    show wpList _ _ _ [] _ _
    refine wpList_nil ?_
    refine hK12 _ _ ?_
    rcases cond_some H with ⟨c13, H⟩ | ⟨c13, H⟩
    · have hk := hk.lit 17 c13 rfl
      refine cnd_true hk rfl rfl ?_
      apply wp_seq_k; intro K14 hK14
      apply wp_region_lit
      refine sa _ rfl hk rfl rfl rfl fun a hk => ?_
      show wpList _ _ _ [] _ _
      refine wpList_nil ?_
      refine hK14 _ _ ?_
      refine wp_ret ?_
      obtain rfl := Option.some.inj H
      exact fin hk _ [(.int .i64 (-1))] rfl ⟨rfl, trivial⟩ ⟨rfl, (hs.pick [] rfl).dnil⟩
    · have hk := hk.lit 17 c13 rfl
      refine cnd_false hk rfl rfl ?_
      refine wp_skip ?_
      refine hK11 _ _ ?_
      apply wp_seq_k; intro K15 hK15
      apply wp_region_lit
      refine sf ⟨b2, 8, none⟩ rfl hk rfl rfl rfl fd29_2 rfl fun a hk => ?_
      refine sln [.slice A0_0 x0.Device.Sure.length p0_0, .slice A0_1 x0.Device.Unsure.length p0_1] rfl hk rfl rfl rfl ag27 sz27 (box_part hs (k := 3) rfl rfl) fun a hk => ?_
      refine sm _ rfl hk rfl rfl rfl fun a hk => ?_
      obtain ⟨y16, h17, H⟩ := bind_some H
      refine sc rfl en28 hk rfl rfl rfl (laws_szDevice_t _ x0.Device A0_0 p0_0 _ v0_0 (hs.hasD (k := 1) rfl) A0_1 p0_1 _ v0_1 (hs.hasD (k := 2) rfl) y9 _ h17) ?_
      rintro _ w ⟨rfl, hG⟩ a hk
      have hs := hs.call0 hG
      refine sa _ rfl hk rfl rfl rfl fun a hk => ?_
      show wpList _ _ _ [] _ _
      refine wpList_nil ?_
      refine hK15 _ _ ?_
      apply wp_seq_k; intro K18 hK18
      apply wp_seq_k; intro K19 hK19
      apply wp_region_lit
      refine sm _ rfl hk rfl rfl rfl fun a hk => ?_
      refine sv (.bool (decide (y16 < 0))) hk rfl rfl rfl fun a hk => ?_
      show wpList _ _ _ [] _ _
      refine wpList_nil ?_
      refine hK19 _ _ ?_
      rcases cond_some H with ⟨c20, H⟩ | ⟨c20, H⟩
      · have hk := hk.lit 23 c20 rfl
        refine cnd_true hk rfl rfl ?_
        apply wp_seq_k; intro K21 hK21
        apply wp_region_lit
        refine sa _ rfl hk rfl rfl rfl fun a hk => ?_
        show wpList _ _ _ [] _ _
        refine wpList_nil ?_
        refine hK21 _ _ ?_
        refine wp_ret ?_
        obtain rfl := Option.some.inj H
        exact fin hk _ [(.int .i64 (-1))] rfl ⟨rfl, trivial⟩ ⟨rfl, (hs.pick [] rfl).dnil⟩
      · have hk := hk.lit 23 c20 rfl
        refine cnd_false hk rfl rfl ?_
        refine wp_skip ?_
        refine hK18 _ _ ?_
        apply wp_seq_k; intro K22 hK22
        apply wp_region_lit
        refine sm _ rfl hk rfl rfl rfl fun a hk => ?_
        refine sa _ rfl hk rfl rfl rfl fun a hk => ?_
        show wpList _ _ _ [] _ _
        refine wpList_nil ?_
        refine hK22 _ _ ?_
        refine wp_ret ?_
        obtain rfl := Option.some.inj H
        exact fin hk _ [(.int .i64 y16)] rfl ⟨rfl, trivial⟩ ⟨rfl, (hs.pick [] rfl).dnil⟩

noncomputable def spec_SameDevice.s0 (x0 : S_Device) (x1 : S_Device) (u19 : Int) : Option ((Int) ⊕ Ex (Unit) (Bool)) :=
  (bif (decide (u19 < (x0.Sure.length : Int))) then (if 0 ≤ u19 ∧ u19 < (x0.Sure.length : Int) then (if 0 ≤ u19 ∧ u19 < (x1.Sure.length : Int) then (bif (!((x0.Sure.getD u19.toNat ByteArray.empty).toList == (x1.Sure.getD u19.toNat ByteArray.empty).toList)) then (some (.inr (.ret false))) else (some (.inl (w64 (u19 + 1))))) else none) else none) else (some (.inr (.out ()))))
noncomputable def spec_SameDevice.s1 (x0 : S_Device) (x1 : S_Device) (u48 : Int) : Option ((Int) ⊕ Ex (Unit) (Bool)) :=
  (bif (decide (u48 < (x0.Unsure.length : Int))) then (if 0 ≤ u48 ∧ u48 < (x0.Unsure.length : Int) then (if 0 ≤ u48 ∧ u48 < (x1.Unsure.length : Int) then (bif (!((((x0.Unsure.getD u48.toNat z_Io).At) == ((x1.Unsure.getD u48.toNat z_Io).At)) && ((((x0.Unsure.getD u48.toNat z_Io).Data).toList == ((x1.Unsure.getD u48.toNat z_Io).Data).toList) && true))) then (some (.inr (.ret false))) else (some (.inl (w64 (u48 + 1))))) else none) else none) else (some (.inr (.out ()))))
noncomputable def spec_SameDevice.f (x0 : S_Device) (x1 : S_Device) : Option (Bool) :=
  (((bif ((x0.Sure.length : Int) != (x1.Sure.length : Int)) then (some true) else (some ((x0.Unsure.length : Int) != (x1.Unsure.length : Int)))) : Option (Bool)).bind fun u7 => (bif u7 then (some false) else ((loopO (fun s => spec_SameDevice.s0 x0 x1 s) 0).bind fun o => match o with | .out _ => ((loopO (fun s => spec_SameDevice.s1 x0 x1 s) 0).bind fun o => match o with | .out _ => (some true) | .ret r => (some r)) | .ret r => (some r))))
set_option maxRecDepth 100000 in
set_option maxHeartbeats 0 in
theorem spec_SameDevice_t (w0 : World) (x0 : S_Device) (A0_0 : Option Addr) (p0_0 : Nat) (k0_0 : Chunk) (v0_0 : View Lay.str A0_0 p0_0 x0.Sure k0_0) (w0_0 : Has w0 k0_0) (A0_1 : Option Addr) (p0_1 : Nat) (k0_1 : Chunk) (v0_1 : View L_Io A0_1 p0_1 x0.Unsure k0_1) (w0_1 : Has w0 k0_1) (x1 : S_Device) (A1_0 : Option Addr) (p1_0 : Nat) (k1_0 : Chunk) (v1_0 : View Lay.str A1_0 p1_0 x1.Sure k1_0) (w1_0 : Has w0 k1_0) (A1_1 : Option Addr) (p1_1 : Nat) (k1_1 : Chunk) (v1_1 : View L_Io A1_1 p1_1 x1.Unsure k1_1) (w1_1 : Has w0 k1_1) (r : Bool) (H : spec_SameDevice.f x0 x1 = some r) :
    Calls Try.prog 44 #[.agg #[.slice A0_0 x0.Sure.length p0_0, .slice A0_1 x0.Unsure.length p0_1], .agg #[.slice A1_0 x1.Sure.length p1_0, .slice A1_1 x1.Unsure.length p1_1]] w0 (Ret (fun v w => v = .bool r ∧ Sat [] w0 w [] [])) := by
  have hs : Sat [] w0 w0 [(1, k0_0), (2, k0_1), (3, k1_0), (4, k1_1)] [] := Sat.init w0 [(1, k0_0), (2, k0_1), (3, k1_0), (4, k1_1)] [] (by simp only [List.mem_cons, List.not_mem_nil, or_false]; rintro x (rfl | rfl | rfl | rfl) <;> assumption) (by simp) List.nodup_nil (by simp [blks])
  unfold spec_SameDevice.f at H
  refine enter Try.func44 rfl Try.ntmps44 rfl fun a hk => ?_
  apply wp_seq_k; intro K1 hK1
  apply wp_region_lit
  refine sbx 5 hs rfl hk rfl rfl rfl rfl fun b2 w a hk hs => ?_
  refine sbx 6 hs rfl hk rfl rfl rfl rfl fun b3 w a hk hs => ?_
  refine sa _ rfl hk rfl rfl rfl fun a hk => ?_
  show wpList _ _ _ [] _ _
  refine wpList_nil ?_
  refine hK1 _ _ ?_
  apply wp_seq_k; intro K4 hK4
  apply wp_seq_k; intro K5 hK5
  obtain ⟨o8, h9, HL10⟩ := bind_some H
  clear H
  obtain ⟨R11, hR11⟩ : ∃ R : Act → World → Prop, R = fun a w => ∃ (u7 : Bool), u7 = o8 ∧ Kn [(2, (.pointer (some ⟨b2, 0, none⟩))), (3, (.pointer (some ⟨b3, 0, none⟩))), (22, (.bool u7))] 59 a ∧ Sat [] w0 w [(1, k0_0), (2, k0_1), (3, k1_0), (4, k1_1)] [(5, [(b2, .cells #[.slice A0_0 x0.Sure.length p0_0, .slice A0_1 x0.Unsure.length p0_1] 35 (0, 0))]), (6, [(b3, .cells #[.slice A1_0 x1.Sure.length p1_0, .slice A1_1 x1.Unsure.length p1_1] 35 (0, 0))])] := ⟨_, rfl⟩
  refine wp_cutq R11 ?_ ?_
  · have H := h9
    apply wp_region_lit
    refine sf ⟨b2, 0, none⟩ rfl hk rfl rfl rfl fd35_0 rfl fun a hk => ?_
    refine sl rfl hk rfl rfl rfl ag24 (box_cell hs (k := 5) rfl rfl) fun a hk => ?_
    refine sle rfl hk rfl rfl rfl un24 fun a hk => ?_
    refine sf ⟨b3, 0, none⟩ rfl hk rfl rfl rfl fd35_0 rfl fun a hk => ?_
    refine sl rfl hk rfl rfl rfl ag24 (box_cell hs (k := 6) rfl rfl) fun a hk => ?_
    refine sle rfl hk rfl rfl rfl un24 fun a hk => ?_
    refine sv (.bool ((x0.Sure.length : Int) != (x1.Sure.length : Int))) hk rfl rfl rfl fun a hk => ?_
    refine sm _ rfl hk rfl rfl rfl fun a hk => ?_
    rcases cond_some H with ⟨c12, H⟩ | ⟨c12, H⟩
    · have hk := hk.lit 14 c12 rfl
      refine sk hk rfl rfl rfl fun a hk => ?_
      refine sk hk rfl rfl rfl fun a hk => ?_
      refine sk hk rfl rfl rfl fun a hk => ?_
      refine sk hk rfl rfl rfl fun a hk => ?_
      refine sk hk rfl rfl rfl fun a hk => ?_
      refine sk hk rfl rfl rfl fun a hk => ?_
      refine sk hk rfl rfl rfl fun a hk => ?_
      refine sv (.bool true) hk rfl rfl rfl fun a hk => ?_
      show wpList _ _ _ [] _ _
      refine wpList_nil ?_
      obtain rfl := Option.some.inj H
      show R11 _ _
      rw [hR11]
      exact ⟨true, rfl, (hk.c 2 rfl (hk.c 3 rfl (hk.c 22 rfl hk.k))), (hs.pick [(5, 5), (6, 6)] rfl)⟩
    · have hk := hk.lit 14 c12 rfl
      refine sf ⟨b2, 1, none⟩ rfl hk rfl rfl rfl fd35_1 rfl fun a hk => ?_
      refine sl rfl hk rfl rfl rfl ag33 (box_cell hs (k := 5) rfl rfl) fun a hk => ?_
      refine sle rfl hk rfl rfl rfl un33 fun a hk => ?_
      refine sf ⟨b3, 1, none⟩ rfl hk rfl rfl rfl fd35_1 rfl fun a hk => ?_
      refine sl rfl hk rfl rfl rfl ag33 (box_cell hs (k := 6) rfl rfl) fun a hk => ?_
      refine sle rfl hk rfl rfl rfl un33 fun a hk => ?_
      refine sv (.bool ((x0.Unsure.length : Int) != (x1.Unsure.length : Int))) hk rfl rfl rfl fun a hk => ?_
      refine sv (.bool ((x0.Unsure.length : Int) != (x1.Unsure.length : Int))) hk rfl rfl rfl fun a hk => ?_
      show wpList _ _ _ [] _ _
      refine wpList_nil ?_
      obtain rfl := Option.some.inj H
      show R11 _ _
      rw [hR11]
      exact ⟨((x0.Unsure.length : Int) != (x1.Unsure.length : Int)), rfl, (hk.c 2 rfl (hk.c 3 rfl (hk.c 22 rfl hk.k))), (hs.pick [(5, 5), (6, 6)] rfl)⟩
  · intro a w hR0
    rw [hR11] at hR0
    obtain ⟨u7, rfl, hk, hs⟩ := hR0
    have H := HL10
    try dsimp only at H
    refine hK5 _ _ ?_
    rcases cond_some H with ⟨c13, H⟩ | ⟨c13, H⟩
    · have hk := hk.lit 22 c13 rfl
      refine cnd_true hk rfl rfl ?_
      apply wp_seq_k; intro K14 hK14
      apply wp_region_lit
      refine sa _ rfl hk rfl rfl rfl fun a hk => ?_
      show wpList _ _ _ [] _ _
      refine wpList_nil ?_
      refine hK14 _ _ ?_
      refine wp_ret ?_
      obtain rfl := Option.some.inj H
      exact fin hk _ [(.bool false)] rfl ⟨rfl, trivial⟩ ⟨rfl, (hs.pick [] rfl).dnil⟩
    · have hk := hk.lit 22 c13 rfl
      refine cnd_false hk rfl rfl ?_
      refine wp_skip ?_
      refine hK4 _ _ ?_
      apply wp_seq_k; intro K15 hK15
      apply wp_seq_k; intro K16 hK16
      apply wp_region_lit
      refine sa _ rfl hk rfl rfl rfl fun a hk => ?_
      show wpList _ _ _ [] _ _
      refine wpList_nil ?_
      refine hK16 _ _ ?_
      obtain ⟨o20, h21, HL22⟩ := bind_some H
      clear H
      obtain ⟨R23, hR23⟩ : ∃ R : Act → World → Prop, R = fun a w => o20 = .out () ∧ Kn [(2, (.pointer (some ⟨b2, 0, none⟩))), (3, (.pointer (some ⟨b3, 0, none⟩)))] 59 a ∧ Sat [] w0 w [(1, k0_0), (2, k0_1), (3, k1_0), (4, k1_1)] [(5, [(b2, .cells #[.slice A0_0 x0.Sure.length p0_0, .slice A0_1 x0.Unsure.length p0_1] 35 (0, 0))]), (6, [(b3, .cells #[.slice A1_0 x1.Sure.length p1_0, .slice A1_1 x1.Unsure.length p1_1] 35 (0, 0))])] := ⟨_, rfl⟩
      refine wp_cutq R23 ?_ ?_
      · refine wp_block ?_
        obtain ⟨fu25, h21⟩ := loopO_some h21
        obtain ⟨I24, hI24⟩ : ∃ I : Nat → Act → World → Prop, I = fun fu a w => ∃ (u19 : Int), loopN (fun s => spec_SameDevice.s0 x0 x1 s) fu u19 = some o20 ∧ Kn [(2, (.pointer (some ⟨b2, 0, none⟩))), (3, (.pointer (some ⟨b3, 0, none⟩))), (5, (.int .i64 u19))] 59 a ∧ Sat [] w0 w [(1, k0_0), (2, k0_1), (3, k1_0), (4, k1_1)] [(5, [(b2, .cells #[.slice A0_0 x0.Sure.length p0_0, .slice A0_1 x0.Unsure.length p0_1] 35 (0, 0))]), (6, [(b3, .cells #[.slice A1_0 x1.Sure.length p1_0, .slice A1_1 x1.Unsure.length p1_1] 35 (0, 0))])] := ⟨_, rfl⟩
        refine wp_loop_ghost I24 fu25 ?_ ?_
        · rw [hI24]
          exact ⟨0, h21, (hk.c 2 rfl (hk.c 3 rfl (hk.c 5 rfl hk.k))), (hs.pick [(5, 5), (6, 6)] rfl)⟩
        · clear h21 hk hs
          intro fu25 a w hI0
          rw [hI24] at hI0
          obtain ⟨u19, hi, hk, hs⟩ := hI0
          obtain ⟨x26, H, h27⟩ := loop_round hi
          try dsimp only at H
          unfold spec_SameDevice.s0 at H
          apply wp_seq_k; intro K28 hK28
          apply wp_seq_k; intro K29 hK29
          apply wp_region_lit
          refine sm _ rfl hk rfl rfl rfl fun a hk => ?_
          refine sf ⟨b2, 0, none⟩ rfl hk rfl rfl rfl fd35_0 rfl fun a hk => ?_
          refine sl rfl hk rfl rfl rfl ag24 (box_cell hs (k := 5) rfl rfl) fun a hk => ?_
          refine sle rfl hk rfl rfl rfl un24 fun a hk => ?_
          refine sv (.bool (decide (u19 < (x0.Sure.length : Int)))) hk rfl rfl rfl fun a hk => ?_
          show wpList _ _ _ [] _ _
          refine wpList_nil ?_
          refine hK29 _ _ ?_
          rcases cond_some H with ⟨c30, H⟩ | ⟨c30, H⟩
          · have hk := hk.lit 27 c30 rfl
            refine cnd_true hk rfl rfl ?_
            refine wp_skip ?_
            refine hK28 _ _ ?_
            apply wp_seq_k; intro K31 hK31
            refine wp_block ?_
            apply wp_seq_k; intro K32 hK32
            refine wp_region_mix [(0, true), (1, true), (2, true), (3, true), (4, true), (5, true), (6, true), (7, true), (8, true), (9, true), (10, true)] mo (by kernel_rfl) hs fun _ => ?_
            have hs := hs.drew
            refine qst (.pointer (some ⟨b2, 0, none⟩)) hk rfl rfl rfl rfl (fun w hs => sf ⟨b2, 0, none⟩ rfl hk rfl rfl rfl fd35_0 rfl fun a hk => qe hk) fun a hk => ?_
            refine qst (.slice A0_0 x0.Sure.length p0_0) hk rfl rfl rfl rfl (fun w hs => sl rfl hk rfl rfl rfl ag24 (box_cell hs (k := 5) rfl rfl) fun a hk => qe hk) fun a hk => ?_
            refine qst (.int .i64 u19) hk rfl rfl rfl rfl (fun w hs => sm _ rfl hk rfl rfl rfl fun a hk => qe hk) fun a hk => ?_
            rcases ite_some H with ⟨c33, H⟩ | ⟨_, H⟩
            rotate_left
            · cases H
            obtain ⟨b34, q35, hAc33⟩ := (v0_0).some_ u19 c33.1 c33.2
            refine qst (.pointer (some (padd A0_0 (u19.toNat * 1)))) hk rfl rfl rfl rfl (fun w hs => si rfl hk rfl rfl rfl rfl un24 sz9 c33.1 c33.2 hAc33 fun a hk => qe hk) fun a hk => ?_
            obtain ⟨_, rfl, e36⟩ := (v0_0).at_ ByteArray.empty u19 c33.1 c33.2
            refine qst (.string (x0.Sure.getD u19.toNat ByteArray.empty)) hk rfl rfl rfl rfl (fun w hs => sl (v := (.string (x0.Sure.getD u19.toNat ByteArray.empty))) rfl hk rfl rfl rfl ag9 ((e36 0 _ rfl).cell (hs.hasD (k := 1) rfl)) fun a hk => qe hk) fun a hk => ?_
            refine qst (.pointer (some ⟨b3, 0, none⟩)) hk rfl rfl rfl rfl (fun w hs => sf ⟨b3, 0, none⟩ rfl hk rfl rfl rfl fd35_0 rfl fun a hk => qe hk) fun a hk => ?_
            refine qst (.slice A1_0 x1.Sure.length p1_0) hk rfl rfl rfl rfl (fun w hs => sl rfl hk rfl rfl rfl ag24 (box_cell hs (k := 6) rfl rfl) fun a hk => qe hk) fun a hk => ?_
            refine qst (.int .i64 u19) hk rfl rfl rfl rfl (fun w hs => sm _ rfl hk rfl rfl rfl fun a hk => qe hk) fun a hk => ?_
            rcases ite_some H with ⟨c37, H⟩ | ⟨_, H⟩
            rotate_left
            · cases H
            obtain ⟨b38, q39, hAc37⟩ := (v1_0).some_ u19 c37.1 c37.2
            refine qst (.pointer (some (padd A1_0 (u19.toNat * 1)))) hk rfl rfl rfl rfl (fun w hs => si rfl hk rfl rfl rfl rfl un24 sz9 c37.1 c37.2 hAc37 fun a hk => qe hk) fun a hk => ?_
            obtain ⟨_, rfl, e40⟩ := (v1_0).at_ ByteArray.empty u19 c37.1 c37.2
            refine qst (.string (x1.Sure.getD u19.toNat ByteArray.empty)) hk rfl rfl rfl rfl (fun w hs => sl (v := (.string (x1.Sure.getD u19.toNat ByteArray.empty))) rfl hk rfl rfl rfl ag9 ((e40 0 _ rfl).cell (hs.hasD (k := 3) rfl)) fun a hk => qe hk) fun a hk => ?_
            refine qst (.bool (!((x0.Sure.getD u19.toNat ByteArray.empty).toList == (x1.Sure.getD u19.toNat ByteArray.empty).toList))) hk rfl rfl rfl rfl (fun w hs => sv (.bool (!((x0.Sure.getD u19.toNat ByteArray.empty).toList == (x1.Sure.getD u19.toNat ByteArray.empty).toList))) hk rfl rfl rfl fun a hk => qe hk) fun a hk => ?_
            refine wml_nil fun w hF _ => ?_
            have hs := hs.f hF
            refine hK32 _ _ ?_
            rcases cond_some H with ⟨c41, H⟩ | ⟨c41, H⟩
            · have hk := hk.lit 40 c41 rfl
              refine cnd_true hk rfl rfl ?_
              apply wp_seq_k; intro K42 hK42
              apply wp_region_lit
              refine sa _ rfl hk rfl rfl rfl fun a hk => ?_
              show wpList _ _ _ [] _ _
              refine wpList_nil ?_
              refine hK42 _ _ ?_
              refine wp_ret ?_
              obtain rfl := Option.some.inj H
              have ho20 := h27
              try dsimp only at ho20
              subst ho20
              have H := HL22
              try dsimp only at H
              obtain rfl := Option.some.inj H
              exact fin hk _ [(.bool false)] rfl ⟨rfl, trivial⟩ ⟨rfl, (hs.pick [] rfl).dnil⟩
            · have hk := hk.lit 40 c41 rfl
              refine cnd_false hk rfl rfl ?_
              refine wp_skip ?_
              refine hK31 _ _ ?_
              apply wp_region_lit
              refine sm _ rfl hk rfl rfl rfl fun a hk => ?_
              refine sv (.int .i64 (w64 (u19 + 1))) hk rfl rfl rfl fun a hk => ?_
              refine sa _ rfl hk rfl rfl rfl fun a hk => ?_
              show wpList _ _ _ [] _ _
              refine wpList_nil ?_
              obtain rfl := Option.some.inj H
              obtain ⟨m43, hmm43, h27⟩ := h27
              show ∃ n', n' < _ ∧ I24 n' _ _
              refine ⟨m43, hmm43, ?_⟩
              rw [hI24]
              exact ⟨(w64 (u19 + 1)), h27, (hk.c 2 rfl (hk.c 3 rfl (hk.c 5 rfl hk.k))), (hs.pick [(5, 5), (6, 6)] rfl)⟩
          · have hk := hk.lit 27 c30 rfl
            refine cnd_false hk rfl rfl ?_
            refine wp_exit ?_
            obtain rfl := Option.some.inj H
            show R23 _ _
            rw [hR23]
            exact ⟨h27.symm, (hk.c 2 rfl (hk.c 3 rfl hk.k)), (hs.pick [(5, 5), (6, 6)] rfl)⟩
      · intro a w hR0
        rw [hR23] at hR0
        obtain ⟨rfl, hk, hs⟩ := hR0
        have H := HL22
        try dsimp only at H
        refine hK15 _ _ ?_
        apply wp_seq_k; intro K44 hK44
        apply wp_seq_k; intro K45 hK45
        apply wp_region_lit
        refine sa _ rfl hk rfl rfl rfl fun a hk => ?_
        show wpList _ _ _ [] _ _
        refine wpList_nil ?_
        refine hK45 _ _ ?_
        obtain ⟨o49, h50, HL51⟩ := bind_some H
        clear H
        obtain ⟨R52, hR52⟩ : ∃ R : Act → World → Prop, R = fun a w => o49 = .out () ∧ Kn [] 59 a ∧ Sat [] w0 w [(1, k0_0), (2, k0_1), (3, k1_0), (4, k1_1)] [] := ⟨_, rfl⟩
        refine wp_cutq R52 ?_ ?_
        · refine wp_block ?_
          obtain ⟨fu54, h50⟩ := loopO_some h50
          obtain ⟨I53, hI53⟩ : ∃ I : Nat → Act → World → Prop, I = fun fu a w => ∃ (u48 : Int), loopN (fun s => spec_SameDevice.s1 x0 x1 s) fu u48 = some o49 ∧ Kn [(2, (.pointer (some ⟨b2, 0, none⟩))), (3, (.pointer (some ⟨b3, 0, none⟩))), (6, (.int .i64 u48))] 59 a ∧ Sat [] w0 w [(1, k0_0), (2, k0_1), (3, k1_0), (4, k1_1)] [(5, [(b2, .cells #[.slice A0_0 x0.Sure.length p0_0, .slice A0_1 x0.Unsure.length p0_1] 35 (0, 0))]), (6, [(b3, .cells #[.slice A1_0 x1.Sure.length p1_0, .slice A1_1 x1.Unsure.length p1_1] 35 (0, 0))])] := ⟨_, rfl⟩
          refine wp_loop_ghost I53 fu54 ?_ ?_
          · rw [hI53]
            exact ⟨0, h50, (hk.c 2 rfl (hk.c 3 rfl (hk.c 6 rfl hk.k))), (hs.pick [(5, 5), (6, 6)] rfl)⟩
          · clear h50 hk hs
            intro fu54 a w hI0
            rw [hI53] at hI0
            obtain ⟨u48, hi, hk, hs⟩ := hI0
            obtain ⟨x55, H, h56⟩ := loop_round hi
            try dsimp only at H
            unfold spec_SameDevice.s1 at H
            apply wp_seq_k; intro K57 hK57
            apply wp_seq_k; intro K58 hK58
            apply wp_region_lit
            refine sm _ rfl hk rfl rfl rfl fun a hk => ?_
            refine sf ⟨b2, 1, none⟩ rfl hk rfl rfl rfl fd35_1 rfl fun a hk => ?_
            refine sl rfl hk rfl rfl rfl ag33 (box_cell hs (k := 5) rfl rfl) fun a hk => ?_
            refine sle rfl hk rfl rfl rfl un33 fun a hk => ?_
            refine sv (.bool (decide (u48 < (x0.Unsure.length : Int)))) hk rfl rfl rfl fun a hk => ?_
            show wpList _ _ _ [] _ _
            refine wpList_nil ?_
            refine hK58 _ _ ?_
            rcases cond_some H with ⟨c59, H⟩ | ⟨c59, H⟩
            · have hk := hk.lit 45 c59 rfl
              refine cnd_true hk rfl rfl ?_
              refine wp_skip ?_
              refine hK57 _ _ ?_
              apply wp_seq_k; intro K60 hK60
              refine wp_block ?_
              apply wp_seq_k; intro K61 hK61
              refine wp_region_mix [(0, true), (1, true), (2, true), (3, true), (4, true), (5, true), (6, true), (7, true), (8, true), (9, true), (10, true)] mo (by kernel_rfl) hs fun _ => ?_
              have hs := hs.drew
              refine qst (.pointer (some ⟨b2, 1, none⟩)) hk rfl rfl rfl rfl (fun w hs => sf ⟨b2, 1, none⟩ rfl hk rfl rfl rfl fd35_1 rfl fun a hk => qe hk) fun a hk => ?_
              refine qst (.slice A0_1 x0.Unsure.length p0_1) hk rfl rfl rfl rfl (fun w hs => sl rfl hk rfl rfl rfl ag33 (box_cell hs (k := 5) rfl rfl) fun a hk => qe hk) fun a hk => ?_
              refine qst (.int .i64 u48) hk rfl rfl rfl rfl (fun w hs => sm _ rfl hk rfl rfl rfl fun a hk => qe hk) fun a hk => ?_
              rcases ite_some H with ⟨c62, H⟩ | ⟨_, H⟩
              rotate_left
              · cases H
              obtain ⟨b63, q64, hAc62⟩ := (v0_1).some_ u48 c62.1 c62.2
              refine qst (.pointer (some (padd A0_1 (u48.toNat * 2)))) hk rfl rfl rfl rfl (fun w hs => si rfl hk rfl rfl rfl rfl un33 sz114 c62.1 c62.2 hAc62 fun a hk => qe hk) fun a hk => ?_
              obtain ⟨_, rfl, e65⟩ := (v0_1).at_ z_Io u48 c62.1 c62.2
              refine qst (.agg #[.int .i64 ((x0.Unsure.getD u48.toNat z_Io).At), .string ((x0.Unsure.getD u48.toNat z_Io).Data)]) hk rfl rfl rfl rfl (fun w hs => sln [.int .i64 ((x0.Unsure.getD u48.toNat z_Io).At), .string ((x0.Unsure.getD u48.toNat z_Io).Data)] rfl hk rfl rfl rfl ag114 sz114 (cells_at e65 (hs.hasD (k := 2) rfl)) fun a hk => qe hk) fun a hk => ?_
              refine qst (.pointer (some ⟨b3, 1, none⟩)) hk rfl rfl rfl rfl (fun w hs => sf ⟨b3, 1, none⟩ rfl hk rfl rfl rfl fd35_1 rfl fun a hk => qe hk) fun a hk => ?_
              refine qst (.slice A1_1 x1.Unsure.length p1_1) hk rfl rfl rfl rfl (fun w hs => sl rfl hk rfl rfl rfl ag33 (box_cell hs (k := 6) rfl rfl) fun a hk => qe hk) fun a hk => ?_
              refine qst (.int .i64 u48) hk rfl rfl rfl rfl (fun w hs => sm _ rfl hk rfl rfl rfl fun a hk => qe hk) fun a hk => ?_
              rcases ite_some H with ⟨c66, H⟩ | ⟨_, H⟩
              rotate_left
              · cases H
              obtain ⟨b67, q68, hAc66⟩ := (v1_1).some_ u48 c66.1 c66.2
              refine qst (.pointer (some (padd A1_1 (u48.toNat * 2)))) hk rfl rfl rfl rfl (fun w hs => si rfl hk rfl rfl rfl rfl un33 sz114 c66.1 c66.2 hAc66 fun a hk => qe hk) fun a hk => ?_
              obtain ⟨_, rfl, e69⟩ := (v1_1).at_ z_Io u48 c66.1 c66.2
              refine qst (.agg #[.int .i64 ((x1.Unsure.getD u48.toNat z_Io).At), .string ((x1.Unsure.getD u48.toNat z_Io).Data)]) hk rfl rfl rfl rfl (fun w hs => sln [.int .i64 ((x1.Unsure.getD u48.toNat z_Io).At), .string ((x1.Unsure.getD u48.toNat z_Io).Data)] rfl hk rfl rfl rfl ag114 sz114 (cells_at e69 (hs.hasD (k := 4) rfl)) fun a hk => qe hk) fun a hk => ?_
              refine qst (.bool (!((((x0.Unsure.getD u48.toNat z_Io).At) == ((x1.Unsure.getD u48.toNat z_Io).At)) && ((((x0.Unsure.getD u48.toNat z_Io).Data).toList == ((x1.Unsure.getD u48.toNat z_Io).Data).toList) && true)))) hk rfl rfl rfl rfl (fun w hs => snea (r := ((((x0.Unsure.getD u48.toNat z_Io).At) == ((x1.Unsure.getD u48.toNat z_Io).At)) && ((((x0.Unsure.getD u48.toNat z_Io).Data).toList == ((x1.Unsure.getD u48.toNat z_Io).Data).toList) && true))) rfl hk rfl rfl rfl rfl eg114 (eq_agg Try.underlying114 sh114 (eqf_cons rfl ag3 rfl rfl (run_equalIn_int _ _ _ _ _ _ _ un3) (eqf_cons rfl ag9 rfl rfl (run_equalIn_string _ _ _ _ _ un9) eqf_nil))) fun a hk => qe hk) fun a hk => ?_
              refine wml_nil fun w hF _ => ?_
              have hs := hs.f hF
              refine hK61 _ _ ?_
              rcases cond_some H with ⟨c70, H⟩ | ⟨c70, H⟩
              · have hk := hk.lit 58 c70 rfl
                refine cnd_true hk rfl rfl ?_
                apply wp_seq_k; intro K71 hK71
                apply wp_region_lit
                refine sa _ rfl hk rfl rfl rfl fun a hk => ?_
                show wpList _ _ _ [] _ _
                refine wpList_nil ?_
                refine hK71 _ _ ?_
                refine wp_ret ?_
                obtain rfl := Option.some.inj H
                have ho49 := h56
                try dsimp only at ho49
                subst ho49
                have H := HL51
                try dsimp only at H
                obtain rfl := Option.some.inj H
                exact fin hk _ [(.bool false)] rfl ⟨rfl, trivial⟩ ⟨rfl, (hs.pick [] rfl).dnil⟩
              · have hk := hk.lit 58 c70 rfl
                refine cnd_false hk rfl rfl ?_
                refine wp_skip ?_
                refine hK60 _ _ ?_
                apply wp_region_lit
                refine sm _ rfl hk rfl rfl rfl fun a hk => ?_
                refine sv (.int .i64 (w64 (u48 + 1))) hk rfl rfl rfl fun a hk => ?_
                refine sa _ rfl hk rfl rfl rfl fun a hk => ?_
                show wpList _ _ _ [] _ _
                refine wpList_nil ?_
                obtain rfl := Option.some.inj H
                obtain ⟨m72, hmm72, h56⟩ := h56
                show ∃ n', n' < _ ∧ I53 n' _ _
                refine ⟨m72, hmm72, ?_⟩
                rw [hI53]
                exact ⟨(w64 (u48 + 1)), h56, (hk.c 2 rfl (hk.c 3 rfl (hk.c 6 rfl hk.k))), (hs.pick [(5, 5), (6, 6)] rfl)⟩
            · have hk := hk.lit 45 c59 rfl
              refine cnd_false hk rfl rfl ?_
              refine wp_exit ?_
              obtain rfl := Option.some.inj H
              show R52 _ _
              rw [hR52]
              exact ⟨h56.symm, hk.k, (hs.pick [] rfl)⟩
        · intro a w hR0
          rw [hR52] at hR0
          obtain ⟨rfl, hk, hs⟩ := hR0
          have H := HL51
          try dsimp only at H
          refine hK44 _ _ ?_
          apply wp_seq_k; intro K73 hK73
          apply wp_region_lit
          refine sa _ rfl hk rfl rfl rfl fun a hk => ?_
          show wpList _ _ _ [] _ _
          refine wpList_nil ?_
          refine hK73 _ _ ?_
          refine wp_ret ?_
          obtain rfl := Option.some.inj H
          exact fin hk _ [(.bool true)] rfl ⟨rfl, trivial⟩ ⟨rfl, (hs.pick [] rfl).dnil⟩

noncomputable def spec_SameStore.f (x0 : S_Store) (x1 : S_Store) : Option (Bool) :=
  (((bif (x0.Key.toList == x1.Key.toList) then (bif ((x0.Reg.Epoch == x1.Reg.Epoch) && ((x0.Reg.Side == x1.Reg.Side) && ((x0.Reg.Count == x1.Reg.Count) && ((x0.Reg.Boot == x1.Reg.Boot) && ((x0.Reg.Base.toList == x1.Reg.Base.toList) && ((x0.Reg.Tip.toList == x1.Reg.Tip.toList) && ((x0.Reg.Root.toList == x1.Reg.Root.toList) && true))))))) then (bif (x0.Up == x1.Up) then (bif (x0.Dead == x1.Dead) then ((spec_SameDevice.f x0.Device x1.Device).bind fun y15 => (some y15)) else (some false)) else (some false)) else (some false)) else (some false)) : Option (Bool)).bind fun u6 => (some u6))
set_option maxRecDepth 100000 in
set_option maxHeartbeats 0 in
theorem spec_SameStore_t (w0 : World) (x0 : S_Store) (A0_0 : Option Addr) (p0_0 : Nat) (k0_0 : Chunk) (v0_0 : View Lay.str A0_0 p0_0 x0.Device.Sure k0_0) (w0_0 : Has w0 k0_0) (A0_1 : Option Addr) (p0_1 : Nat) (k0_1 : Chunk) (v0_1 : View L_Io A0_1 p0_1 x0.Device.Unsure k0_1) (w0_1 : Has w0 k0_1) (x1 : S_Store) (A1_0 : Option Addr) (p1_0 : Nat) (k1_0 : Chunk) (v1_0 : View Lay.str A1_0 p1_0 x1.Device.Sure k1_0) (w1_0 : Has w0 k1_0) (A1_1 : Option Addr) (p1_1 : Nat) (k1_1 : Chunk) (v1_1 : View L_Io A1_1 p1_1 x1.Device.Unsure k1_1) (w1_1 : Has w0 k1_1) (r : Bool) (H : spec_SameStore.f x0 x1 = some r) :
    Calls Try.prog 12 #[.agg #[.string x0.Key, .int .i64 x0.Reg.Epoch, .int .i64 x0.Reg.Side, .int .i64 x0.Reg.Count, .int .i64 x0.Reg.Boot, .string x0.Reg.Base, .string x0.Reg.Tip, .string x0.Reg.Root, .slice A0_0 x0.Device.Sure.length p0_0, .slice A0_1 x0.Device.Unsure.length p0_1, .bool x0.Up, .bool x0.Dead], .agg #[.string x1.Key, .int .i64 x1.Reg.Epoch, .int .i64 x1.Reg.Side, .int .i64 x1.Reg.Count, .int .i64 x1.Reg.Boot, .string x1.Reg.Base, .string x1.Reg.Tip, .string x1.Reg.Root, .slice A1_0 x1.Device.Sure.length p1_0, .slice A1_1 x1.Device.Unsure.length p1_1, .bool x1.Up, .bool x1.Dead]] w0 (Ret (fun v w => v = .bool r ∧ Sat [] w0 w [] [])) := by
  have hs : Sat [] w0 w0 [(1, k0_0), (2, k0_1), (3, k1_0), (4, k1_1)] [] := Sat.init w0 [(1, k0_0), (2, k0_1), (3, k1_0), (4, k1_1)] [] (by simp only [List.mem_cons, List.not_mem_nil, or_false]; rintro x (rfl | rfl | rfl | rfl) <;> assumption) (by simp) List.nodup_nil (by simp [blks])
  unfold spec_SameStore.f at H
  refine enter Try.func12 rfl Try.ntmps12 rfl fun a hk => ?_
  apply wp_seq_k; intro K1 hK1
  apply wp_region_lit
  refine sbx 5 hs rfl hk rfl rfl rfl rfl fun b2 w a hk hs => ?_
  refine sbx 6 hs rfl hk rfl rfl rfl rfl fun b3 w a hk hs => ?_
  refine sa _ rfl hk rfl rfl rfl fun a hk => ?_
  show wpList _ _ _ [] _ _
  refine wpList_nil ?_
  refine hK1 _ _ ?_
  apply wp_seq_k; intro K4 hK4
  obtain ⟨o7, h8, HL9⟩ := bind_some H
  clear H
  obtain ⟨R10, hR10⟩ : ∃ R : Act → World → Prop, R = fun a w => ∃ (u6 : Bool), u6 = o7 ∧ Kn [(4, (.bool u6))] 38 a ∧ Sat [] w0 w [(1, k0_0), (2, k0_1), (3, k1_0), (4, k1_1)] [] := ⟨_, rfl⟩
  refine wp_cutq R10 ?_ ?_
  · have H := h8
    apply wp_region_lit
    refine sf ⟨b2, 0, none⟩ rfl hk rfl rfl rfl fd37_0 rfl fun a hk => ?_
    refine sl rfl hk rfl rfl rfl ag9 (box_cell hs (k := 5) rfl rfl) fun a hk => ?_
    refine sf ⟨b3, 0, none⟩ rfl hk rfl rfl rfl fd37_0 rfl fun a hk => ?_
    refine sl rfl hk rfl rfl rfl ag9 (box_cell hs (k := 6) rfl rfl) fun a hk => ?_
    refine sv (.bool (x0.Key.toList == x1.Key.toList)) hk rfl rfl rfl fun a hk => ?_
    refine sm _ rfl hk rfl rfl rfl fun a hk => ?_
    rcases cond_some H with ⟨c11, H⟩ | ⟨c11, H⟩
    · have hk := hk.lit 10 c11 rfl
      refine sf ⟨b2, 1, none⟩ rfl hk rfl rfl rfl fd37_1 rfl fun a hk => ?_
      refine sln [.int .i64 x0.Reg.Epoch, .int .i64 x0.Reg.Side, .int .i64 x0.Reg.Count, .int .i64 x0.Reg.Boot, .string x0.Reg.Base, .string x0.Reg.Tip, .string x0.Reg.Root] rfl hk rfl rfl rfl ag32 sz32 (box_part hs (k := 5) rfl rfl) fun a hk => ?_
      refine sf ⟨b3, 1, none⟩ rfl hk rfl rfl rfl fd37_1 rfl fun a hk => ?_
      refine sln [.int .i64 x1.Reg.Epoch, .int .i64 x1.Reg.Side, .int .i64 x1.Reg.Count, .int .i64 x1.Reg.Boot, .string x1.Reg.Base, .string x1.Reg.Tip, .string x1.Reg.Root] rfl hk rfl rfl rfl ag32 sz32 (box_part hs (k := 6) rfl rfl) fun a hk => ?_
      refine seqa (r := ((x0.Reg.Epoch == x1.Reg.Epoch) && ((x0.Reg.Side == x1.Reg.Side) && ((x0.Reg.Count == x1.Reg.Count) && ((x0.Reg.Boot == x1.Reg.Boot) && ((x0.Reg.Base.toList == x1.Reg.Base.toList) && ((x0.Reg.Tip.toList == x1.Reg.Tip.toList) && ((x0.Reg.Root.toList == x1.Reg.Root.toList) && true)))))))) rfl hk rfl rfl rfl rfl eg32 (eq_agg Try.underlying32 sh32 (eqf_cons rfl ag3 rfl rfl (run_equalIn_int _ _ _ _ _ _ _ un3) (eqf_cons rfl ag3 rfl rfl (run_equalIn_int _ _ _ _ _ _ _ un3) (eqf_cons rfl ag3 rfl rfl (run_equalIn_int _ _ _ _ _ _ _ un3) (eqf_cons rfl ag3 rfl rfl (run_equalIn_int _ _ _ _ _ _ _ un3) (eqf_cons rfl ag9 rfl rfl (run_equalIn_string _ _ _ _ _ un9) (eqf_cons rfl ag9 rfl rfl (run_equalIn_string _ _ _ _ _ un9) (eqf_cons rfl ag9 rfl rfl (run_equalIn_string _ _ _ _ _ un9) eqf_nil)))))))) fun a hk => ?_
      refine sv (.bool ((x0.Reg.Epoch == x1.Reg.Epoch) && ((x0.Reg.Side == x1.Reg.Side) && ((x0.Reg.Count == x1.Reg.Count) && ((x0.Reg.Boot == x1.Reg.Boot) && ((x0.Reg.Base.toList == x1.Reg.Base.toList) && ((x0.Reg.Tip.toList == x1.Reg.Tip.toList) && ((x0.Reg.Root.toList == x1.Reg.Root.toList) && true)))))))) hk rfl rfl rfl fun a hk => ?_
      refine sm _ rfl hk rfl rfl rfl fun a hk => ?_
      rcases cond_some H with ⟨c12, H⟩ | ⟨c12, H⟩
      · have hk := hk.lit 17 c12 rfl
        refine sf ⟨b2, 10, none⟩ rfl hk rfl rfl rfl fd37_3 rfl fun a hk => ?_
        refine sl rfl hk rfl rfl rfl ag4 (box_cell hs (k := 5) rfl rfl) fun a hk => ?_
        refine sf ⟨b3, 10, none⟩ rfl hk rfl rfl rfl fd37_3 rfl fun a hk => ?_
        refine sl rfl hk rfl rfl rfl ag4 (box_cell hs (k := 6) rfl rfl) fun a hk => ?_
        refine sbe rfl hk rfl rfl rfl rfl un4 fun a hk => ?_
        refine sv (.bool (x0.Up == x1.Up)) hk rfl rfl rfl fun a hk => ?_
        refine sm _ rfl hk rfl rfl rfl fun a hk => ?_
        rcases cond_some H with ⟨c13, H⟩ | ⟨c13, H⟩
        · have hk := hk.lit 24 c13 rfl
          refine sf ⟨b2, 11, none⟩ rfl hk rfl rfl rfl fd37_4 rfl fun a hk => ?_
          refine sl rfl hk rfl rfl rfl ag4 (box_cell hs (k := 5) rfl rfl) fun a hk => ?_
          refine sf ⟨b3, 11, none⟩ rfl hk rfl rfl rfl fd37_4 rfl fun a hk => ?_
          refine sl rfl hk rfl rfl rfl ag4 (box_cell hs (k := 6) rfl rfl) fun a hk => ?_
          refine sbe rfl hk rfl rfl rfl rfl un4 fun a hk => ?_
          refine sv (.bool (x0.Dead == x1.Dead)) hk rfl rfl rfl fun a hk => ?_
          refine sm _ rfl hk rfl rfl rfl fun a hk => ?_
          rcases cond_some H with ⟨c14, H⟩ | ⟨c14, H⟩
          · have hk := hk.lit 31 c14 rfl
            refine sf ⟨b2, 8, none⟩ rfl hk rfl rfl rfl fd37_2 rfl fun a hk => ?_
            refine sln [.slice A0_0 x0.Device.Sure.length p0_0, .slice A0_1 x0.Device.Unsure.length p0_1] rfl hk rfl rfl rfl ag35 sz35 (box_part hs (k := 5) rfl rfl) fun a hk => ?_
            refine sf ⟨b3, 8, none⟩ rfl hk rfl rfl rfl fd37_2 rfl fun a hk => ?_
            refine sln [.slice A1_0 x1.Device.Sure.length p1_0, .slice A1_1 x1.Device.Unsure.length p1_1] rfl hk rfl rfl rfl ag35 sz35 (box_part hs (k := 6) rfl rfl) fun a hk => ?_
            obtain ⟨y15, h16, H⟩ := bind_some H
            refine sc rfl en44 hk rfl rfl rfl (spec_SameDevice_t _ x0.Device A0_0 p0_0 _ v0_0 (hs.hasD (k := 1) rfl) A0_1 p0_1 _ v0_1 (hs.hasD (k := 2) rfl) x1.Device A1_0 p1_0 _ v1_0 (hs.hasD (k := 3) rfl) A1_1 p1_1 _ v1_1 (hs.hasD (k := 4) rfl) _ h16) ?_
            rintro _ w ⟨rfl, hG⟩ a hk
            have hs := hs.call0 hG
            refine sv (.bool y15) hk rfl rfl rfl fun a hk => ?_
            refine sa _ rfl hk rfl rfl rfl fun a hk => ?_
            show wpList _ _ _ [] _ _
            refine wpList_nil ?_
            obtain rfl := Option.some.inj H
            show R10 _ _
            rw [hR10]
            exact ⟨y15, rfl, (hk.c 4 rfl hk.k), (hs.pick [] rfl)⟩
          · have hk := hk.lit 31 c14 rfl
            refine sk hk rfl rfl rfl fun a hk => ?_
            refine sk hk rfl rfl rfl fun a hk => ?_
            refine sk hk rfl rfl rfl fun a hk => ?_
            refine sk hk rfl rfl rfl fun a hk => ?_
            refine sk hk rfl rfl rfl fun a hk => ?_
            refine sv (.bool false) hk rfl rfl rfl fun a hk => ?_
            refine sa _ rfl hk rfl rfl rfl fun a hk => ?_
            show wpList _ _ _ [] _ _
            refine wpList_nil ?_
            obtain rfl := Option.some.inj H
            show R10 _ _
            rw [hR10]
            exact ⟨false, rfl, (hk.c 4 rfl hk.k), (hs.pick [] rfl)⟩
        · have hk := hk.lit 24 c13 rfl
          refine sk hk rfl rfl rfl fun a hk => ?_
          refine sk hk rfl rfl rfl fun a hk => ?_
          refine sk hk rfl rfl rfl fun a hk => ?_
          refine sk hk rfl rfl rfl fun a hk => ?_
          refine sk hk rfl rfl rfl fun a hk => ?_
          refine sv (.bool false) hk rfl rfl rfl fun a hk => ?_
          refine sm _ rfl hk rfl rfl rfl fun a hk => ?_
          refine sk hk rfl rfl rfl fun a hk => ?_
          refine sk hk rfl rfl rfl fun a hk => ?_
          refine sk hk rfl rfl rfl fun a hk => ?_
          refine sk hk rfl rfl rfl fun a hk => ?_
          refine sk hk rfl rfl rfl fun a hk => ?_
          refine sv (.bool false) hk rfl rfl rfl fun a hk => ?_
          refine sa _ rfl hk rfl rfl rfl fun a hk => ?_
          show wpList _ _ _ [] _ _
          refine wpList_nil ?_
          obtain rfl := Option.some.inj H
          show R10 _ _
          rw [hR10]
          exact ⟨false, rfl, (hk.c 4 rfl hk.k), (hs.pick [] rfl)⟩
      · have hk := hk.lit 17 c12 rfl
        refine sk hk rfl rfl rfl fun a hk => ?_
        refine sk hk rfl rfl rfl fun a hk => ?_
        refine sk hk rfl rfl rfl fun a hk => ?_
        refine sk hk rfl rfl rfl fun a hk => ?_
        refine sk hk rfl rfl rfl fun a hk => ?_
        refine sv (.bool false) hk rfl rfl rfl fun a hk => ?_
        refine sm _ rfl hk rfl rfl rfl fun a hk => ?_
        refine sk hk rfl rfl rfl fun a hk => ?_
        refine sk hk rfl rfl rfl fun a hk => ?_
        refine sk hk rfl rfl rfl fun a hk => ?_
        refine sk hk rfl rfl rfl fun a hk => ?_
        refine sk hk rfl rfl rfl fun a hk => ?_
        refine sv (.bool false) hk rfl rfl rfl fun a hk => ?_
        refine sm _ rfl hk rfl rfl rfl fun a hk => ?_
        refine sk hk rfl rfl rfl fun a hk => ?_
        refine sk hk rfl rfl rfl fun a hk => ?_
        refine sk hk rfl rfl rfl fun a hk => ?_
        refine sk hk rfl rfl rfl fun a hk => ?_
        refine sk hk rfl rfl rfl fun a hk => ?_
        refine sv (.bool false) hk rfl rfl rfl fun a hk => ?_
        refine sa _ rfl hk rfl rfl rfl fun a hk => ?_
        show wpList _ _ _ [] _ _
        refine wpList_nil ?_
        obtain rfl := Option.some.inj H
        show R10 _ _
        rw [hR10]
        exact ⟨false, rfl, (hk.c 4 rfl hk.k), (hs.pick [] rfl)⟩
    · have hk := hk.lit 10 c11 rfl
      refine sk hk rfl rfl rfl fun a hk => ?_
      refine sk hk rfl rfl rfl fun a hk => ?_
      refine sk hk rfl rfl rfl fun a hk => ?_
      refine sk hk rfl rfl rfl fun a hk => ?_
      refine sk hk rfl rfl rfl fun a hk => ?_
      refine sv (.bool false) hk rfl rfl rfl fun a hk => ?_
      refine sm _ rfl hk rfl rfl rfl fun a hk => ?_
      refine sk hk rfl rfl rfl fun a hk => ?_
      refine sk hk rfl rfl rfl fun a hk => ?_
      refine sk hk rfl rfl rfl fun a hk => ?_
      refine sk hk rfl rfl rfl fun a hk => ?_
      refine sk hk rfl rfl rfl fun a hk => ?_
      refine sv (.bool false) hk rfl rfl rfl fun a hk => ?_
      refine sm _ rfl hk rfl rfl rfl fun a hk => ?_
      refine sk hk rfl rfl rfl fun a hk => ?_
      refine sk hk rfl rfl rfl fun a hk => ?_
      refine sk hk rfl rfl rfl fun a hk => ?_
      refine sk hk rfl rfl rfl fun a hk => ?_
      refine sk hk rfl rfl rfl fun a hk => ?_
      refine sv (.bool false) hk rfl rfl rfl fun a hk => ?_
      refine sm _ rfl hk rfl rfl rfl fun a hk => ?_
      refine sk hk rfl rfl rfl fun a hk => ?_
      refine sk hk rfl rfl rfl fun a hk => ?_
      refine sk hk rfl rfl rfl fun a hk => ?_
      refine sk hk rfl rfl rfl fun a hk => ?_
      refine sk hk rfl rfl rfl fun a hk => ?_
      refine sv (.bool false) hk rfl rfl rfl fun a hk => ?_
      refine sa _ rfl hk rfl rfl rfl fun a hk => ?_
      show wpList _ _ _ [] _ _
      refine wpList_nil ?_
      obtain rfl := Option.some.inj H
      show R10 _ _
      rw [hR10]
      exact ⟨false, rfl, (hk.c 4 rfl hk.k), (hs.pick [] rfl)⟩
  · intro a w hR0
    rw [hR10] at hR0
    obtain ⟨u6, rfl, hk, hs⟩ := hR0
    have H := HL9
    try dsimp only at H
    refine hK4 _ _ ?_
    refine wp_ret ?_
    obtain rfl := Option.some.inj H
    exact fin hk _ [(.bool u6)] rfl ⟨rfl, trivial⟩ ⟨rfl, (hs.pick [] rfl).dnil⟩

noncomputable def laws_toStringS.s0 (l0 : List ByteArray) (u12 : List ByteArray) (u16 : Int) : Option (((List ByteArray) × Int) ⊕ Ex ((List ByteArray)) ((List ByteArray))) :=
  (bif (decide (u16 < (l0.length : Int))) then (if 0 ≤ u16 ∧ u16 < (l0.length : Int) then (if 0 ≤ u16 ∧ u16 < ((((l0.length : Int)).toNat) : Int) then (some (.inl ((u12.set u16.toNat (l0.getD u16.toNat ByteArray.empty)), (w64 (u16 + 1))))) else none) else none) else (some (.inr (.out u12))))
noncomputable def laws_toStringS.f (l0 : List ByteArray) : Option ((List ByteArray)) :=
  (if 0 ≤ (l0.length : Int) ∧ (l0.length : Int) ≤ 1073741824 then ((loopO (fun s => laws_toStringS.s0 l0 s.1 s.2) ((List.replicate ((l0.length : Int)).toNat ByteArray.empty), 0)).bind fun o => match o with | .out u17 => (some u17) | .ret r => (some r)) else none)
set_option maxRecDepth 100000 in
set_option maxHeartbeats 0 in
theorem laws_toStringS_t (w0 : World) (A0_ : Option Addr) (p0_ : Nat) (l0 : List ByteArray) (k0_ : Chunk) (v0_ : View Lay.str A0_ p0_ l0 k0_) (w0_ : Has w0 k0_) (r : (List ByteArray)) (H : laws_toStringS.f l0 = some r) :
    Calls Try.prog 77 #[.slice A0_ l0.length p0_] w0 (Ret (fun v w => ∃ (A0 : Option Addr) (p0 : Nat) (k0 : Chunk), v = .slice A0 r.length p0 ∧ Own Lay.str 9 A0 p0 r k0 ∧ Sat [] w0 w [] [(0, k0)])) := by
  have hs : Sat [] w0 w0 [(1, k0_)] [] := Sat.init w0 [(1, k0_)] [] (by simp only [List.mem_cons, List.not_mem_nil, or_false]; rintro x (rfl) <;> assumption) (by simp) List.nodup_nil (by simp [blks])
  unfold laws_toStringS.f at H
  refine enter Try.func77 rfl Try.ntmps77 rfl fun a hk => ?_
  apply wp_seq_k; intro K1 hK1
  apply wp_region_lit
  refine sa _ rfl hk rfl rfl rfl fun a hk => ?_
  show wpList _ _ _ [] _ _
  refine wpList_nil ?_
  refine hK1 _ _ ?_
  apply wp_seq_k; intro K2 hK2
  apply wp_region_lit
  refine sm _ rfl hk rfl rfl rfl fun a hk => ?_
  refine sle rfl hk rfl rfl rfl un24 fun a hk => ?_
  rcases ite_some H with ⟨c3, H⟩ | ⟨_, H⟩
  rotate_left
  · cases H
  refine smk 2 Lay.str hs rfl hk rfl rfl rfl rfl un24 mk9 lz9 rfl rfl c3.1 c3.2 fun b4 k5 w a hk o6 hs => ?_
  have lh7 : (List.replicate ((l0.length : Int)).toNat ByteArray.empty).length = ((l0.length : Int)).toNat := List.length_replicate
  refine sa _ rfl hk rfl rfl rfl fun a hk => ?_
  show wpList _ _ _ [] _ _
  refine wpList_nil ?_
  refine hK2 _ _ ?_
  apply wp_seq_k; intro K8 hK8
  apply wp_seq_k; intro K9 hK9
  apply wp_region_lit
  refine sa _ rfl hk rfl rfl rfl fun a hk => ?_
  show wpList _ _ _ [] _ _
  refine wpList_nil ?_
  refine hK9 _ _ ?_
  obtain ⟨o21, h22, HL23⟩ := bind_some H
  clear H
  obtain ⟨R24, hR24⟩ : ∃ R : Act → World → Prop, R = fun a w => ∃ (u17 : List ByteArray) (k18 : Chunk), o21 = .out u17 ∧ Kn [(3, (.slice (some ⟨b4, 0, none⟩) (((l0.length : Int)).toNat) (((l0.length : Int)).toNat)))] 22 a ∧ Sat [] w0 w [(1, k0_)] [(2, k18)] ∧ Own Lay.str 9 (some ⟨b4, 0, none⟩) (((l0.length : Int)).toNat) u17 k18 ∧ u17.length = (((l0.length : Int)).toNat) := ⟨_, rfl⟩
  refine wp_cutq R24 ?_ ?_
  · refine wp_block ?_
    obtain ⟨fu26, h22⟩ := loopO_some h22
    obtain ⟨I25, hI25⟩ : ∃ I : Nat → Act → World → Prop, I = fun fu a w => ∃ (u12 : List ByteArray) (u16 : Int) (k13 : Chunk), loopN (fun s => laws_toStringS.s0 l0 s.1 s.2) fu (u12, u16) = some o21 ∧ Kn [(0, (.slice A0_ l0.length p0_)), (3, (.slice (some ⟨b4, 0, none⟩) (((l0.length : Int)).toNat) (((l0.length : Int)).toNat))), (4, (.int .i64 u16))] 22 a ∧ Sat [] w0 w [(1, k0_)] [(2, k13)] ∧ Own Lay.str 9 (some ⟨b4, 0, none⟩) (((l0.length : Int)).toNat) u12 k13 ∧ u12.length = (((l0.length : Int)).toNat) := ⟨_, rfl⟩
    refine wp_loop_ghost I25 fu26 ?_ ?_
    · rw [hI25]
      exact ⟨(List.replicate ((l0.length : Int)).toNat ByteArray.empty), 0, _, h22, (hk.c 0 rfl (hk.c 3 rfl (hk.c 4 rfl hk.k))), (hs.pick [(2, 2)] rfl), o6, lh7⟩
    · clear h22 hk hs
      intro fu26 a w hI0
      rw [hI25] at hI0
      obtain ⟨u12, u16, k13, hi, hk, hs, o14, lh15⟩ := hI0
      obtain ⟨x27, H, h28⟩ := loop_round hi
      try dsimp only at H
      unfold laws_toStringS.s0 at H
      apply wp_seq_k; intro K29 hK29
      apply wp_seq_k; intro K30 hK30
      apply wp_region_lit
      refine sm _ rfl hk rfl rfl rfl fun a hk => ?_
      refine sm _ rfl hk rfl rfl rfl fun a hk => ?_
      refine sle rfl hk rfl rfl rfl un24 fun a hk => ?_
      refine sv (.bool (decide (u16 < (l0.length : Int)))) hk rfl rfl rfl fun a hk => ?_
      show wpList _ _ _ [] _ _
      refine wpList_nil ?_
      refine hK30 _ _ ?_
      rcases cond_some H with ⟨c31, H⟩ | ⟨c31, H⟩
      · have hk := hk.lit 11 c31 rfl
        refine cnd_true hk rfl rfl ?_
        refine wp_skip ?_
        refine hK29 _ _ ?_
        apply wp_seq_k; intro K32 hK32
        refine wp_block ?_
        apply wp_region_lit
        refine sm _ rfl hk rfl rfl rfl fun a hk => ?_
        refine sm _ rfl hk rfl rfl rfl fun a hk => ?_
        refine sm _ rfl hk rfl rfl rfl fun a hk => ?_
        refine sm _ rfl hk rfl rfl rfl fun a hk => ?_
        rcases ite_some H with ⟨c33, H⟩ | ⟨_, H⟩
        rotate_left
        · cases H
        obtain ⟨b34, q35, hAc33⟩ := (v0_).some_ u16 c33.1 c33.2
        refine si rfl hk rfl rfl rfl rfl un24 sz9 c33.1 c33.2 hAc33 fun a hk => ?_
        obtain ⟨_, rfl, e36⟩ := (v0_).at_ ByteArray.empty u16 c33.1 c33.2
        refine sl (v := (.string (l0.getD u16.toNat ByteArray.empty))) rfl hk rfl rfl rfl ag9 ((e36 0 _ rfl).cell (hs.hasD (k := 1) rfl)) fun a hk => ?_
        rcases ite_some H with ⟨c37, H⟩ | ⟨_, H⟩
        rotate_left
        · cases H
        obtain ⟨b38, q39, hAc37⟩ := (o14.view).some_ u16 c37.1 (by rw [lh15]; exact c37.2)
        refine si rfl hk rfl rfl rfl rfl un24 sz9 c37.1 c37.2 hAc37 fun a hk => ?_
        refine so (j := 0) 2 ByteArray.empty (l0.getD u16.toNat ByteArray.empty) hs rfl o14 c37.1 (by rw [lh15]; exact c37.2) rfl hk rfl rfl rfl rfl rfl sz9 (by simp [Value.cells, Value.oneCell']) (Nat.le_of_ble_eq_true rfl) (fun _ _ h => ⟨by rw [h.1]; rfl, h.2⟩) fun k40 w a hk o41 hs => ?_
        have lh42 : (u12.set u16.toNat (l0.getD u16.toNat ByteArray.empty)).length = (((l0.length : Int)).toNat) := by rw [List.length_set]; exact lh15
        show wpList _ _ _ [] _ _
        refine wpList_nil ?_
        refine hK32 _ _ ?_
        apply wp_region_lit
        refine sm _ rfl hk rfl rfl rfl fun a hk => ?_
        refine sv (.int .i64 (w64 (u16 + 1))) hk rfl rfl rfl fun a hk => ?_
        refine sa _ rfl hk rfl rfl rfl fun a hk => ?_
        show wpList _ _ _ [] _ _
        refine wpList_nil ?_
        obtain rfl := Option.some.inj H
        obtain ⟨m43, hmm43, h28⟩ := h28
        show ∃ n', n' < _ ∧ I25 n' _ _
        refine ⟨m43, hmm43, ?_⟩
        rw [hI25]
        exact ⟨(u12.set u16.toNat (l0.getD u16.toNat ByteArray.empty)), (w64 (u16 + 1)), _, h28, (hk.c 0 rfl (hk.c 3 rfl (hk.c 4 rfl hk.k))), (hs.pick [(2, 2)] rfl), o41, lh42⟩
      · have hk := hk.lit 11 c31 rfl
        refine cnd_false hk rfl rfl ?_
        refine wp_exit ?_
        obtain rfl := Option.some.inj H
        show R24 _ _
        rw [hR24]
        exact ⟨u12, _, h28.symm, (hk.c 3 rfl hk.k), (hs.pick [(2, 2)] rfl), o14, lh15⟩
  · intro a w hR0
    rw [hR24] at hR0
    obtain ⟨u17, k18, rfl, hk, hs, o19, lh20⟩ := hR0
    have H := HL23
    try dsimp only at H
    refine hK8 _ _ ?_
    apply wp_seq_k; intro K44 hK44
    apply wp_region_lit
    refine sm _ rfl hk rfl rfl rfl fun a hk => ?_
    refine sa _ rfl hk rfl rfl rfl fun a hk => ?_
    show wpList _ _ _ [] _ _
    refine wpList_nil ?_
    refine hK44 _ _ ?_
    refine wp_ret ?_
    obtain rfl := Option.some.inj H
    exact fin hk _ [(.slice (some ⟨b4, 0, none⟩) (((l0.length : Int)).toNat) (((l0.length : Int)).toNat))] rfl ⟨rfl, trivial⟩ ⟨(some ⟨b4, 0, none⟩), (((l0.length : Int)).toNat), _, (by first | (rw [lh20]; done) | (rw [lh20]; rfl)), o19, (hs.pick [(0, 2)] rfl).dnil⟩

noncomputable def laws_toIo.f (x0 : S_Io) : Option (S_Io) :=
  (some (⟨x0.At, x0.Data⟩ : S_Io))
set_option maxRecDepth 100000 in
set_option maxHeartbeats 0 in
theorem laws_toIo_t (w0 : World) (x0 : S_Io) (r : S_Io) (H : laws_toIo.f x0 = some r) :
    Calls Try.prog 114 #[.agg #[.int .i64 x0.At, .string x0.Data]] w0 (Ret (fun v w => v = .agg #[.int .i64 r.At, .string r.Data] ∧ Sat [] w0 w [] [])) := by
  have hs : Sat [] w0 w0 [] [] := Sat.init w0 [] [] (by simp) (by simp) List.nodup_nil (by simp [blks])
  unfold laws_toIo.f at H
  refine enter Try.func114 rfl Try.ntmps114 rfl fun a hk => ?_
  apply wp_seq_k; intro K1 hK1
  apply wp_region_lit
  refine sbx 1 hs rfl hk rfl rfl rfl rfl fun b2 w a hk hs => ?_
  refine salx 2 hs rfl hk rfl rfl ze114 rfl fun b3 w a hk hs => ?_
  show wpList _ _ _ [] _ _
  refine wpList_nil ?_
  refine hK1 _ _ ?_
  apply wp_seq_k; intro K4 hK4
  apply wp_region_lit
  refine salx 3 hs rfl hk rfl rfl ze114 rfl fun b5 w a hk hs => ?_
  show wpList _ _ _ [] _ _
  refine wpList_nil ?_
  refine hK4 _ _ ?_
  apply wp_seq_k; intro K6 hK6
  apply wp_region_lit
  refine sf ⟨b2, 0, none⟩ rfl hk rfl rfl rfl fd127_0 rfl fun a hk => ?_
  refine sl rfl hk rfl rfl rfl ag3 (box_cell hs (k := 1) rfl rfl) fun a hk => ?_
  refine sf ⟨b5, 0, none⟩ rfl hk rfl rfl rfl fd114_0 rfl fun a hk => ?_
  refine ssx (cs' := #[.int .i64 x0.At, .string ByteArray.empty]) 3 hs rfl rfl hk rfl rfl rfl rfl sz3 rfl rfl rfl rfl fun w a hk hs => ?_
  show wpList _ _ _ [] _ _
  refine wpList_nil ?_
  refine hK6 _ _ ?_
  apply wp_seq_k; intro K7 hK7
  apply wp_region_lit
  refine sf ⟨b2, 1, none⟩ rfl hk rfl rfl rfl fd127_1 rfl fun a hk => ?_
  refine sl rfl hk rfl rfl rfl ag9 (box_cell hs (k := 1) rfl rfl) fun a hk => ?_
  refine sf ⟨b5, 1, none⟩ rfl hk rfl rfl rfl fd114_1 rfl fun a hk => ?_
  refine ssx (cs' := #[.int .i64 x0.At, .string x0.Data]) 3 hs rfl rfl hk rfl rfl rfl rfl sz9 rfl rfl rfl rfl fun w a hk hs => ?_
  show wpList _ _ _ [] _ _
  refine wpList_nil ?_
  refine hK7 _ _ ?_
  apply wp_seq_k; intro K8 hK8
  apply wp_region_lit
  refine sln [.int .i64 x0.At, .string x0.Data] rfl hk rfl rfl rfl ag114 sz114 (box_cells hs (k := 3) rfl) fun a hk => ?_
  refine ssw 2 hs rfl rfl hk rfl rfl rfl rfl sz114 (by simp [Value.oneCell']) rfl fun w a hk hs => ?_
  show wpList _ _ _ [] _ _
  refine wpList_nil ?_
  refine hK8 _ _ ?_
  refine wp_ret ?_
  obtain rfl := Option.some.inj H
  exact fin hk _ [(.agg #[.int .i64 x0.At, .string x0.Data])] rfl ⟨⟨_, rfl, run_loadN ag114 sz114 (box_cells hs (k := 2) rfl)⟩, trivial⟩ ⟨rfl, (hs.pick [] rfl).dnil⟩

noncomputable def laws_toIoS.s0 (l0 : List S_Io) (u12 : List S_Io) (u16 : Int) : Option (((List S_Io) × Int) ⊕ Ex ((List S_Io)) ((List S_Io))) :=
  (bif (decide (u16 < (l0.length : Int))) then (if 0 ≤ u16 ∧ u16 < (l0.length : Int) then ((laws_toIo.f (l0.getD u16.toNat z_Io)).bind fun y37 => (if 0 ≤ u16 ∧ u16 < ((((l0.length : Int)).toNat) : Int) then (some (.inl ((u12.set u16.toNat y37), (w64 (u16 + 1))))) else none)) else none) else (some (.inr (.out u12))))
noncomputable def laws_toIoS.f (l0 : List S_Io) : Option ((List S_Io)) :=
  (if 0 ≤ (l0.length : Int) ∧ (l0.length : Int) ≤ 1073741824 then ((loopO (fun s => laws_toIoS.s0 l0 s.1 s.2) ((List.replicate ((l0.length : Int)).toNat z_Io), 0)).bind fun o => match o with | .out u17 => (some u17) | .ret r => (some r)) else none)
set_option maxRecDepth 100000 in
set_option maxHeartbeats 0 in
theorem laws_toIoS_t (w0 : World) (A0_ : Option Addr) (p0_ : Nat) (l0 : List S_Io) (k0_ : Chunk) (v0_ : View L_Io A0_ p0_ l0 k0_) (w0_ : Has w0 k0_) (r : (List S_Io)) (H : laws_toIoS.f l0 = some r) :
    Calls Try.prog 78 #[.slice A0_ l0.length p0_] w0 (Ret (fun v w => ∃ (A0 : Option Addr) (p0 : Nat) (k0 : Chunk), v = .slice A0 r.length p0 ∧ Own L_Io 114 A0 p0 r k0 ∧ Sat [] w0 w [] [(0, k0)])) := by
  have hs : Sat [] w0 w0 [(1, k0_)] [] := Sat.init w0 [(1, k0_)] [] (by simp only [List.mem_cons, List.not_mem_nil, or_false]; rintro x (rfl) <;> assumption) (by simp) List.nodup_nil (by simp [blks])
  unfold laws_toIoS.f at H
  refine enter Try.func78 rfl Try.ntmps78 rfl fun a hk => ?_
  apply wp_seq_k; intro K1 hK1
  apply wp_region_lit
  refine sa _ rfl hk rfl rfl rfl fun a hk => ?_
  show wpList _ _ _ [] _ _
  refine wpList_nil ?_
  refine hK1 _ _ ?_
  apply wp_seq_k; intro K2 hK2
  apply wp_region_lit
  refine sm _ rfl hk rfl rfl rfl fun a hk => ?_
  refine sle rfl hk rfl rfl rfl un25 fun a hk => ?_
  rcases ite_some H with ⟨c3, H⟩ | ⟨_, H⟩
  rotate_left
  · cases H
  refine smk 2 L_Io hs rfl hk rfl rfl rfl rfl un33 mk114 lz114 rfl rfl c3.1 c3.2 fun b4 k5 w a hk o6 hs => ?_
  have lh7 : (List.replicate ((l0.length : Int)).toNat z_Io).length = ((l0.length : Int)).toNat := List.length_replicate
  refine sa _ rfl hk rfl rfl rfl fun a hk => ?_
  show wpList _ _ _ [] _ _
  refine wpList_nil ?_
  refine hK2 _ _ ?_
  apply wp_seq_k; intro K8 hK8
  apply wp_seq_k; intro K9 hK9
  apply wp_region_lit
  refine sa _ rfl hk rfl rfl rfl fun a hk => ?_
  show wpList _ _ _ [] _ _
  refine wpList_nil ?_
  refine hK9 _ _ ?_
  obtain ⟨o21, h22, HL23⟩ := bind_some H
  clear H
  obtain ⟨R24, hR24⟩ : ∃ R : Act → World → Prop, R = fun a w => ∃ (u17 : List S_Io) (k18 : Chunk), o21 = .out u17 ∧ Kn [(3, (.slice (some ⟨b4, 0, none⟩) (((l0.length : Int)).toNat) (((l0.length : Int)).toNat)))] 23 a ∧ Sat [] w0 w [(1, k0_)] [(2, k18)] ∧ Own L_Io 114 (some ⟨b4, 0, none⟩) (((l0.length : Int)).toNat) u17 k18 ∧ u17.length = (((l0.length : Int)).toNat) := ⟨_, rfl⟩
  refine wp_cutq R24 ?_ ?_
  · refine wp_block ?_
    obtain ⟨fu26, h22⟩ := loopO_some h22
    obtain ⟨I25, hI25⟩ : ∃ I : Nat → Act → World → Prop, I = fun fu a w => ∃ (u12 : List S_Io) (u16 : Int) (k13 : Chunk), loopN (fun s => laws_toIoS.s0 l0 s.1 s.2) fu (u12, u16) = some o21 ∧ Kn [(0, (.slice A0_ l0.length p0_)), (3, (.slice (some ⟨b4, 0, none⟩) (((l0.length : Int)).toNat) (((l0.length : Int)).toNat))), (4, (.int .i64 u16))] 23 a ∧ Sat [] w0 w [(1, k0_)] [(2, k13)] ∧ Own L_Io 114 (some ⟨b4, 0, none⟩) (((l0.length : Int)).toNat) u12 k13 ∧ u12.length = (((l0.length : Int)).toNat) := ⟨_, rfl⟩
    refine wp_loop_ghost I25 fu26 ?_ ?_
    · rw [hI25]
      exact ⟨(List.replicate ((l0.length : Int)).toNat z_Io), 0, _, h22, (hk.c 0 rfl (hk.c 3 rfl (hk.c 4 rfl hk.k))), (hs.pick [(2, 2)] rfl), o6, lh7⟩
    · clear h22 hk hs
      intro fu26 a w hI0
      rw [hI25] at hI0
      obtain ⟨u12, u16, k13, hi, hk, hs, o14, lh15⟩ := hI0
      obtain ⟨x27, H, h28⟩ := loop_round hi
      try dsimp only at H
      unfold laws_toIoS.s0 at H
      apply wp_seq_k; intro K29 hK29
      apply wp_seq_k; intro K30 hK30
      apply wp_region_lit
      refine sm _ rfl hk rfl rfl rfl fun a hk => ?_
      refine sm _ rfl hk rfl rfl rfl fun a hk => ?_
      refine sle rfl hk rfl rfl rfl un25 fun a hk => ?_
      refine sv (.bool (decide (u16 < (l0.length : Int)))) hk rfl rfl rfl fun a hk => ?_
      show wpList _ _ _ [] _ _
      refine wpList_nil ?_
      refine hK30 _ _ ?_
      rcases cond_some H with ⟨c31, H⟩ | ⟨c31, H⟩
      · have hk := hk.lit 11 c31 rfl
        refine cnd_true hk rfl rfl ?_
        refine wp_skip ?_
        refine hK29 _ _ ?_
        apply wp_seq_k; intro K32 hK32
        refine wp_block ?_
        apply wp_region_lit
        refine sm _ rfl hk rfl rfl rfl fun a hk => ?_
        refine sm _ rfl hk rfl rfl rfl fun a hk => ?_
        refine sm _ rfl hk rfl rfl rfl fun a hk => ?_
        refine sm _ rfl hk rfl rfl rfl fun a hk => ?_
        rcases ite_some H with ⟨c33, H⟩ | ⟨_, H⟩
        rotate_left
        · cases H
        obtain ⟨b34, q35, hAc33⟩ := (v0_).some_ u16 c33.1 c33.2
        refine si rfl hk rfl rfl rfl rfl un25 sz127 c33.1 c33.2 hAc33 fun a hk => ?_
        obtain ⟨_, rfl, e36⟩ := (v0_).at_ z_Io u16 c33.1 c33.2
        refine sln [.int .i64 ((l0.getD u16.toNat z_Io).At), .string ((l0.getD u16.toNat z_Io).Data)] rfl hk rfl rfl rfl ag127 sz127 (cells_at e36 (hs.hasD (k := 1) rfl)) fun a hk => ?_
        obtain ⟨y37, h38, H⟩ := bind_some H
        refine sc rfl en114 hk rfl rfl rfl (laws_toIo_t _ (l0.getD u16.toNat z_Io) _ h38) ?_
        rintro _ w ⟨rfl, hG⟩ a hk
        have hs := hs.call0 hG
        rcases ite_some H with ⟨c39, H⟩ | ⟨_, H⟩
        rotate_left
        · cases H
        obtain ⟨b40, q41, hAc39⟩ := (o14.view).some_ u16 c39.1 (by rw [lh15]; exact c39.2)
        refine si rfl hk rfl rfl rfl rfl un33 sz114 c39.1 c39.2 hAc39 fun a hk => ?_
        refine so (j := 0) 2 z_Io y37 hs rfl o14 c39.1 (by rw [lh15]; exact c39.2) rfl hk rfl rfl rfl rfl rfl sz114 (by simp [Value.cells, Value.oneCell']) (Nat.le_of_ble_eq_true rfl) (fun _ _ h => ⟨by rw [h.1]; rfl, h.2⟩) fun k42 w a hk o43 hs => ?_
        have lh44 : (u12.set u16.toNat y37).length = (((l0.length : Int)).toNat) := by rw [List.length_set]; exact lh15
        show wpList _ _ _ [] _ _
        refine wpList_nil ?_
        refine hK32 _ _ ?_
        apply wp_region_lit
        refine sm _ rfl hk rfl rfl rfl fun a hk => ?_
        refine sv (.int .i64 (w64 (u16 + 1))) hk rfl rfl rfl fun a hk => ?_
        refine sa _ rfl hk rfl rfl rfl fun a hk => ?_
        show wpList _ _ _ [] _ _
        refine wpList_nil ?_
        obtain rfl := Option.some.inj H
        obtain ⟨m45, hmm45, h28⟩ := h28
        show ∃ n', n' < _ ∧ I25 n' _ _
        refine ⟨m45, hmm45, ?_⟩
        rw [hI25]
        exact ⟨(u12.set u16.toNat y37), (w64 (u16 + 1)), _, h28, (hk.c 0 rfl (hk.c 3 rfl (hk.c 4 rfl hk.k))), (hs.pick [(2, 2)] rfl), o43, lh44⟩
      · have hk := hk.lit 11 c31 rfl
        refine cnd_false hk rfl rfl ?_
        refine wp_exit ?_
        obtain rfl := Option.some.inj H
        show R24 _ _
        rw [hR24]
        exact ⟨u12, _, h28.symm, (hk.c 3 rfl hk.k), (hs.pick [(2, 2)] rfl), o14, lh15⟩
  · intro a w hR0
    rw [hR24] at hR0
    obtain ⟨u17, k18, rfl, hk, hs, o19, lh20⟩ := hR0
    have H := HL23
    try dsimp only at H
    refine hK8 _ _ ?_
    apply wp_seq_k; intro K46 hK46
    apply wp_region_lit
    refine sm _ rfl hk rfl rfl rfl fun a hk => ?_
    refine sa _ rfl hk rfl rfl rfl fun a hk => ?_
    show wpList _ _ _ [] _ _
    refine wpList_nil ?_
    refine hK46 _ _ ?_
    refine wp_ret ?_
    obtain rfl := Option.some.inj H
    exact fin hk _ [(.slice (some ⟨b4, 0, none⟩) (((l0.length : Int)).toNat) (((l0.length : Int)).toNat))] rfl ⟨rfl, trivial⟩ ⟨(some ⟨b4, 0, none⟩), (((l0.length : Int)).toNat), _, (by first | (rw [lh20]; done) | (rw [lh20]; rfl)), o19, (hs.pick [(0, 2)] rfl).dnil⟩

noncomputable def laws_toDevice.f (x0 : S_Device) : Option (S_Device) :=
  ((laws_toStringS.f x0.Sure).bind fun y7 => ((laws_toIoS.f x0.Unsure).bind fun y14 => (some (⟨y7, y14⟩ : S_Device))))
set_option maxRecDepth 100000 in
set_option maxHeartbeats 0 in
theorem laws_toDevice_t (w0 : World) (x0 : S_Device) (A0_0 : Option Addr) (p0_0 : Nat) (k0_0 : Chunk) (v0_0 : View Lay.str A0_0 p0_0 x0.Sure k0_0) (w0_0 : Has w0 k0_0) (A0_1 : Option Addr) (p0_1 : Nat) (k0_1 : Chunk) (v0_1 : View L_Io A0_1 p0_1 x0.Unsure k0_1) (w0_1 : Has w0 k0_1) (r : S_Device) (H : laws_toDevice.f x0 = some r) :
    Calls Try.prog 30 #[.agg #[.slice A0_0 x0.Sure.length p0_0, .slice A0_1 x0.Unsure.length p0_1]] w0 (Ret (fun v w => ∃ (A0 : Option Addr) (p0 : Nat) (k0 : Chunk), ∃ (A1 : Option Addr) (p1 : Nat) (k1 : Chunk), v = .agg #[.slice A0 r.Sure.length p0, .slice A1 r.Unsure.length p1] ∧ Own Lay.str 9 A0 p0 r.Sure k0 ∧ Own L_Io 114 A1 p1 r.Unsure k1 ∧ Sat [] w0 w [] [(0, k0), (1, k1)])) := by
  have hs : Sat [] w0 w0 [(1, k0_0), (2, k0_1)] [] := Sat.init w0 [(1, k0_0), (2, k0_1)] [] (by simp only [List.mem_cons, List.not_mem_nil, or_false]; rintro x (rfl | rfl) <;> assumption) (by simp) List.nodup_nil (by simp [blks])
  unfold laws_toDevice.f at H
  refine enter Try.func30 rfl Try.ntmps30 rfl fun a hk => ?_
  apply wp_seq_k; intro K1 hK1
  apply wp_region_lit
  refine sbx 3 hs rfl hk rfl rfl rfl rfl fun b2 w a hk hs => ?_
  refine salx 4 hs rfl hk rfl rfl ze35 rfl fun b3 w a hk hs => ?_
  show wpList _ _ _ [] _ _
  refine wpList_nil ?_
  refine hK1 _ _ ?_
  apply wp_seq_k; intro K4 hK4
  apply wp_region_lit
  refine salx 5 hs rfl hk rfl rfl ze35 rfl fun b5 w a hk hs => ?_
  show wpList _ _ _ [] _ _
  refine wpList_nil ?_
  refine hK4 _ _ ?_
  apply wp_seq_k; intro K6 hK6
  apply wp_region_lit
  refine sf ⟨b2, 0, none⟩ rfl hk rfl rfl rfl fd27_0 rfl fun a hk => ?_
  refine sl rfl hk rfl rfl rfl ag24 (box_cell hs (k := 3) rfl rfl) fun a hk => ?_
  obtain ⟨y7, h8, H⟩ := bind_some H
  refine sc rfl en77 hk rfl rfl rfl (laws_toStringS_t _ A0_0 p0_0 x0.Sure _ v0_0 (hs.hasD (k := 1) rfl) _ h8) ?_
  rintro _ w ⟨A9, p10, k11, rfl, o12, hG⟩ a hk
  have hs := hs.call0k hG [6] rfl
  refine sf ⟨b5, 0, none⟩ rfl hk rfl rfl rfl fd35_0 rfl fun a hk => ?_
  refine ssx (cs' := #[.slice A9 y7.length p10, .slice none 0 0]) 5 hs rfl rfl hk rfl rfl rfl rfl sz24 rfl rfl rfl rfl fun w a hk hs => ?_
  show wpList _ _ _ [] _ _
  refine wpList_nil ?_
  refine hK6 _ _ ?_
  apply wp_seq_k; intro K13 hK13
  apply wp_region_lit
  refine sf ⟨b2, 1, none⟩ rfl hk rfl rfl rfl fd27_1 rfl fun a hk => ?_
  refine sl rfl hk rfl rfl rfl ag25 (box_cell hs (k := 3) rfl rfl) fun a hk => ?_
  obtain ⟨y14, h15, H⟩ := bind_some H
  refine sc rfl en78 hk rfl rfl rfl (laws_toIoS_t _ A0_1 p0_1 x0.Unsure _ v0_1 (hs.hasD (k := 2) rfl) _ h15) ?_
  rintro _ w ⟨A16, p17, k18, rfl, o19, hG⟩ a hk
  have hs := hs.call0k hG [7] rfl
  refine sf ⟨b5, 1, none⟩ rfl hk rfl rfl rfl fd35_1 rfl fun a hk => ?_
  refine ssx (cs' := #[.slice A9 y7.length p10, .slice A16 y14.length p17]) 5 hs rfl rfl hk rfl rfl rfl rfl sz33 rfl rfl rfl rfl fun w a hk hs => ?_
  show wpList _ _ _ [] _ _
  refine wpList_nil ?_
  refine hK13 _ _ ?_
  apply wp_seq_k; intro K20 hK20
  apply wp_region_lit
  refine sln [.slice A9 y7.length p10, .slice A16 y14.length p17] rfl hk rfl rfl rfl ag35 sz35 (box_cells hs (k := 5) rfl) fun a hk => ?_
  refine ssw 4 hs rfl rfl hk rfl rfl rfl rfl sz35 (by simp [Value.oneCell']) rfl fun w a hk hs => ?_
  show wpList _ _ _ [] _ _
  refine wpList_nil ?_
  refine hK20 _ _ ?_
  refine wp_ret ?_
  obtain rfl := Option.some.inj H
  exact fin hk _ [(.agg #[.slice A9 y7.length p10, .slice A16 y14.length p17])] rfl ⟨⟨_, rfl, run_loadN ag35 sz35 (box_cells hs (k := 4) rfl)⟩, trivial⟩ ⟨A9, p10, _, A16, p17, _, rfl, o12, o19, (hs.pick [(0, 6), (1, 7)] rfl).dnil⟩

noncomputable def laws_toRegister.f (x0 : S_Register) : Option (S_Register) :=
  (some (⟨x0.Epoch, x0.Side, x0.Count, x0.Boot, x0.Base, x0.Tip, x0.Root⟩ : S_Register))
set_option maxRecDepth 100000 in
set_option maxHeartbeats 0 in
theorem laws_toRegister_t (w0 : World) (x0 : S_Register) (r : S_Register) (H : laws_toRegister.f x0 = some r) :
    Calls Try.prog 45 #[.agg #[.int .i64 x0.Epoch, .int .i64 x0.Side, .int .i64 x0.Count, .int .i64 x0.Boot, .string x0.Base, .string x0.Tip, .string x0.Root]] w0 (Ret (fun v w => v = .agg #[.int .i64 r.Epoch, .int .i64 r.Side, .int .i64 r.Count, .int .i64 r.Boot, .string r.Base, .string r.Tip, .string r.Root] ∧ Sat [] w0 w [] [])) := by
  have hs : Sat [] w0 w0 [] [] := Sat.init w0 [] [] (by simp) (by simp) List.nodup_nil (by simp [blks])
  unfold laws_toRegister.f at H
  refine enter Try.func45 rfl Try.ntmps45 rfl fun a hk => ?_
  apply wp_seq_k; intro K1 hK1
  apply wp_region_lit
  refine sbx 1 hs rfl hk rfl rfl rfl rfl fun b2 w a hk hs => ?_
  refine salx 2 hs rfl hk rfl rfl ze32 rfl fun b3 w a hk hs => ?_
  show wpList _ _ _ [] _ _
  refine wpList_nil ?_
  refine hK1 _ _ ?_
  apply wp_seq_k; intro K4 hK4
  apply wp_region_lit
  refine salx 3 hs rfl hk rfl rfl ze32 rfl fun b5 w a hk hs => ?_
  show wpList _ _ _ [] _ _
  refine wpList_nil ?_
  refine hK4 _ _ ?_
  apply wp_seq_k; intro K6 hK6
  apply wp_region_lit
  refine sf ⟨b2, 0, none⟩ rfl hk rfl rfl rfl fd23_0 rfl fun a hk => ?_
  refine sl rfl hk rfl rfl rfl ag3 (box_cell hs (k := 1) rfl rfl) fun a hk => ?_
  refine sf ⟨b5, 0, none⟩ rfl hk rfl rfl rfl fd32_0 rfl fun a hk => ?_
  refine ssx (cs' := #[.int .i64 x0.Epoch, .int .i64 0, .int .i64 0, .int .i64 0, .string ByteArray.empty, .string ByteArray.empty, .string ByteArray.empty]) 3 hs rfl rfl hk rfl rfl rfl rfl sz3 rfl rfl rfl rfl fun w a hk hs => ?_
  show wpList _ _ _ [] _ _
  refine wpList_nil ?_
  refine hK6 _ _ ?_
  apply wp_seq_k; intro K7 hK7
  apply wp_region_lit
  refine sf ⟨b2, 1, none⟩ rfl hk rfl rfl rfl fd23_1 rfl fun a hk => ?_
  refine sl rfl hk rfl rfl rfl ag3 (box_cell hs (k := 1) rfl rfl) fun a hk => ?_
  refine sf ⟨b5, 1, none⟩ rfl hk rfl rfl rfl fd32_1 rfl fun a hk => ?_
  refine ssx (cs' := #[.int .i64 x0.Epoch, .int .i64 x0.Side, .int .i64 0, .int .i64 0, .string ByteArray.empty, .string ByteArray.empty, .string ByteArray.empty]) 3 hs rfl rfl hk rfl rfl rfl rfl sz3 rfl rfl rfl rfl fun w a hk hs => ?_
  show wpList _ _ _ [] _ _
  refine wpList_nil ?_
  refine hK7 _ _ ?_
  apply wp_seq_k; intro K8 hK8
  apply wp_region_lit
  refine sf ⟨b2, 2, none⟩ rfl hk rfl rfl rfl fd23_2 rfl fun a hk => ?_
  refine sl rfl hk rfl rfl rfl ag3 (box_cell hs (k := 1) rfl rfl) fun a hk => ?_
  refine sf ⟨b5, 2, none⟩ rfl hk rfl rfl rfl fd32_2 rfl fun a hk => ?_
  refine ssx (cs' := #[.int .i64 x0.Epoch, .int .i64 x0.Side, .int .i64 x0.Count, .int .i64 0, .string ByteArray.empty, .string ByteArray.empty, .string ByteArray.empty]) 3 hs rfl rfl hk rfl rfl rfl rfl sz3 rfl rfl rfl rfl fun w a hk hs => ?_
  show wpList _ _ _ [] _ _
  refine wpList_nil ?_
  refine hK8 _ _ ?_
  apply wp_seq_k; intro K9 hK9
  apply wp_region_lit
  refine sf ⟨b2, 3, none⟩ rfl hk rfl rfl rfl fd23_3 rfl fun a hk => ?_
  refine sl rfl hk rfl rfl rfl ag3 (box_cell hs (k := 1) rfl rfl) fun a hk => ?_
  refine sf ⟨b5, 3, none⟩ rfl hk rfl rfl rfl fd32_3 rfl fun a hk => ?_
  refine ssx (cs' := #[.int .i64 x0.Epoch, .int .i64 x0.Side, .int .i64 x0.Count, .int .i64 x0.Boot, .string ByteArray.empty, .string ByteArray.empty, .string ByteArray.empty]) 3 hs rfl rfl hk rfl rfl rfl rfl sz3 rfl rfl rfl rfl fun w a hk hs => ?_
  show wpList _ _ _ [] _ _
  refine wpList_nil ?_
  refine hK9 _ _ ?_
  apply wp_seq_k; intro K10 hK10
  apply wp_region_lit
  refine sf ⟨b2, 4, none⟩ rfl hk rfl rfl rfl fd23_4 rfl fun a hk => ?_
  refine sl rfl hk rfl rfl rfl ag9 (box_cell hs (k := 1) rfl rfl) fun a hk => ?_
  refine sf ⟨b5, 4, none⟩ rfl hk rfl rfl rfl fd32_4 rfl fun a hk => ?_
  refine ssx (cs' := #[.int .i64 x0.Epoch, .int .i64 x0.Side, .int .i64 x0.Count, .int .i64 x0.Boot, .string x0.Base, .string ByteArray.empty, .string ByteArray.empty]) 3 hs rfl rfl hk rfl rfl rfl rfl sz9 rfl rfl rfl rfl fun w a hk hs => ?_
  show wpList _ _ _ [] _ _
  refine wpList_nil ?_
  refine hK10 _ _ ?_
  apply wp_seq_k; intro K11 hK11
  apply wp_region_lit
  refine sf ⟨b2, 5, none⟩ rfl hk rfl rfl rfl fd23_5 rfl fun a hk => ?_
  refine sl rfl hk rfl rfl rfl ag9 (box_cell hs (k := 1) rfl rfl) fun a hk => ?_
  refine sf ⟨b5, 5, none⟩ rfl hk rfl rfl rfl fd32_5 rfl fun a hk => ?_
  refine ssx (cs' := #[.int .i64 x0.Epoch, .int .i64 x0.Side, .int .i64 x0.Count, .int .i64 x0.Boot, .string x0.Base, .string x0.Tip, .string ByteArray.empty]) 3 hs rfl rfl hk rfl rfl rfl rfl sz9 rfl rfl rfl rfl fun w a hk hs => ?_
  show wpList _ _ _ [] _ _
  refine wpList_nil ?_
  refine hK11 _ _ ?_
  apply wp_seq_k; intro K12 hK12
  apply wp_region_lit
  refine sf ⟨b2, 6, none⟩ rfl hk rfl rfl rfl fd23_6 rfl fun a hk => ?_
  refine sl rfl hk rfl rfl rfl ag9 (box_cell hs (k := 1) rfl rfl) fun a hk => ?_
  refine sf ⟨b5, 6, none⟩ rfl hk rfl rfl rfl fd32_6 rfl fun a hk => ?_
  refine ssx (cs' := #[.int .i64 x0.Epoch, .int .i64 x0.Side, .int .i64 x0.Count, .int .i64 x0.Boot, .string x0.Base, .string x0.Tip, .string x0.Root]) 3 hs rfl rfl hk rfl rfl rfl rfl sz9 rfl rfl rfl rfl fun w a hk hs => ?_
  show wpList _ _ _ [] _ _
  refine wpList_nil ?_
  refine hK12 _ _ ?_
  apply wp_seq_k; intro K13 hK13
  apply wp_region_lit
  refine sln [.int .i64 x0.Epoch, .int .i64 x0.Side, .int .i64 x0.Count, .int .i64 x0.Boot, .string x0.Base, .string x0.Tip, .string x0.Root] rfl hk rfl rfl rfl ag32 sz32 (box_cells hs (k := 3) rfl) fun a hk => ?_
  refine ssw 2 hs rfl rfl hk rfl rfl rfl rfl sz32 (by simp [Value.oneCell']) rfl fun w a hk hs => ?_
  show wpList _ _ _ [] _ _
  refine wpList_nil ?_
  refine hK13 _ _ ?_
  refine wp_ret ?_
  obtain rfl := Option.some.inj H
  exact fin hk _ [(.agg #[.int .i64 x0.Epoch, .int .i64 x0.Side, .int .i64 x0.Count, .int .i64 x0.Boot, .string x0.Base, .string x0.Tip, .string x0.Root])] rfl ⟨⟨_, rfl, run_loadN ag32 sz32 (box_cells hs (k := 2) rfl)⟩, trivial⟩ ⟨rfl, (hs.pick [] rfl).dnil⟩

noncomputable def laws_toStore.f (x0 : S_Store) : Option (S_Store) :=
  ((laws_toRegister.f x0.Reg).bind fun y8 => ((laws_toDevice.f x0.Device).bind fun y11 => (some (⟨x0.Key, y8, y11, x0.Up, x0.Dead⟩ : S_Store))))
set_option maxRecDepth 100000 in
set_option maxHeartbeats 0 in
theorem laws_toStore_t (w0 : World) (x0 : S_Store) (A0_0 : Option Addr) (p0_0 : Nat) (k0_0 : Chunk) (v0_0 : View Lay.str A0_0 p0_0 x0.Device.Sure k0_0) (w0_0 : Has w0 k0_0) (A0_1 : Option Addr) (p0_1 : Nat) (k0_1 : Chunk) (v0_1 : View L_Io A0_1 p0_1 x0.Device.Unsure k0_1) (w0_1 : Has w0 k0_1) (r : S_Store) (H : laws_toStore.f x0 = some r) :
    Calls Try.prog 13 #[.agg #[.string x0.Key, .int .i64 x0.Reg.Epoch, .int .i64 x0.Reg.Side, .int .i64 x0.Reg.Count, .int .i64 x0.Reg.Boot, .string x0.Reg.Base, .string x0.Reg.Tip, .string x0.Reg.Root, .slice A0_0 x0.Device.Sure.length p0_0, .slice A0_1 x0.Device.Unsure.length p0_1, .bool x0.Up, .bool x0.Dead]] w0 (Ret (fun v w => ∃ (A0 : Option Addr) (p0 : Nat) (k0 : Chunk), ∃ (A1 : Option Addr) (p1 : Nat) (k1 : Chunk), v = .agg #[.string r.Key, .int .i64 r.Reg.Epoch, .int .i64 r.Reg.Side, .int .i64 r.Reg.Count, .int .i64 r.Reg.Boot, .string r.Reg.Base, .string r.Reg.Tip, .string r.Reg.Root, .slice A0 r.Device.Sure.length p0, .slice A1 r.Device.Unsure.length p1, .bool r.Up, .bool r.Dead] ∧ Own Lay.str 9 A0 p0 r.Device.Sure k0 ∧ Own L_Io 114 A1 p1 r.Device.Unsure k1 ∧ Sat [] w0 w [] [(0, k0), (1, k1)])) := by
  have hs : Sat [] w0 w0 [(1, k0_0), (2, k0_1)] [] := Sat.init w0 [(1, k0_0), (2, k0_1)] [] (by simp only [List.mem_cons, List.not_mem_nil, or_false]; rintro x (rfl | rfl) <;> assumption) (by simp) List.nodup_nil (by simp [blks])
  unfold laws_toStore.f at H
  refine enter Try.func13 rfl Try.ntmps13 rfl fun a hk => ?_
  apply wp_seq_k; intro K1 hK1
  apply wp_region_lit
  refine sbx 3 hs rfl hk rfl rfl rfl rfl fun b2 w a hk hs => ?_
  refine salx 4 hs rfl hk rfl rfl ze37 rfl fun b3 w a hk hs => ?_
  show wpList _ _ _ [] _ _
  refine wpList_nil ?_
  refine hK1 _ _ ?_
  apply wp_seq_k; intro K4 hK4
  apply wp_region_lit
  refine salx 5 hs rfl hk rfl rfl ze37 rfl fun b5 w a hk hs => ?_
  show wpList _ _ _ [] _ _
  refine wpList_nil ?_
  refine hK4 _ _ ?_
  apply wp_seq_k; intro K6 hK6
  apply wp_region_lit
  refine sf ⟨b2, 0, none⟩ rfl hk rfl rfl rfl fd29_0 rfl fun a hk => ?_
  refine sl rfl hk rfl rfl rfl ag9 (box_cell hs (k := 3) rfl rfl) fun a hk => ?_
  refine sf ⟨b5, 0, none⟩ rfl hk rfl rfl rfl fd37_0 rfl fun a hk => ?_
  refine ssx (cs' := #[.string x0.Key, .int .i64 0, .int .i64 0, .int .i64 0, .int .i64 0, .string ByteArray.empty, .string ByteArray.empty, .string ByteArray.empty, .slice none 0 0, .slice none 0 0, .bool false, .bool false]) 5 hs rfl rfl hk rfl rfl rfl rfl sz9 rfl rfl rfl rfl fun w a hk hs => ?_
  show wpList _ _ _ [] _ _
  refine wpList_nil ?_
  refine hK6 _ _ ?_
  apply wp_seq_k; intro K7 hK7
  apply wp_region_lit
  refine sf ⟨b2, 1, none⟩ rfl hk rfl rfl rfl fd29_1 rfl fun a hk => ?_
  refine sln [.int .i64 x0.Reg.Epoch, .int .i64 x0.Reg.Side, .int .i64 x0.Reg.Count, .int .i64 x0.Reg.Boot, .string x0.Reg.Base, .string x0.Reg.Tip, .string x0.Reg.Root] rfl hk rfl rfl rfl ag23 sz23 (box_part hs (k := 3) rfl rfl) fun a hk => ?_
  obtain ⟨y8, h9, H⟩ := bind_some H
  refine sc rfl en45 hk rfl rfl rfl (laws_toRegister_t _ x0.Reg _ h9) ?_
  rintro _ w ⟨rfl, hG⟩ a hk
  have hs := hs.call0 hG
  refine sf ⟨b5, 1, none⟩ rfl hk rfl rfl rfl fd37_1 rfl fun a hk => ?_
  refine ssp (cs' := #[.string x0.Key, .int .i64 y8.Epoch, .int .i64 y8.Side, .int .i64 y8.Count, .int .i64 y8.Boot, .string y8.Base, .string y8.Tip, .string y8.Root, .slice none 0 0, .slice none 0 0, .bool false, .bool false]) 5 hs rfl rfl hk rfl rfl rfl rfl sz32 (by simp [Value.oneCell']) rfl rfl fun w a hk hs => ?_
  show wpList _ _ _ [] _ _
  refine wpList_nil ?_
  refine hK7 _ _ ?_
  apply wp_seq_k; intro K10 hK10
  apply wp_region_lit
  refine sf ⟨b2, 8, none⟩ rfl hk rfl rfl rfl fd29_2 rfl fun a hk => ?_
  refine sln [.slice A0_0 x0.Device.Sure.length p0_0, .slice A0_1 x0.Device.Unsure.length p0_1] rfl hk rfl rfl rfl ag27 sz27 (box_part hs (k := 3) rfl rfl) fun a hk => ?_
  obtain ⟨y11, h12, H⟩ := bind_some H
  refine sc rfl en30 hk rfl rfl rfl (laws_toDevice_t _ x0.Device A0_0 p0_0 _ v0_0 (hs.hasD (k := 1) rfl) A0_1 p0_1 _ v0_1 (hs.hasD (k := 2) rfl) _ h12) ?_
  rintro _ w ⟨A13, p14, k15, A17, p18, k19, rfl, o16, o20, hG⟩ a hk
  have hs := hs.call0k hG [6, 7] rfl
  refine sf ⟨b5, 8, none⟩ rfl hk rfl rfl rfl fd37_2 rfl fun a hk => ?_
  refine ssp (cs' := #[.string x0.Key, .int .i64 y8.Epoch, .int .i64 y8.Side, .int .i64 y8.Count, .int .i64 y8.Boot, .string y8.Base, .string y8.Tip, .string y8.Root, .slice A13 y11.Sure.length p14, .slice A17 y11.Unsure.length p18, .bool false, .bool false]) 5 hs rfl rfl hk rfl rfl rfl rfl sz35 (by simp [Value.oneCell']) rfl rfl fun w a hk hs => ?_
  show wpList _ _ _ [] _ _
  refine wpList_nil ?_
  refine hK10 _ _ ?_
  apply wp_seq_k; intro K21 hK21
  apply wp_region_lit
  refine sf ⟨b2, 10, none⟩ rfl hk rfl rfl rfl fd29_3 rfl fun a hk => ?_
  refine sl rfl hk rfl rfl rfl ag4 (box_cell hs (k := 3) rfl rfl) fun a hk => ?_
  refine sf ⟨b5, 10, none⟩ rfl hk rfl rfl rfl fd37_3 rfl fun a hk => ?_
  refine ssx (cs' := #[.string x0.Key, .int .i64 y8.Epoch, .int .i64 y8.Side, .int .i64 y8.Count, .int .i64 y8.Boot, .string y8.Base, .string y8.Tip, .string y8.Root, .slice A13 y11.Sure.length p14, .slice A17 y11.Unsure.length p18, .bool x0.Up, .bool false]) 5 hs rfl rfl hk rfl rfl rfl rfl sz4 rfl rfl rfl rfl fun w a hk hs => ?_
  show wpList _ _ _ [] _ _
  refine wpList_nil ?_
  refine hK21 _ _ ?_
  apply wp_seq_k; intro K22 hK22
  apply wp_region_lit
  refine sf ⟨b2, 11, none⟩ rfl hk rfl rfl rfl fd29_4 rfl fun a hk => ?_
  refine sl rfl hk rfl rfl rfl ag4 (box_cell hs (k := 3) rfl rfl) fun a hk => ?_
  refine sf ⟨b5, 11, none⟩ rfl hk rfl rfl rfl fd37_4 rfl fun a hk => ?_
  refine ssx (cs' := #[.string x0.Key, .int .i64 y8.Epoch, .int .i64 y8.Side, .int .i64 y8.Count, .int .i64 y8.Boot, .string y8.Base, .string y8.Tip, .string y8.Root, .slice A13 y11.Sure.length p14, .slice A17 y11.Unsure.length p18, .bool x0.Up, .bool x0.Dead]) 5 hs rfl rfl hk rfl rfl rfl rfl sz4 rfl rfl rfl rfl fun w a hk hs => ?_
  show wpList _ _ _ [] _ _
  refine wpList_nil ?_
  refine hK22 _ _ ?_
  apply wp_seq_k; intro K23 hK23
  apply wp_region_lit
  refine sln [.string x0.Key, .int .i64 y8.Epoch, .int .i64 y8.Side, .int .i64 y8.Count, .int .i64 y8.Boot, .string y8.Base, .string y8.Tip, .string y8.Root, .slice A13 y11.Sure.length p14, .slice A17 y11.Unsure.length p18, .bool x0.Up, .bool x0.Dead] rfl hk rfl rfl rfl ag37 sz37 (box_cells hs (k := 5) rfl) fun a hk => ?_
  refine ssw 4 hs rfl rfl hk rfl rfl rfl rfl sz37 (by simp [Value.oneCell']) rfl fun w a hk hs => ?_
  show wpList _ _ _ [] _ _
  refine wpList_nil ?_
  refine hK23 _ _ ?_
  refine wp_ret ?_
  obtain rfl := Option.some.inj H
  exact fin hk _ [(.agg #[.string x0.Key, .int .i64 y8.Epoch, .int .i64 y8.Side, .int .i64 y8.Count, .int .i64 y8.Boot, .string y8.Base, .string y8.Tip, .string y8.Root, .slice A13 y11.Sure.length p14, .slice A17 y11.Unsure.length p18, .bool x0.Up, .bool x0.Dead])] rfl ⟨⟨_, rfl, run_loadN ag37 sz37 (box_cells hs (k := 4) rfl)⟩, trivial⟩ ⟨A13, p14, _, A17, p18, _, rfl, o16, o20, (hs.pick [(0, 6), (1, 7)] rfl).dnil⟩

noncomputable def slices_Equal_string_string.s0 (l0 : List ByteArray) (l1 : List ByteArray) (u10 : Int) : Option ((Int) ⊕ Ex (Unit) (Bool)) :=
  (bif (decide (u10 < (l0.length : Int))) then (if 0 ≤ u10 ∧ u10 < (l0.length : Int) then (if 0 ≤ u10 ∧ u10 < (l1.length : Int) then (bif (!((l0.getD u10.toNat ByteArray.empty).toList == (l1.getD u10.toNat ByteArray.empty).toList)) then (some (.inr (.ret false))) else (some (.inl (w64 (u10 + 1))))) else none) else none) else (some (.inr (.out ()))))
noncomputable def slices_Equal_string_string.f (l0 : List ByteArray) (l1 : List ByteArray) : Option (Bool) :=
  (bif ((l0.length : Int) != (l1.length : Int)) then (some false) else ((loopO (fun s => slices_Equal_string_string.s0 l0 l1 s) 0).bind fun o => match o with | .out _ => (some true) | .ret r => (some r)))
set_option maxRecDepth 100000 in
set_option maxHeartbeats 0 in
theorem slices_Equal_string_string_t (w0 : World) (A0_ : Option Addr) (p0_ : Nat) (l0 : List ByteArray) (k0_ : Chunk) (v0_ : View Lay.str A0_ p0_ l0 k0_) (w0_ : Has w0 k0_) (A1_ : Option Addr) (p1_ : Nat) (l1 : List ByteArray) (k1_ : Chunk) (v1_ : View Lay.str A1_ p1_ l1 k1_) (w1_ : Has w0 k1_) (r : Bool) (H : slices_Equal_string_string.f l0 l1 = some r) :
    Calls Try.prog 95 #[.slice A0_ l0.length p0_, .slice A1_ l1.length p1_] w0 (Ret (fun v w => v = .bool r ∧ Sat [] w0 w [] [])) := by
  have hs : Sat [] w0 w0 [(1, k0_), (2, k1_)] [] := Sat.init w0 [(1, k0_), (2, k1_)] [] (by simp only [List.mem_cons, List.not_mem_nil, or_false]; rintro x (rfl | rfl) <;> assumption) (by simp) List.nodup_nil (by simp [blks])
  unfold slices_Equal_string_string.f at H
  refine enter Try.func95 rfl Try.ntmps95 rfl fun a hk => ?_
  apply wp_seq_k; intro K1 hK1
  apply wp_region_lit
  refine sa _ rfl hk rfl rfl rfl fun a hk => ?_
  show wpList _ _ _ [] _ _
  refine wpList_nil ?_
  refine hK1 _ _ ?_
  apply wp_seq_k; intro K2 hK2
  apply wp_seq_k; intro K3 hK3
  apply wp_region_lit
  refine sm _ rfl hk rfl rfl rfl fun a hk => ?_
  refine sle rfl hk rfl rfl rfl un24 fun a hk => ?_
  refine sm _ rfl hk rfl rfl rfl fun a hk => ?_
  refine sle rfl hk rfl rfl rfl un24 fun a hk => ?_
  refine sv (.bool ((l0.length : Int) != (l1.length : Int))) hk rfl rfl rfl fun a hk => ?_
  show wpList _ _ _ [] _ _
  refine wpList_nil ?_
  refine hK3 _ _ ?_
  rcases cond_some H with ⟨c4, H⟩ | ⟨c4, H⟩
  · have hk := hk.lit 10 c4 rfl
    refine cnd_true hk rfl rfl ?_
    apply wp_seq_k; intro K5 hK5
    apply wp_region_lit
    refine sa _ rfl hk rfl rfl rfl fun a hk => ?_
    show wpList _ _ _ [] _ _
    refine wpList_nil ?_
    refine hK5 _ _ ?_
    refine wp_ret ?_
    obtain rfl := Option.some.inj H
    exact fin hk _ [(.bool false)] rfl ⟨rfl, trivial⟩ ⟨rfl, (hs.pick [] rfl).dnil⟩
  · have hk := hk.lit 10 c4 rfl
    refine cnd_false hk rfl rfl ?_
    refine wp_skip ?_
    refine hK2 _ _ ?_
    apply wp_seq_k; intro K6 hK6
    apply wp_seq_k; intro K7 hK7
    apply wp_region_lit
    refine sm _ rfl hk rfl rfl rfl fun a hk => ?_
    refine sle rfl hk rfl rfl rfl un24 fun a hk => ?_
    refine sm _ rfl hk rfl rfl rfl fun a hk => ?_
    show wpList _ _ _ [] _ _
    refine wpList_nil ?_
    refine hK7 _ _ ?_
    obtain ⟨o11, h12, HL13⟩ := bind_some H
    clear H
    obtain ⟨R14, hR14⟩ : ∃ R : Act → World → Prop, R = fun a w => o11 = .out () ∧ Kn [] 26 a ∧ Sat [] w0 w [(1, k0_), (2, k1_)] [] := ⟨_, rfl⟩
    refine wp_cutq R14 ?_ ?_
    · refine wp_block ?_
      obtain ⟨fu16, h12⟩ := loopO_some h12
      obtain ⟨I15, hI15⟩ : ∃ I : Nat → Act → World → Prop, I = fun fu a w => ∃ (u10 : Int), loopN (fun s => slices_Equal_string_string.s0 l0 l1 s) fu u10 = some o11 ∧ Kn [(0, (.slice A0_ l0.length p0_)), (1, (.slice A1_ l1.length p1_)), (12, (.int .i64 (l0.length : Int))), (13, (.int .i64 u10))] 26 a ∧ Sat [] w0 w [(1, k0_), (2, k1_)] [] := ⟨_, rfl⟩
      refine wp_loop_ghost I15 fu16 ?_ ?_
      · rw [hI15]
        exact ⟨0, h12, (hk.c 0 rfl (hk.c 1 rfl (hk.c 12 rfl (hk.c 13 rfl hk.k)))), (hs.pick [] rfl)⟩
      · clear h12 hk hs
        intro fu16 a w hI0
        rw [hI15] at hI0
        obtain ⟨u10, hi, hk, hs⟩ := hI0
        obtain ⟨x17, H, h18⟩ := loop_round hi
        try dsimp only at H
        unfold slices_Equal_string_string.s0 at H
        apply wp_seq_k; intro K19 hK19
        apply wp_region_lit
        refine sv (.bool (decide (u10 < (l0.length : Int)))) hk rfl rfl rfl fun a hk => ?_
        show wpList _ _ _ [] _ _
        refine wpList_nil ?_
        refine hK19 _ _ ?_
        apply wp_seq_k; intro K20 hK20
        rcases cond_some H with ⟨c21, H⟩ | ⟨c21, H⟩
        · have hk := hk.lit 14 c21 rfl
          refine cnd_true hk rfl rfl ?_
          refine wp_skip ?_
          refine hK20 _ _ ?_
          apply wp_seq_k; intro K22 hK22
          refine wp_block ?_
          apply wp_seq_k; intro K23 hK23
          apply wp_region_lit
          refine sm _ rfl hk rfl rfl rfl fun a hk => ?_
          refine sa _ rfl hk rfl rfl rfl fun a hk => ?_
          show wpList _ _ _ [] _ _
          refine wpList_nil ?_
          refine hK23 _ _ ?_
          apply wp_seq_k; intro K24 hK24
          refine wp_region_mix [(0, true), (1, true), (2, true), (3, true), (4, true), (5, true), (6, true), (7, true), (8, true)] mo (by kernel_rfl) hs fun _ => ?_
          have hs := hs.drew
          refine qst (.slice A0_ l0.length p0_) hk rfl rfl rfl rfl (fun w hs => sm _ rfl hk rfl rfl rfl fun a hk => qe hk) fun a hk => ?_
          refine qst (.int .i64 u10) hk rfl rfl rfl rfl (fun w hs => sm _ rfl hk rfl rfl rfl fun a hk => qe hk) fun a hk => ?_
          rcases ite_some H with ⟨c25, H⟩ | ⟨_, H⟩
          rotate_left
          · cases H
          obtain ⟨b26, q27, hAc25⟩ := (v0_).some_ u10 c25.1 c25.2
          refine qst (.pointer (some (padd A0_ (u10.toNat * 1)))) hk rfl rfl rfl rfl (fun w hs => si rfl hk rfl rfl rfl rfl un24 sz9 c25.1 c25.2 hAc25 fun a hk => qe hk) fun a hk => ?_
          obtain ⟨_, rfl, e28⟩ := (v0_).at_ ByteArray.empty u10 c25.1 c25.2
          refine qst (.string (l0.getD u10.toNat ByteArray.empty)) hk rfl rfl rfl rfl (fun w hs => sl (v := (.string (l0.getD u10.toNat ByteArray.empty))) rfl hk rfl rfl rfl ag9 ((e28 0 _ rfl).cell (hs.hasD (k := 1) rfl)) fun a hk => qe hk) fun a hk => ?_
          refine qst (.slice A1_ l1.length p1_) hk rfl rfl rfl rfl (fun w hs => sm _ rfl hk rfl rfl rfl fun a hk => qe hk) fun a hk => ?_
          refine qst (.int .i64 u10) hk rfl rfl rfl rfl (fun w hs => sm _ rfl hk rfl rfl rfl fun a hk => qe hk) fun a hk => ?_
          rcases ite_some H with ⟨c29, H⟩ | ⟨_, H⟩
          rotate_left
          · cases H
          obtain ⟨b30, q31, hAc29⟩ := (v1_).some_ u10 c29.1 c29.2
          refine qst (.pointer (some (padd A1_ (u10.toNat * 1)))) hk rfl rfl rfl rfl (fun w hs => si rfl hk rfl rfl rfl rfl un24 sz9 c29.1 c29.2 hAc29 fun a hk => qe hk) fun a hk => ?_
          obtain ⟨_, rfl, e32⟩ := (v1_).at_ ByteArray.empty u10 c29.1 c29.2
          refine qst (.string (l1.getD u10.toNat ByteArray.empty)) hk rfl rfl rfl rfl (fun w hs => sl (v := (.string (l1.getD u10.toNat ByteArray.empty))) rfl hk rfl rfl rfl ag9 ((e32 0 _ rfl).cell (hs.hasD (k := 2) rfl)) fun a hk => qe hk) fun a hk => ?_
          refine qst (.bool (!((l0.getD u10.toNat ByteArray.empty).toList == (l1.getD u10.toNat ByteArray.empty).toList))) hk rfl rfl rfl rfl (fun w hs => sv (.bool (!((l0.getD u10.toNat ByteArray.empty).toList == (l1.getD u10.toNat ByteArray.empty).toList))) hk rfl rfl rfl fun a hk => qe hk) fun a hk => ?_
          refine wml_nil fun w hF _ => ?_
          have hs := hs.f hF
          refine hK24 _ _ ?_
          rcases cond_some H with ⟨c33, H⟩ | ⟨c33, H⟩
          · have hk := hk.lit 24 c33 rfl
            refine cnd_true hk rfl rfl ?_
            apply wp_seq_k; intro K34 hK34
            apply wp_region_lit
            refine sa _ rfl hk rfl rfl rfl fun a hk => ?_
            show wpList _ _ _ [] _ _
            refine wpList_nil ?_
            refine hK34 _ _ ?_
            refine wp_ret ?_
            obtain rfl := Option.some.inj H
            have ho11 := h18
            try dsimp only at ho11
            subst ho11
            have H := HL13
            try dsimp only at H
            obtain rfl := Option.some.inj H
            exact fin hk _ [(.bool false)] rfl ⟨rfl, trivial⟩ ⟨rfl, (hs.pick [] rfl).dnil⟩
          · have hk := hk.lit 24 c33 rfl
            refine cnd_false hk rfl rfl ?_
            refine wp_skip ?_
            refine hK22 _ _ ?_
            apply wp_region_lit
            refine sv (.int .i64 (w64 (u10 + 1))) hk rfl rfl rfl fun a hk => ?_
            refine sm _ rfl hk rfl rfl rfl fun a hk => ?_
            show wpList _ _ _ [] _ _
            refine wpList_nil ?_
            obtain rfl := Option.some.inj H
            obtain ⟨m35, hmm35, h18⟩ := h18
            show ∃ n', n' < _ ∧ I15 n' _ _
            refine ⟨m35, hmm35, ?_⟩
            rw [hI15]
            exact ⟨(w64 (u10 + 1)), h18, (hk.c 0 rfl (hk.c 1 rfl (hk.c 12 rfl (hk.c 13 rfl hk.k)))), (hs.pick [] rfl)⟩
        · have hk := hk.lit 14 c21 rfl
          refine cnd_false hk rfl rfl ?_
          refine wp_exit ?_
          obtain rfl := Option.some.inj H
          show R14 _ _
          rw [hR14]
          exact ⟨h18.symm, hk.k, (hs.pick [] rfl)⟩
    · intro a w hR0
      rw [hR14] at hR0
      obtain ⟨rfl, hk, hs⟩ := hR0
      have H := HL13
      try dsimp only at H
      refine hK6 _ _ ?_
      apply wp_seq_k; intro K36 hK36
      apply wp_region_lit
      refine sa _ rfl hk rfl rfl rfl fun a hk => ?_
      show wpList _ _ _ [] _ _
      refine wpList_nil ?_
      refine hK36 _ _ ?_
      refine wp_ret ?_
      obtain rfl := Option.some.inj H
      exact fin hk _ [(.bool true)] rfl ⟨rfl, trivial⟩ ⟨rfl, (hs.pick [] rfl).dnil⟩

noncomputable def slices_Equal_impl_Io_impl_Io.s0 (l0 : List S_Io) (l1 : List S_Io) (u10 : Int) : Option ((Int) ⊕ Ex (Unit) (Bool)) :=
  (bif (decide (u10 < (l0.length : Int))) then (if 0 ≤ u10 ∧ u10 < (l0.length : Int) then (if 0 ≤ u10 ∧ u10 < (l1.length : Int) then (bif (!((((l0.getD u10.toNat z_Io).At) == ((l1.getD u10.toNat z_Io).At)) && ((((l0.getD u10.toNat z_Io).Data).toList == ((l1.getD u10.toNat z_Io).Data).toList) && true))) then (some (.inr (.ret false))) else (some (.inl (w64 (u10 + 1))))) else none) else none) else (some (.inr (.out ()))))
noncomputable def slices_Equal_impl_Io_impl_Io.f (l0 : List S_Io) (l1 : List S_Io) : Option (Bool) :=
  (bif ((l0.length : Int) != (l1.length : Int)) then (some false) else ((loopO (fun s => slices_Equal_impl_Io_impl_Io.s0 l0 l1 s) 0).bind fun o => match o with | .out _ => (some true) | .ret r => (some r)))
set_option maxRecDepth 100000 in
set_option maxHeartbeats 0 in
theorem slices_Equal_impl_Io_impl_Io_t (w0 : World) (A0_ : Option Addr) (p0_ : Nat) (l0 : List S_Io) (k0_ : Chunk) (v0_ : View L_Io A0_ p0_ l0 k0_) (w0_ : Has w0 k0_) (A1_ : Option Addr) (p1_ : Nat) (l1 : List S_Io) (k1_ : Chunk) (v1_ : View L_Io A1_ p1_ l1 k1_) (w1_ : Has w0 k1_) (r : Bool) (H : slices_Equal_impl_Io_impl_Io.f l0 l1 = some r) :
    Calls Try.prog 96 #[.slice A0_ l0.length p0_, .slice A1_ l1.length p1_] w0 (Ret (fun v w => v = .bool r ∧ Sat [] w0 w [] [])) := by
  have hs : Sat [] w0 w0 [(1, k0_), (2, k1_)] [] := Sat.init w0 [(1, k0_), (2, k1_)] [] (by simp only [List.mem_cons, List.not_mem_nil, or_false]; rintro x (rfl | rfl) <;> assumption) (by simp) List.nodup_nil (by simp [blks])
  unfold slices_Equal_impl_Io_impl_Io.f at H
  refine enter Try.func96 rfl Try.ntmps96 rfl fun a hk => ?_
  apply wp_seq_k; intro K1 hK1
  apply wp_region_lit
  refine sa _ rfl hk rfl rfl rfl fun a hk => ?_
  show wpList _ _ _ [] _ _
  refine wpList_nil ?_
  refine hK1 _ _ ?_
  apply wp_seq_k; intro K2 hK2
  apply wp_seq_k; intro K3 hK3
  apply wp_region_lit
  refine sm _ rfl hk rfl rfl rfl fun a hk => ?_
  refine sle rfl hk rfl rfl rfl un33 fun a hk => ?_
  refine sm _ rfl hk rfl rfl rfl fun a hk => ?_
  refine sle rfl hk rfl rfl rfl un33 fun a hk => ?_
  refine sv (.bool ((l0.length : Int) != (l1.length : Int))) hk rfl rfl rfl fun a hk => ?_
  show wpList _ _ _ [] _ _
  refine wpList_nil ?_
  refine hK3 _ _ ?_
  rcases cond_some H with ⟨c4, H⟩ | ⟨c4, H⟩
  · have hk := hk.lit 10 c4 rfl
    refine cnd_true hk rfl rfl ?_
    apply wp_seq_k; intro K5 hK5
    apply wp_region_lit
    refine sa _ rfl hk rfl rfl rfl fun a hk => ?_
    show wpList _ _ _ [] _ _
    refine wpList_nil ?_
    refine hK5 _ _ ?_
    refine wp_ret ?_
    obtain rfl := Option.some.inj H
    exact fin hk _ [(.bool false)] rfl ⟨rfl, trivial⟩ ⟨rfl, (hs.pick [] rfl).dnil⟩
  · have hk := hk.lit 10 c4 rfl
    refine cnd_false hk rfl rfl ?_
    refine wp_skip ?_
    refine hK2 _ _ ?_
    apply wp_seq_k; intro K6 hK6
    apply wp_seq_k; intro K7 hK7
    apply wp_region_lit
    refine sm _ rfl hk rfl rfl rfl fun a hk => ?_
    refine sle rfl hk rfl rfl rfl un33 fun a hk => ?_
    refine sm _ rfl hk rfl rfl rfl fun a hk => ?_
    show wpList _ _ _ [] _ _
    refine wpList_nil ?_
    refine hK7 _ _ ?_
    obtain ⟨o11, h12, HL13⟩ := bind_some H
    clear H
    obtain ⟨R14, hR14⟩ : ∃ R : Act → World → Prop, R = fun a w => o11 = .out () ∧ Kn [] 26 a ∧ Sat [] w0 w [(1, k0_), (2, k1_)] [] := ⟨_, rfl⟩
    refine wp_cutq R14 ?_ ?_
    · refine wp_block ?_
      obtain ⟨fu16, h12⟩ := loopO_some h12
      obtain ⟨I15, hI15⟩ : ∃ I : Nat → Act → World → Prop, I = fun fu a w => ∃ (u10 : Int), loopN (fun s => slices_Equal_impl_Io_impl_Io.s0 l0 l1 s) fu u10 = some o11 ∧ Kn [(0, (.slice A0_ l0.length p0_)), (1, (.slice A1_ l1.length p1_)), (12, (.int .i64 (l0.length : Int))), (13, (.int .i64 u10))] 26 a ∧ Sat [] w0 w [(1, k0_), (2, k1_)] [] := ⟨_, rfl⟩
      refine wp_loop_ghost I15 fu16 ?_ ?_
      · rw [hI15]
        exact ⟨0, h12, (hk.c 0 rfl (hk.c 1 rfl (hk.c 12 rfl (hk.c 13 rfl hk.k)))), (hs.pick [] rfl)⟩
      · clear h12 hk hs
        intro fu16 a w hI0
        rw [hI15] at hI0
        obtain ⟨u10, hi, hk, hs⟩ := hI0
        obtain ⟨x17, H, h18⟩ := loop_round hi
        try dsimp only at H
        unfold slices_Equal_impl_Io_impl_Io.s0 at H
        apply wp_seq_k; intro K19 hK19
        apply wp_region_lit
        refine sv (.bool (decide (u10 < (l0.length : Int)))) hk rfl rfl rfl fun a hk => ?_
        show wpList _ _ _ [] _ _
        refine wpList_nil ?_
        refine hK19 _ _ ?_
        apply wp_seq_k; intro K20 hK20
        rcases cond_some H with ⟨c21, H⟩ | ⟨c21, H⟩
        · have hk := hk.lit 14 c21 rfl
          refine cnd_true hk rfl rfl ?_
          refine wp_skip ?_
          refine hK20 _ _ ?_
          apply wp_seq_k; intro K22 hK22
          refine wp_block ?_
          apply wp_seq_k; intro K23 hK23
          apply wp_region_lit
          refine sm _ rfl hk rfl rfl rfl fun a hk => ?_
          refine sa _ rfl hk rfl rfl rfl fun a hk => ?_
          show wpList _ _ _ [] _ _
          refine wpList_nil ?_
          refine hK23 _ _ ?_
          apply wp_seq_k; intro K24 hK24
          refine wp_region_mix [(0, true), (1, true), (2, true), (3, true), (4, true), (5, true), (6, true), (7, true), (8, true)] mo (by kernel_rfl) hs fun _ => ?_
          have hs := hs.drew
          refine qst (.slice A0_ l0.length p0_) hk rfl rfl rfl rfl (fun w hs => sm _ rfl hk rfl rfl rfl fun a hk => qe hk) fun a hk => ?_
          refine qst (.int .i64 u10) hk rfl rfl rfl rfl (fun w hs => sm _ rfl hk rfl rfl rfl fun a hk => qe hk) fun a hk => ?_
          rcases ite_some H with ⟨c25, H⟩ | ⟨_, H⟩
          rotate_left
          · cases H
          obtain ⟨b26, q27, hAc25⟩ := (v0_).some_ u10 c25.1 c25.2
          refine qst (.pointer (some (padd A0_ (u10.toNat * 2)))) hk rfl rfl rfl rfl (fun w hs => si rfl hk rfl rfl rfl rfl un33 sz114 c25.1 c25.2 hAc25 fun a hk => qe hk) fun a hk => ?_
          obtain ⟨_, rfl, e28⟩ := (v0_).at_ z_Io u10 c25.1 c25.2
          refine qst (.agg #[.int .i64 ((l0.getD u10.toNat z_Io).At), .string ((l0.getD u10.toNat z_Io).Data)]) hk rfl rfl rfl rfl (fun w hs => sln [.int .i64 ((l0.getD u10.toNat z_Io).At), .string ((l0.getD u10.toNat z_Io).Data)] rfl hk rfl rfl rfl ag114 sz114 (cells_at e28 (hs.hasD (k := 1) rfl)) fun a hk => qe hk) fun a hk => ?_
          refine qst (.slice A1_ l1.length p1_) hk rfl rfl rfl rfl (fun w hs => sm _ rfl hk rfl rfl rfl fun a hk => qe hk) fun a hk => ?_
          refine qst (.int .i64 u10) hk rfl rfl rfl rfl (fun w hs => sm _ rfl hk rfl rfl rfl fun a hk => qe hk) fun a hk => ?_
          rcases ite_some H with ⟨c29, H⟩ | ⟨_, H⟩
          rotate_left
          · cases H
          obtain ⟨b30, q31, hAc29⟩ := (v1_).some_ u10 c29.1 c29.2
          refine qst (.pointer (some (padd A1_ (u10.toNat * 2)))) hk rfl rfl rfl rfl (fun w hs => si rfl hk rfl rfl rfl rfl un33 sz114 c29.1 c29.2 hAc29 fun a hk => qe hk) fun a hk => ?_
          obtain ⟨_, rfl, e32⟩ := (v1_).at_ z_Io u10 c29.1 c29.2
          refine qst (.agg #[.int .i64 ((l1.getD u10.toNat z_Io).At), .string ((l1.getD u10.toNat z_Io).Data)]) hk rfl rfl rfl rfl (fun w hs => sln [.int .i64 ((l1.getD u10.toNat z_Io).At), .string ((l1.getD u10.toNat z_Io).Data)] rfl hk rfl rfl rfl ag114 sz114 (cells_at e32 (hs.hasD (k := 2) rfl)) fun a hk => qe hk) fun a hk => ?_
          refine qst (.bool (!((((l0.getD u10.toNat z_Io).At) == ((l1.getD u10.toNat z_Io).At)) && ((((l0.getD u10.toNat z_Io).Data).toList == ((l1.getD u10.toNat z_Io).Data).toList) && true)))) hk rfl rfl rfl rfl (fun w hs => snea (r := ((((l0.getD u10.toNat z_Io).At) == ((l1.getD u10.toNat z_Io).At)) && ((((l0.getD u10.toNat z_Io).Data).toList == ((l1.getD u10.toNat z_Io).Data).toList) && true))) rfl hk rfl rfl rfl rfl eg114 (eq_agg Try.underlying114 sh114 (eqf_cons rfl ag3 rfl rfl (run_equalIn_int _ _ _ _ _ _ _ un3) (eqf_cons rfl ag9 rfl rfl (run_equalIn_string _ _ _ _ _ un9) eqf_nil))) fun a hk => qe hk) fun a hk => ?_
          refine wml_nil fun w hF _ => ?_
          have hs := hs.f hF
          refine hK24 _ _ ?_
          rcases cond_some H with ⟨c33, H⟩ | ⟨c33, H⟩
          · have hk := hk.lit 24 c33 rfl
            refine cnd_true hk rfl rfl ?_
            apply wp_seq_k; intro K34 hK34
            apply wp_region_lit
            refine sa _ rfl hk rfl rfl rfl fun a hk => ?_
            show wpList _ _ _ [] _ _
            refine wpList_nil ?_
            refine hK34 _ _ ?_
            refine wp_ret ?_
            obtain rfl := Option.some.inj H
            have ho11 := h18
            try dsimp only at ho11
            subst ho11
            have H := HL13
            try dsimp only at H
            obtain rfl := Option.some.inj H
            exact fin hk _ [(.bool false)] rfl ⟨rfl, trivial⟩ ⟨rfl, (hs.pick [] rfl).dnil⟩
          · have hk := hk.lit 24 c33 rfl
            refine cnd_false hk rfl rfl ?_
            refine wp_skip ?_
            refine hK22 _ _ ?_
            apply wp_region_lit
            refine sv (.int .i64 (w64 (u10 + 1))) hk rfl rfl rfl fun a hk => ?_
            refine sm _ rfl hk rfl rfl rfl fun a hk => ?_
            show wpList _ _ _ [] _ _
            refine wpList_nil ?_
            obtain rfl := Option.some.inj H
            obtain ⟨m35, hmm35, h18⟩ := h18
            show ∃ n', n' < _ ∧ I15 n' _ _
            refine ⟨m35, hmm35, ?_⟩
            rw [hI15]
            exact ⟨(w64 (u10 + 1)), h18, (hk.c 0 rfl (hk.c 1 rfl (hk.c 12 rfl (hk.c 13 rfl hk.k)))), (hs.pick [] rfl)⟩
        · have hk := hk.lit 14 c21 rfl
          refine cnd_false hk rfl rfl ?_
          refine wp_exit ?_
          obtain rfl := Option.some.inj H
          show R14 _ _
          rw [hR14]
          exact ⟨h18.symm, hk.k, (hs.pick [] rfl)⟩
    · intro a w hR0
      rw [hR14] at hR0
      obtain ⟨rfl, hk, hs⟩ := hR0
      have H := HL13
      try dsimp only at H
      refine hK6 _ _ ?_
      apply wp_seq_k; intro K36 hK36
      apply wp_region_lit
      refine sa _ rfl hk rfl rfl rfl fun a hk => ?_
      show wpList _ _ _ [] _ _
      refine wpList_nil ?_
      refine hK36 _ _ ?_
      refine wp_ret ?_
      obtain rfl := Option.some.inj H
      exact fin hk _ [(.bool true)] rfl ⟨rfl, trivial⟩ ⟨rfl, (hs.pick [] rfl).dnil⟩

noncomputable def impl_SameDevice.f (x0 : S_Device) (x1 : S_Device) : Option (Bool) :=
  ((((slices_Equal_string_string.f x0.Sure x1.Sure).bind fun y11 => (bif y11 then ((slices_Equal_impl_Io_impl_Io.f x0.Unsure x1.Unsure).bind fun y14 => (some y14)) else (some false))) : Option (Bool)).bind fun u6 => (some u6))
set_option maxRecDepth 100000 in
set_option maxHeartbeats 0 in
theorem impl_SameDevice_t (w0 : World) (x0 : S_Device) (A0_0 : Option Addr) (p0_0 : Nat) (k0_0 : Chunk) (v0_0 : View Lay.str A0_0 p0_0 x0.Sure k0_0) (w0_0 : Has w0 k0_0) (A0_1 : Option Addr) (p0_1 : Nat) (k0_1 : Chunk) (v0_1 : View L_Io A0_1 p0_1 x0.Unsure k0_1) (w0_1 : Has w0 k0_1) (x1 : S_Device) (A1_0 : Option Addr) (p1_0 : Nat) (k1_0 : Chunk) (v1_0 : View Lay.str A1_0 p1_0 x1.Sure k1_0) (w1_0 : Has w0 k1_0) (A1_1 : Option Addr) (p1_1 : Nat) (k1_1 : Chunk) (v1_1 : View L_Io A1_1 p1_1 x1.Unsure k1_1) (w1_1 : Has w0 k1_1) (r : Bool) (H : impl_SameDevice.f x0 x1 = some r) :
    Calls Try.prog 46 #[.agg #[.slice A0_0 x0.Sure.length p0_0, .slice A0_1 x0.Unsure.length p0_1], .agg #[.slice A1_0 x1.Sure.length p1_0, .slice A1_1 x1.Unsure.length p1_1]] w0 (Ret (fun v w => v = .bool r ∧ Sat [] w0 w [] [])) := by
  have hs : Sat [] w0 w0 [(1, k0_0), (2, k0_1), (3, k1_0), (4, k1_1)] [] := Sat.init w0 [(1, k0_0), (2, k0_1), (3, k1_0), (4, k1_1)] [] (by simp only [List.mem_cons, List.not_mem_nil, or_false]; rintro x (rfl | rfl | rfl | rfl) <;> assumption) (by simp) List.nodup_nil (by simp [blks])
  unfold impl_SameDevice.f at H
  refine enter Try.func46 rfl Try.ntmps46 rfl fun a hk => ?_
  apply wp_seq_k; intro K1 hK1
  apply wp_region_lit
  refine sbx 5 hs rfl hk rfl rfl rfl rfl fun b2 w a hk hs => ?_
  refine sbx 6 hs rfl hk rfl rfl rfl rfl fun b3 w a hk hs => ?_
  refine sa _ rfl hk rfl rfl rfl fun a hk => ?_
  show wpList _ _ _ [] _ _
  refine wpList_nil ?_
  refine hK1 _ _ ?_
  apply wp_seq_k; intro K4 hK4
  obtain ⟨o7, h8, HL9⟩ := bind_some H
  clear H
  obtain ⟨R10, hR10⟩ : ∃ R : Act → World → Prop, R = fun a w => ∃ (u6 : Bool), u6 = o7 ∧ Kn [(4, (.bool u6))] 17 a ∧ Sat [] w0 w [(1, k0_0), (2, k0_1), (3, k1_0), (4, k1_1)] [] := ⟨_, rfl⟩
  refine wp_cutq R10 ?_ ?_
  · have H := h8
    apply wp_region_lit
    refine sf ⟨b2, 0, none⟩ rfl hk rfl rfl rfl fd35_0 rfl fun a hk => ?_
    refine sl rfl hk rfl rfl rfl ag24 (box_cell hs (k := 5) rfl rfl) fun a hk => ?_
    refine sf ⟨b3, 0, none⟩ rfl hk rfl rfl rfl fd35_0 rfl fun a hk => ?_
    refine sl rfl hk rfl rfl rfl ag24 (box_cell hs (k := 6) rfl rfl) fun a hk => ?_
    obtain ⟨y11, h12, H⟩ := bind_some H
    refine sc rfl en95 hk rfl rfl rfl (slices_Equal_string_string_t _ A0_0 p0_0 x0.Sure _ v0_0 (hs.hasD (k := 1) rfl) A1_0 p1_0 x1.Sure _ v1_0 (hs.hasD (k := 3) rfl) _ h12) ?_
    rintro _ w ⟨rfl, hG⟩ a hk
    have hs := hs.call0 hG
    refine sm _ rfl hk rfl rfl rfl fun a hk => ?_
    rcases cond_some H with ⟨c13, H⟩ | ⟨c13, H⟩
    · have hk := hk.lit 10 c13 rfl
      refine sf ⟨b2, 1, none⟩ rfl hk rfl rfl rfl fd35_1 rfl fun a hk => ?_
      refine sl rfl hk rfl rfl rfl ag33 (box_cell hs (k := 5) rfl rfl) fun a hk => ?_
      refine sf ⟨b3, 1, none⟩ rfl hk rfl rfl rfl fd35_1 rfl fun a hk => ?_
      refine sl rfl hk rfl rfl rfl ag33 (box_cell hs (k := 6) rfl rfl) fun a hk => ?_
      obtain ⟨y14, h15, H⟩ := bind_some H
      refine sc rfl en96 hk rfl rfl rfl (slices_Equal_impl_Io_impl_Io_t _ A0_1 p0_1 x0.Unsure _ v0_1 (hs.hasD (k := 2) rfl) A1_1 p1_1 x1.Unsure _ v1_1 (hs.hasD (k := 4) rfl) _ h15) ?_
      rintro _ w ⟨rfl, hG⟩ a hk
      have hs := hs.call0 hG
      refine sv (.bool y14) hk rfl rfl rfl fun a hk => ?_
      refine sa _ rfl hk rfl rfl rfl fun a hk => ?_
      show wpList _ _ _ [] _ _
      refine wpList_nil ?_
      obtain rfl := Option.some.inj H
      show R10 _ _
      rw [hR10]
      exact ⟨y14, rfl, (hk.c 4 rfl hk.k), (hs.pick [] rfl)⟩
    · have hk := hk.lit 10 c13 rfl
      refine sk hk rfl rfl rfl fun a hk => ?_
      refine sk hk rfl rfl rfl fun a hk => ?_
      refine sk hk rfl rfl rfl fun a hk => ?_
      refine sk hk rfl rfl rfl fun a hk => ?_
      refine sk hk rfl rfl rfl fun a hk => ?_
      refine sv (.bool false) hk rfl rfl rfl fun a hk => ?_
      refine sa _ rfl hk rfl rfl rfl fun a hk => ?_
      show wpList _ _ _ [] _ _
      refine wpList_nil ?_
      obtain rfl := Option.some.inj H
      show R10 _ _
      rw [hR10]
      exact ⟨false, rfl, (hk.c 4 rfl hk.k), (hs.pick [] rfl)⟩
  · intro a w hR0
    rw [hR10] at hR0
    obtain ⟨u6, rfl, hk, hs⟩ := hR0
    have H := HL9
    try dsimp only at H
    refine hK4 _ _ ?_
    refine wp_ret ?_
    obtain rfl := Option.some.inj H
    exact fin hk _ [(.bool u6)] rfl ⟨rfl, trivial⟩ ⟨rfl, (hs.pick [] rfl).dnil⟩

noncomputable def impl_SameStore.f (x0 : S_Store) (x1 : S_Store) : Option (Bool) :=
  (((bif (x0.Key.toList == x1.Key.toList) then (bif ((x0.Reg.Epoch == x1.Reg.Epoch) && ((x0.Reg.Side == x1.Reg.Side) && ((x0.Reg.Count == x1.Reg.Count) && ((x0.Reg.Boot == x1.Reg.Boot) && ((x0.Reg.Base.toList == x1.Reg.Base.toList) && ((x0.Reg.Tip.toList == x1.Reg.Tip.toList) && ((x0.Reg.Root.toList == x1.Reg.Root.toList) && true))))))) then (bif (x0.Up == x1.Up) then (bif (x0.Dead == x1.Dead) then ((impl_SameDevice.f x0.Device x1.Device).bind fun y15 => (some y15)) else (some false)) else (some false)) else (some false)) else (some false)) : Option (Bool)).bind fun u6 => (some u6))
set_option maxRecDepth 100000 in
set_option maxHeartbeats 0 in
theorem impl_SameStore_t (w0 : World) (x0 : S_Store) (A0_0 : Option Addr) (p0_0 : Nat) (k0_0 : Chunk) (v0_0 : View Lay.str A0_0 p0_0 x0.Device.Sure k0_0) (w0_0 : Has w0 k0_0) (A0_1 : Option Addr) (p0_1 : Nat) (k0_1 : Chunk) (v0_1 : View L_Io A0_1 p0_1 x0.Device.Unsure k0_1) (w0_1 : Has w0 k0_1) (x1 : S_Store) (A1_0 : Option Addr) (p1_0 : Nat) (k1_0 : Chunk) (v1_0 : View Lay.str A1_0 p1_0 x1.Device.Sure k1_0) (w1_0 : Has w0 k1_0) (A1_1 : Option Addr) (p1_1 : Nat) (k1_1 : Chunk) (v1_1 : View L_Io A1_1 p1_1 x1.Device.Unsure k1_1) (w1_1 : Has w0 k1_1) (r : Bool) (H : impl_SameStore.f x0 x1 = some r) :
    Calls Try.prog 14 #[.agg #[.string x0.Key, .int .i64 x0.Reg.Epoch, .int .i64 x0.Reg.Side, .int .i64 x0.Reg.Count, .int .i64 x0.Reg.Boot, .string x0.Reg.Base, .string x0.Reg.Tip, .string x0.Reg.Root, .slice A0_0 x0.Device.Sure.length p0_0, .slice A0_1 x0.Device.Unsure.length p0_1, .bool x0.Up, .bool x0.Dead], .agg #[.string x1.Key, .int .i64 x1.Reg.Epoch, .int .i64 x1.Reg.Side, .int .i64 x1.Reg.Count, .int .i64 x1.Reg.Boot, .string x1.Reg.Base, .string x1.Reg.Tip, .string x1.Reg.Root, .slice A1_0 x1.Device.Sure.length p1_0, .slice A1_1 x1.Device.Unsure.length p1_1, .bool x1.Up, .bool x1.Dead]] w0 (Ret (fun v w => v = .bool r ∧ Sat [] w0 w [] [])) := by
  have hs : Sat [] w0 w0 [(1, k0_0), (2, k0_1), (3, k1_0), (4, k1_1)] [] := Sat.init w0 [(1, k0_0), (2, k0_1), (3, k1_0), (4, k1_1)] [] (by simp only [List.mem_cons, List.not_mem_nil, or_false]; rintro x (rfl | rfl | rfl | rfl) <;> assumption) (by simp) List.nodup_nil (by simp [blks])
  unfold impl_SameStore.f at H
  refine enter Try.func14 rfl Try.ntmps14 rfl fun a hk => ?_
  apply wp_seq_k; intro K1 hK1
  apply wp_region_lit
  refine sbx 5 hs rfl hk rfl rfl rfl rfl fun b2 w a hk hs => ?_
  refine sbx 6 hs rfl hk rfl rfl rfl rfl fun b3 w a hk hs => ?_
  refine sa _ rfl hk rfl rfl rfl fun a hk => ?_
  show wpList _ _ _ [] _ _
  refine wpList_nil ?_
  refine hK1 _ _ ?_
  apply wp_seq_k; intro K4 hK4
  obtain ⟨o7, h8, HL9⟩ := bind_some H
  clear H
  obtain ⟨R10, hR10⟩ : ∃ R : Act → World → Prop, R = fun a w => ∃ (u6 : Bool), u6 = o7 ∧ Kn [(4, (.bool u6))] 38 a ∧ Sat [] w0 w [(1, k0_0), (2, k0_1), (3, k1_0), (4, k1_1)] [] := ⟨_, rfl⟩
  refine wp_cutq R10 ?_ ?_
  · have H := h8
    apply wp_region_lit
    refine sf ⟨b2, 0, none⟩ rfl hk rfl rfl rfl fd37_0 rfl fun a hk => ?_
    refine sl rfl hk rfl rfl rfl ag9 (box_cell hs (k := 5) rfl rfl) fun a hk => ?_
    refine sf ⟨b3, 0, none⟩ rfl hk rfl rfl rfl fd37_0 rfl fun a hk => ?_
    refine sl rfl hk rfl rfl rfl ag9 (box_cell hs (k := 6) rfl rfl) fun a hk => ?_
    refine sv (.bool (x0.Key.toList == x1.Key.toList)) hk rfl rfl rfl fun a hk => ?_
    refine sm _ rfl hk rfl rfl rfl fun a hk => ?_
    rcases cond_some H with ⟨c11, H⟩ | ⟨c11, H⟩
    · have hk := hk.lit 10 c11 rfl
      refine sf ⟨b2, 1, none⟩ rfl hk rfl rfl rfl fd37_1 rfl fun a hk => ?_
      refine sln [.int .i64 x0.Reg.Epoch, .int .i64 x0.Reg.Side, .int .i64 x0.Reg.Count, .int .i64 x0.Reg.Boot, .string x0.Reg.Base, .string x0.Reg.Tip, .string x0.Reg.Root] rfl hk rfl rfl rfl ag32 sz32 (box_part hs (k := 5) rfl rfl) fun a hk => ?_
      refine sf ⟨b3, 1, none⟩ rfl hk rfl rfl rfl fd37_1 rfl fun a hk => ?_
      refine sln [.int .i64 x1.Reg.Epoch, .int .i64 x1.Reg.Side, .int .i64 x1.Reg.Count, .int .i64 x1.Reg.Boot, .string x1.Reg.Base, .string x1.Reg.Tip, .string x1.Reg.Root] rfl hk rfl rfl rfl ag32 sz32 (box_part hs (k := 6) rfl rfl) fun a hk => ?_
      refine seqa (r := ((x0.Reg.Epoch == x1.Reg.Epoch) && ((x0.Reg.Side == x1.Reg.Side) && ((x0.Reg.Count == x1.Reg.Count) && ((x0.Reg.Boot == x1.Reg.Boot) && ((x0.Reg.Base.toList == x1.Reg.Base.toList) && ((x0.Reg.Tip.toList == x1.Reg.Tip.toList) && ((x0.Reg.Root.toList == x1.Reg.Root.toList) && true)))))))) rfl hk rfl rfl rfl rfl eg32 (eq_agg Try.underlying32 sh32 (eqf_cons rfl ag3 rfl rfl (run_equalIn_int _ _ _ _ _ _ _ un3) (eqf_cons rfl ag3 rfl rfl (run_equalIn_int _ _ _ _ _ _ _ un3) (eqf_cons rfl ag3 rfl rfl (run_equalIn_int _ _ _ _ _ _ _ un3) (eqf_cons rfl ag3 rfl rfl (run_equalIn_int _ _ _ _ _ _ _ un3) (eqf_cons rfl ag9 rfl rfl (run_equalIn_string _ _ _ _ _ un9) (eqf_cons rfl ag9 rfl rfl (run_equalIn_string _ _ _ _ _ un9) (eqf_cons rfl ag9 rfl rfl (run_equalIn_string _ _ _ _ _ un9) eqf_nil)))))))) fun a hk => ?_
      refine sv (.bool ((x0.Reg.Epoch == x1.Reg.Epoch) && ((x0.Reg.Side == x1.Reg.Side) && ((x0.Reg.Count == x1.Reg.Count) && ((x0.Reg.Boot == x1.Reg.Boot) && ((x0.Reg.Base.toList == x1.Reg.Base.toList) && ((x0.Reg.Tip.toList == x1.Reg.Tip.toList) && ((x0.Reg.Root.toList == x1.Reg.Root.toList) && true)))))))) hk rfl rfl rfl fun a hk => ?_
      refine sm _ rfl hk rfl rfl rfl fun a hk => ?_
      rcases cond_some H with ⟨c12, H⟩ | ⟨c12, H⟩
      · have hk := hk.lit 17 c12 rfl
        refine sf ⟨b2, 10, none⟩ rfl hk rfl rfl rfl fd37_3 rfl fun a hk => ?_
        refine sl rfl hk rfl rfl rfl ag4 (box_cell hs (k := 5) rfl rfl) fun a hk => ?_
        refine sf ⟨b3, 10, none⟩ rfl hk rfl rfl rfl fd37_3 rfl fun a hk => ?_
        refine sl rfl hk rfl rfl rfl ag4 (box_cell hs (k := 6) rfl rfl) fun a hk => ?_
        refine sbe rfl hk rfl rfl rfl rfl un4 fun a hk => ?_
        refine sv (.bool (x0.Up == x1.Up)) hk rfl rfl rfl fun a hk => ?_
        refine sm _ rfl hk rfl rfl rfl fun a hk => ?_
        rcases cond_some H with ⟨c13, H⟩ | ⟨c13, H⟩
        · have hk := hk.lit 24 c13 rfl
          refine sf ⟨b2, 11, none⟩ rfl hk rfl rfl rfl fd37_4 rfl fun a hk => ?_
          refine sl rfl hk rfl rfl rfl ag4 (box_cell hs (k := 5) rfl rfl) fun a hk => ?_
          refine sf ⟨b3, 11, none⟩ rfl hk rfl rfl rfl fd37_4 rfl fun a hk => ?_
          refine sl rfl hk rfl rfl rfl ag4 (box_cell hs (k := 6) rfl rfl) fun a hk => ?_
          refine sbe rfl hk rfl rfl rfl rfl un4 fun a hk => ?_
          refine sv (.bool (x0.Dead == x1.Dead)) hk rfl rfl rfl fun a hk => ?_
          refine sm _ rfl hk rfl rfl rfl fun a hk => ?_
          rcases cond_some H with ⟨c14, H⟩ | ⟨c14, H⟩
          · have hk := hk.lit 31 c14 rfl
            refine sf ⟨b2, 8, none⟩ rfl hk rfl rfl rfl fd37_2 rfl fun a hk => ?_
            refine sln [.slice A0_0 x0.Device.Sure.length p0_0, .slice A0_1 x0.Device.Unsure.length p0_1] rfl hk rfl rfl rfl ag35 sz35 (box_part hs (k := 5) rfl rfl) fun a hk => ?_
            refine sf ⟨b3, 8, none⟩ rfl hk rfl rfl rfl fd37_2 rfl fun a hk => ?_
            refine sln [.slice A1_0 x1.Device.Sure.length p1_0, .slice A1_1 x1.Device.Unsure.length p1_1] rfl hk rfl rfl rfl ag35 sz35 (box_part hs (k := 6) rfl rfl) fun a hk => ?_
            obtain ⟨y15, h16, H⟩ := bind_some H
            refine sc rfl en46 hk rfl rfl rfl (impl_SameDevice_t _ x0.Device A0_0 p0_0 _ v0_0 (hs.hasD (k := 1) rfl) A0_1 p0_1 _ v0_1 (hs.hasD (k := 2) rfl) x1.Device A1_0 p1_0 _ v1_0 (hs.hasD (k := 3) rfl) A1_1 p1_1 _ v1_1 (hs.hasD (k := 4) rfl) _ h16) ?_
            rintro _ w ⟨rfl, hG⟩ a hk
            have hs := hs.call0 hG
            refine sv (.bool y15) hk rfl rfl rfl fun a hk => ?_
            refine sa _ rfl hk rfl rfl rfl fun a hk => ?_
            show wpList _ _ _ [] _ _
            refine wpList_nil ?_
            obtain rfl := Option.some.inj H
            show R10 _ _
            rw [hR10]
            exact ⟨y15, rfl, (hk.c 4 rfl hk.k), (hs.pick [] rfl)⟩
          · have hk := hk.lit 31 c14 rfl
            refine sk hk rfl rfl rfl fun a hk => ?_
            refine sk hk rfl rfl rfl fun a hk => ?_
            refine sk hk rfl rfl rfl fun a hk => ?_
            refine sk hk rfl rfl rfl fun a hk => ?_
            refine sk hk rfl rfl rfl fun a hk => ?_
            refine sv (.bool false) hk rfl rfl rfl fun a hk => ?_
            refine sa _ rfl hk rfl rfl rfl fun a hk => ?_
            show wpList _ _ _ [] _ _
            refine wpList_nil ?_
            obtain rfl := Option.some.inj H
            show R10 _ _
            rw [hR10]
            exact ⟨false, rfl, (hk.c 4 rfl hk.k), (hs.pick [] rfl)⟩
        · have hk := hk.lit 24 c13 rfl
          refine sk hk rfl rfl rfl fun a hk => ?_
          refine sk hk rfl rfl rfl fun a hk => ?_
          refine sk hk rfl rfl rfl fun a hk => ?_
          refine sk hk rfl rfl rfl fun a hk => ?_
          refine sk hk rfl rfl rfl fun a hk => ?_
          refine sv (.bool false) hk rfl rfl rfl fun a hk => ?_
          refine sm _ rfl hk rfl rfl rfl fun a hk => ?_
          refine sk hk rfl rfl rfl fun a hk => ?_
          refine sk hk rfl rfl rfl fun a hk => ?_
          refine sk hk rfl rfl rfl fun a hk => ?_
          refine sk hk rfl rfl rfl fun a hk => ?_
          refine sk hk rfl rfl rfl fun a hk => ?_
          refine sv (.bool false) hk rfl rfl rfl fun a hk => ?_
          refine sa _ rfl hk rfl rfl rfl fun a hk => ?_
          show wpList _ _ _ [] _ _
          refine wpList_nil ?_
          obtain rfl := Option.some.inj H
          show R10 _ _
          rw [hR10]
          exact ⟨false, rfl, (hk.c 4 rfl hk.k), (hs.pick [] rfl)⟩
      · have hk := hk.lit 17 c12 rfl
        refine sk hk rfl rfl rfl fun a hk => ?_
        refine sk hk rfl rfl rfl fun a hk => ?_
        refine sk hk rfl rfl rfl fun a hk => ?_
        refine sk hk rfl rfl rfl fun a hk => ?_
        refine sk hk rfl rfl rfl fun a hk => ?_
        refine sv (.bool false) hk rfl rfl rfl fun a hk => ?_
        refine sm _ rfl hk rfl rfl rfl fun a hk => ?_
        refine sk hk rfl rfl rfl fun a hk => ?_
        refine sk hk rfl rfl rfl fun a hk => ?_
        refine sk hk rfl rfl rfl fun a hk => ?_
        refine sk hk rfl rfl rfl fun a hk => ?_
        refine sk hk rfl rfl rfl fun a hk => ?_
        refine sv (.bool false) hk rfl rfl rfl fun a hk => ?_
        refine sm _ rfl hk rfl rfl rfl fun a hk => ?_
        refine sk hk rfl rfl rfl fun a hk => ?_
        refine sk hk rfl rfl rfl fun a hk => ?_
        refine sk hk rfl rfl rfl fun a hk => ?_
        refine sk hk rfl rfl rfl fun a hk => ?_
        refine sk hk rfl rfl rfl fun a hk => ?_
        refine sv (.bool false) hk rfl rfl rfl fun a hk => ?_
        refine sa _ rfl hk rfl rfl rfl fun a hk => ?_
        show wpList _ _ _ [] _ _
        refine wpList_nil ?_
        obtain rfl := Option.some.inj H
        show R10 _ _
        rw [hR10]
        exact ⟨false, rfl, (hk.c 4 rfl hk.k), (hs.pick [] rfl)⟩
    · have hk := hk.lit 10 c11 rfl
      refine sk hk rfl rfl rfl fun a hk => ?_
      refine sk hk rfl rfl rfl fun a hk => ?_
      refine sk hk rfl rfl rfl fun a hk => ?_
      refine sk hk rfl rfl rfl fun a hk => ?_
      refine sk hk rfl rfl rfl fun a hk => ?_
      refine sv (.bool false) hk rfl rfl rfl fun a hk => ?_
      refine sm _ rfl hk rfl rfl rfl fun a hk => ?_
      refine sk hk rfl rfl rfl fun a hk => ?_
      refine sk hk rfl rfl rfl fun a hk => ?_
      refine sk hk rfl rfl rfl fun a hk => ?_
      refine sk hk rfl rfl rfl fun a hk => ?_
      refine sk hk rfl rfl rfl fun a hk => ?_
      refine sv (.bool false) hk rfl rfl rfl fun a hk => ?_
      refine sm _ rfl hk rfl rfl rfl fun a hk => ?_
      refine sk hk rfl rfl rfl fun a hk => ?_
      refine sk hk rfl rfl rfl fun a hk => ?_
      refine sk hk rfl rfl rfl fun a hk => ?_
      refine sk hk rfl rfl rfl fun a hk => ?_
      refine sk hk rfl rfl rfl fun a hk => ?_
      refine sv (.bool false) hk rfl rfl rfl fun a hk => ?_
      refine sm _ rfl hk rfl rfl rfl fun a hk => ?_
      refine sk hk rfl rfl rfl fun a hk => ?_
      refine sk hk rfl rfl rfl fun a hk => ?_
      refine sk hk rfl rfl rfl fun a hk => ?_
      refine sk hk rfl rfl rfl fun a hk => ?_
      refine sk hk rfl rfl rfl fun a hk => ?_
      refine sv (.bool false) hk rfl rfl rfl fun a hk => ?_
      refine sa _ rfl hk rfl rfl rfl fun a hk => ?_
      show wpList _ _ _ [] _ _
      refine wpList_nil ?_
      obtain rfl := Option.some.inj H
      show R10 _ _
      rw [hR10]
      exact ⟨false, rfl, (hk.c 4 rfl hk.k), (hs.pick [] rfl)⟩
  · intro a w hR0
    rw [hR10] at hR0
    obtain ⟨u6, rfl, hk, hs⟩ := hR0
    have H := HL9
    try dsimp only at H
    refine hK4 _ _ ?_
    refine wp_ret ?_
    obtain rfl := Option.some.inj H
    exact fin hk _ [(.bool u6)] rfl ⟨rfl, trivial⟩ ⟨rfl, (hs.pick [] rfl).dnil⟩

noncomputable def laws_eqStringS.s0 (l0 : List ByteArray) (l1 : List ByteArray) (u10 : Int) : Option ((Int) ⊕ Ex (Unit) (Bool)) :=
  (bif (decide (u10 < (l0.length : Int))) then (if 0 ≤ u10 ∧ u10 < (l0.length : Int) then (if 0 ≤ u10 ∧ u10 < (l1.length : Int) then (bif (!((l0.getD u10.toNat ByteArray.empty).toList == (l1.getD u10.toNat ByteArray.empty).toList)) then (some (.inr (.ret false))) else (some (.inl (w64 (u10 + 1))))) else none) else none) else (some (.inr (.out ()))))
noncomputable def laws_eqStringS.f (l0 : List ByteArray) (l1 : List ByteArray) : Option (Bool) :=
  (bif ((l0.length : Int) != (l1.length : Int)) then (some false) else ((loopO (fun s => laws_eqStringS.s0 l0 l1 s) 0).bind fun o => match o with | .out _ => (some true) | .ret r => (some r)))
set_option maxRecDepth 100000 in
set_option maxHeartbeats 0 in
theorem laws_eqStringS_t (w0 : World) (A0_ : Option Addr) (p0_ : Nat) (l0 : List ByteArray) (k0_ : Chunk) (v0_ : View Lay.str A0_ p0_ l0 k0_) (w0_ : Has w0 k0_) (A1_ : Option Addr) (p1_ : Nat) (l1 : List ByteArray) (k1_ : Chunk) (v1_ : View Lay.str A1_ p1_ l1 k1_) (w1_ : Has w0 k1_) (r : Bool) (H : laws_eqStringS.f l0 l1 = some r) :
    Calls Try.prog 81 #[.slice A0_ l0.length p0_, .slice A1_ l1.length p1_] w0 (Ret (fun v w => v = .bool r ∧ Sat [] w0 w [] [])) := by
  have hs : Sat [] w0 w0 [(1, k0_), (2, k1_)] [] := Sat.init w0 [(1, k0_), (2, k1_)] [] (by simp only [List.mem_cons, List.not_mem_nil, or_false]; rintro x (rfl | rfl) <;> assumption) (by simp) List.nodup_nil (by simp [blks])
  unfold laws_eqStringS.f at H
  refine enter Try.func81 rfl Try.ntmps81 rfl fun a hk => ?_
  apply wp_seq_k; intro K1 hK1
  apply wp_region_lit
  refine sa _ rfl hk rfl rfl rfl fun a hk => ?_
  show wpList _ _ _ [] _ _
  refine wpList_nil ?_
  refine hK1 _ _ ?_
  apply wp_seq_k; intro K2 hK2
  apply wp_seq_k; intro K3 hK3
  apply wp_region_lit
  refine sm _ rfl hk rfl rfl rfl fun a hk => ?_
  refine sle rfl hk rfl rfl rfl un24 fun a hk => ?_
  refine sm _ rfl hk rfl rfl rfl fun a hk => ?_
  refine sle rfl hk rfl rfl rfl un24 fun a hk => ?_
  refine sv (.bool ((l0.length : Int) != (l1.length : Int))) hk rfl rfl rfl fun a hk => ?_
  show wpList _ _ _ [] _ _
  refine wpList_nil ?_
  refine hK3 _ _ ?_
  rcases cond_some H with ⟨c4, H⟩ | ⟨c4, H⟩
  · have hk := hk.lit 10 c4 rfl
    refine cnd_true hk rfl rfl ?_
    apply wp_seq_k; intro K5 hK5
    apply wp_region_lit
    refine sa _ rfl hk rfl rfl rfl fun a hk => ?_
    show wpList _ _ _ [] _ _
    refine wpList_nil ?_
    refine hK5 _ _ ?_
    refine wp_ret ?_
    obtain rfl := Option.some.inj H
    exact fin hk _ [(.bool false)] rfl ⟨rfl, trivial⟩ ⟨rfl, (hs.pick [] rfl).dnil⟩
  · have hk := hk.lit 10 c4 rfl
    refine cnd_false hk rfl rfl ?_
    refine wp_skip ?_
    refine hK2 _ _ ?_
    apply wp_seq_k; intro K6 hK6
    apply wp_seq_k; intro K7 hK7
    apply wp_region_lit
    refine sa _ rfl hk rfl rfl rfl fun a hk => ?_
    show wpList _ _ _ [] _ _
    refine wpList_nil ?_
    refine hK7 _ _ ?_
    obtain ⟨o11, h12, HL13⟩ := bind_some H
    clear H
    obtain ⟨R14, hR14⟩ : ∃ R : Act → World → Prop, R = fun a w => o11 = .out () ∧ Kn [] 26 a ∧ Sat [] w0 w [(1, k0_), (2, k1_)] [] := ⟨_, rfl⟩
    refine wp_cutq R14 ?_ ?_
    · refine wp_block ?_
      obtain ⟨fu16, h12⟩ := loopO_some h12
      obtain ⟨I15, hI15⟩ : ∃ I : Nat → Act → World → Prop, I = fun fu a w => ∃ (u10 : Int), loopN (fun s => laws_eqStringS.s0 l0 l1 s) fu u10 = some o11 ∧ Kn [(0, (.slice A0_ l0.length p0_)), (1, (.slice A1_ l1.length p1_)), (5, (.int .i64 u10))] 26 a ∧ Sat [] w0 w [(1, k0_), (2, k1_)] [] := ⟨_, rfl⟩
      refine wp_loop_ghost I15 fu16 ?_ ?_
      · rw [hI15]
        exact ⟨0, h12, (hk.c 0 rfl (hk.c 1 rfl (hk.c 5 rfl hk.k))), (hs.pick [] rfl)⟩
      · clear h12 hk hs
        intro fu16 a w hI0
        rw [hI15] at hI0
        obtain ⟨u10, hi, hk, hs⟩ := hI0
        obtain ⟨x17, H, h18⟩ := loop_round hi
        try dsimp only at H
        unfold laws_eqStringS.s0 at H
        apply wp_seq_k; intro K19 hK19
        apply wp_seq_k; intro K20 hK20
        apply wp_region_lit
        refine sm _ rfl hk rfl rfl rfl fun a hk => ?_
        refine sm _ rfl hk rfl rfl rfl fun a hk => ?_
        refine sle rfl hk rfl rfl rfl un24 fun a hk => ?_
        refine sv (.bool (decide (u10 < (l0.length : Int)))) hk rfl rfl rfl fun a hk => ?_
        show wpList _ _ _ [] _ _
        refine wpList_nil ?_
        refine hK20 _ _ ?_
        rcases cond_some H with ⟨c21, H⟩ | ⟨c21, H⟩
        · have hk := hk.lit 14 c21 rfl
          refine cnd_true hk rfl rfl ?_
          refine wp_skip ?_
          refine hK19 _ _ ?_
          apply wp_seq_k; intro K22 hK22
          refine wp_block ?_
          apply wp_seq_k; intro K23 hK23
          refine wp_region_mix [(0, true), (1, true), (2, true), (3, true), (4, true), (5, true), (6, true), (7, true), (8, true)] mo (by kernel_rfl) hs fun _ => ?_
          have hs := hs.drew
          refine qst (.slice A0_ l0.length p0_) hk rfl rfl rfl rfl (fun w hs => sm _ rfl hk rfl rfl rfl fun a hk => qe hk) fun a hk => ?_
          refine qst (.int .i64 u10) hk rfl rfl rfl rfl (fun w hs => sm _ rfl hk rfl rfl rfl fun a hk => qe hk) fun a hk => ?_
          rcases ite_some H with ⟨c24, H⟩ | ⟨_, H⟩
          rotate_left
          · cases H
          obtain ⟨b25, q26, hAc24⟩ := (v0_).some_ u10 c24.1 c24.2
          refine qst (.pointer (some (padd A0_ (u10.toNat * 1)))) hk rfl rfl rfl rfl (fun w hs => si rfl hk rfl rfl rfl rfl un24 sz9 c24.1 c24.2 hAc24 fun a hk => qe hk) fun a hk => ?_
          obtain ⟨_, rfl, e27⟩ := (v0_).at_ ByteArray.empty u10 c24.1 c24.2
          refine qst (.string (l0.getD u10.toNat ByteArray.empty)) hk rfl rfl rfl rfl (fun w hs => sl (v := (.string (l0.getD u10.toNat ByteArray.empty))) rfl hk rfl rfl rfl ag9 ((e27 0 _ rfl).cell (hs.hasD (k := 1) rfl)) fun a hk => qe hk) fun a hk => ?_
          refine qst (.slice A1_ l1.length p1_) hk rfl rfl rfl rfl (fun w hs => sm _ rfl hk rfl rfl rfl fun a hk => qe hk) fun a hk => ?_
          refine qst (.int .i64 u10) hk rfl rfl rfl rfl (fun w hs => sm _ rfl hk rfl rfl rfl fun a hk => qe hk) fun a hk => ?_
          rcases ite_some H with ⟨c28, H⟩ | ⟨_, H⟩
          rotate_left
          · cases H
          obtain ⟨b29, q30, hAc28⟩ := (v1_).some_ u10 c28.1 c28.2
          refine qst (.pointer (some (padd A1_ (u10.toNat * 1)))) hk rfl rfl rfl rfl (fun w hs => si rfl hk rfl rfl rfl rfl un24 sz9 c28.1 c28.2 hAc28 fun a hk => qe hk) fun a hk => ?_
          obtain ⟨_, rfl, e31⟩ := (v1_).at_ ByteArray.empty u10 c28.1 c28.2
          refine qst (.string (l1.getD u10.toNat ByteArray.empty)) hk rfl rfl rfl rfl (fun w hs => sl (v := (.string (l1.getD u10.toNat ByteArray.empty))) rfl hk rfl rfl rfl ag9 ((e31 0 _ rfl).cell (hs.hasD (k := 2) rfl)) fun a hk => qe hk) fun a hk => ?_
          refine qst (.bool (!((l0.getD u10.toNat ByteArray.empty).toList == (l1.getD u10.toNat ByteArray.empty).toList))) hk rfl rfl rfl rfl (fun w hs => sv (.bool (!((l0.getD u10.toNat ByteArray.empty).toList == (l1.getD u10.toNat ByteArray.empty).toList))) hk rfl rfl rfl fun a hk => qe hk) fun a hk => ?_
          refine wml_nil fun w hF _ => ?_
          have hs := hs.f hF
          refine hK23 _ _ ?_
          rcases cond_some H with ⟨c32, H⟩ | ⟨c32, H⟩
          · have hk := hk.lit 25 c32 rfl
            refine cnd_true hk rfl rfl ?_
            apply wp_seq_k; intro K33 hK33
            apply wp_region_lit
            refine sa _ rfl hk rfl rfl rfl fun a hk => ?_
            show wpList _ _ _ [] _ _
            refine wpList_nil ?_
            refine hK33 _ _ ?_
            refine wp_ret ?_
            obtain rfl := Option.some.inj H
            have ho11 := h18
            try dsimp only at ho11
            subst ho11
            have H := HL13
            try dsimp only at H
            obtain rfl := Option.some.inj H
            exact fin hk _ [(.bool false)] rfl ⟨rfl, trivial⟩ ⟨rfl, (hs.pick [] rfl).dnil⟩
          · have hk := hk.lit 25 c32 rfl
            refine cnd_false hk rfl rfl ?_
            refine wp_skip ?_
            refine hK22 _ _ ?_
            apply wp_region_lit
            refine sm _ rfl hk rfl rfl rfl fun a hk => ?_
            refine sv (.int .i64 (w64 (u10 + 1))) hk rfl rfl rfl fun a hk => ?_
            refine sa _ rfl hk rfl rfl rfl fun a hk => ?_
            show wpList _ _ _ [] _ _
            refine wpList_nil ?_
            obtain rfl := Option.some.inj H
            obtain ⟨m34, hmm34, h18⟩ := h18
            show ∃ n', n' < _ ∧ I15 n' _ _
            refine ⟨m34, hmm34, ?_⟩
            rw [hI15]
            exact ⟨(w64 (u10 + 1)), h18, (hk.c 0 rfl (hk.c 1 rfl (hk.c 5 rfl hk.k))), (hs.pick [] rfl)⟩
        · have hk := hk.lit 14 c21 rfl
          refine cnd_false hk rfl rfl ?_
          refine wp_exit ?_
          obtain rfl := Option.some.inj H
          show R14 _ _
          rw [hR14]
          exact ⟨h18.symm, hk.k, (hs.pick [] rfl)⟩
    · intro a w hR0
      rw [hR14] at hR0
      obtain ⟨rfl, hk, hs⟩ := hR0
      have H := HL13
      try dsimp only at H
      refine hK6 _ _ ?_
      apply wp_seq_k; intro K35 hK35
      apply wp_region_lit
      refine sa _ rfl hk rfl rfl rfl fun a hk => ?_
      show wpList _ _ _ [] _ _
      refine wpList_nil ?_
      refine hK35 _ _ ?_
      refine wp_ret ?_
      obtain rfl := Option.some.inj H
      exact fin hk _ [(.bool true)] rfl ⟨rfl, trivial⟩ ⟨rfl, (hs.pick [] rfl).dnil⟩

noncomputable def laws_eqIo.f (x0 : S_Io) (x1 : S_Io) : Option (Bool) :=
  (bif (x0.At != x1.At) then (some false) else (bif (!(x0.Data.toList == x1.Data.toList)) then (some false) else (some true)))
set_option maxRecDepth 100000 in
set_option maxHeartbeats 0 in
theorem laws_eqIo_t (w0 : World) (x0 : S_Io) (x1 : S_Io) (r : Bool) (H : laws_eqIo.f x0 x1 = some r) :
    Calls Try.prog 120 #[.agg #[.int .i64 x0.At, .string x0.Data], .agg #[.int .i64 x1.At, .string x1.Data]] w0 (Ret (fun v w => v = .bool r ∧ Sat [] w0 w [] [])) := by
  have hs : Sat [] w0 w0 [] [] := Sat.init w0 [] [] (by simp) (by simp) List.nodup_nil (by simp [blks])
  unfold laws_eqIo.f at H
  refine enter Try.func120 rfl Try.ntmps120 rfl fun a hk => ?_
  apply wp_seq_k; intro K1 hK1
  apply wp_region_lit
  refine sbx 1 hs rfl hk rfl rfl rfl rfl fun b2 w a hk hs => ?_
  refine sbx 2 hs rfl hk rfl rfl rfl rfl fun b3 w a hk hs => ?_
  refine sa _ rfl hk rfl rfl rfl fun a hk => ?_
  show wpList _ _ _ [] _ _
  refine wpList_nil ?_
  refine hK1 _ _ ?_
  apply wp_seq_k; intro K4 hK4
  apply wp_seq_k; intro K5 hK5
  apply wp_region_lit
  refine sf ⟨b2, 0, none⟩ rfl hk rfl rfl rfl fd114_0 rfl fun a hk => ?_
  refine sl rfl hk rfl rfl rfl ag3 (box_cell hs (k := 1) rfl rfl) fun a hk => ?_
  refine sf ⟨b3, 0, none⟩ rfl hk rfl rfl rfl fd114_0 rfl fun a hk => ?_
  refine sl rfl hk rfl rfl rfl ag3 (box_cell hs (k := 2) rfl rfl) fun a hk => ?_
  refine sv (.bool (x0.At != x1.At)) hk rfl rfl rfl fun a hk => ?_
  show wpList _ _ _ [] _ _
  refine wpList_nil ?_
  refine hK5 _ _ ?_
  rcases cond_some H with ⟨c6, H⟩ | ⟨c6, H⟩
  · have hk := hk.lit 9 c6 rfl
    refine cnd_true hk rfl rfl ?_
    apply wp_seq_k; intro K7 hK7
    apply wp_region_lit
    refine sa _ rfl hk rfl rfl rfl fun a hk => ?_
    show wpList _ _ _ [] _ _
    refine wpList_nil ?_
    refine hK7 _ _ ?_
    refine wp_ret ?_
    obtain rfl := Option.some.inj H
    exact fin hk _ [(.bool false)] rfl ⟨rfl, trivial⟩ ⟨rfl, (hs.pick [] rfl).dnil⟩
  · have hk := hk.lit 9 c6 rfl
    refine cnd_false hk rfl rfl ?_
    refine wp_skip ?_
    refine hK4 _ _ ?_
    apply wp_seq_k; intro K8 hK8
    apply wp_seq_k; intro K9 hK9
    apply wp_region_lit
    refine sf ⟨b2, 1, none⟩ rfl hk rfl rfl rfl fd114_1 rfl fun a hk => ?_
    refine sl rfl hk rfl rfl rfl ag9 (box_cell hs (k := 1) rfl rfl) fun a hk => ?_
    refine sf ⟨b3, 1, none⟩ rfl hk rfl rfl rfl fd114_1 rfl fun a hk => ?_
    refine sl rfl hk rfl rfl rfl ag9 (box_cell hs (k := 2) rfl rfl) fun a hk => ?_
    refine sv (.bool (!(x0.Data.toList == x1.Data.toList))) hk rfl rfl rfl fun a hk => ?_
    show wpList _ _ _ [] _ _
    refine wpList_nil ?_
    refine hK9 _ _ ?_
    rcases cond_some H with ⟨c10, H⟩ | ⟨c10, H⟩
    · have hk := hk.lit 14 c10 rfl
      refine cnd_true hk rfl rfl ?_
      apply wp_seq_k; intro K11 hK11
      apply wp_region_lit
      refine sa _ rfl hk rfl rfl rfl fun a hk => ?_
      show wpList _ _ _ [] _ _
      refine wpList_nil ?_
      refine hK11 _ _ ?_
      refine wp_ret ?_
      obtain rfl := Option.some.inj H
      exact fin hk _ [(.bool false)] rfl ⟨rfl, trivial⟩ ⟨rfl, (hs.pick [] rfl).dnil⟩
    · have hk := hk.lit 14 c10 rfl
      refine cnd_false hk rfl rfl ?_
      refine wp_skip ?_
      refine hK8 _ _ ?_
      apply wp_seq_k; intro K12 hK12
      apply wp_region_lit
      refine sa _ rfl hk rfl rfl rfl fun a hk => ?_
      show wpList _ _ _ [] _ _
      refine wpList_nil ?_
      refine hK12 _ _ ?_
      refine wp_ret ?_
      obtain rfl := Option.some.inj H
      exact fin hk _ [(.bool true)] rfl ⟨rfl, trivial⟩ ⟨rfl, (hs.pick [] rfl).dnil⟩

noncomputable def laws_eqIoS.s0 (l0 : List S_Io) (l1 : List S_Io) (u10 : Int) : Option ((Int) ⊕ Ex (Unit) (Bool)) :=
  (bif (decide (u10 < (l0.length : Int))) then (if 0 ≤ u10 ∧ u10 < (l0.length : Int) then (if 0 ≤ u10 ∧ u10 < (l1.length : Int) then ((laws_eqIo.f (l0.getD u10.toNat z_Io) (l1.getD u10.toNat z_Io)).bind fun y32 => (bif (!y32) then (some (.inr (.ret false))) else (some (.inl (w64 (u10 + 1)))))) else none) else none) else (some (.inr (.out ()))))
noncomputable def laws_eqIoS.f (l0 : List S_Io) (l1 : List S_Io) : Option (Bool) :=
  (bif ((l0.length : Int) != (l1.length : Int)) then (some false) else ((loopO (fun s => laws_eqIoS.s0 l0 l1 s) 0).bind fun o => match o with | .out _ => (some true) | .ret r => (some r)))
set_option maxRecDepth 100000 in
set_option maxHeartbeats 0 in
theorem laws_eqIoS_t (w0 : World) (A0_ : Option Addr) (p0_ : Nat) (l0 : List S_Io) (k0_ : Chunk) (v0_ : View L_Io A0_ p0_ l0 k0_) (w0_ : Has w0 k0_) (A1_ : Option Addr) (p1_ : Nat) (l1 : List S_Io) (k1_ : Chunk) (v1_ : View L_Io A1_ p1_ l1 k1_) (w1_ : Has w0 k1_) (r : Bool) (H : laws_eqIoS.f l0 l1 = some r) :
    Calls Try.prog 82 #[.slice A0_ l0.length p0_, .slice A1_ l1.length p1_] w0 (Ret (fun v w => v = .bool r ∧ Sat [] w0 w [] [])) := by
  have hs : Sat [] w0 w0 [(1, k0_), (2, k1_)] [] := Sat.init w0 [(1, k0_), (2, k1_)] [] (by simp only [List.mem_cons, List.not_mem_nil, or_false]; rintro x (rfl | rfl) <;> assumption) (by simp) List.nodup_nil (by simp [blks])
  unfold laws_eqIoS.f at H
  refine enter Try.func82 rfl Try.ntmps82 rfl fun a hk => ?_
  apply wp_seq_k; intro K1 hK1
  apply wp_region_lit
  refine sa _ rfl hk rfl rfl rfl fun a hk => ?_
  show wpList _ _ _ [] _ _
  refine wpList_nil ?_
  refine hK1 _ _ ?_
  apply wp_seq_k; intro K2 hK2
  apply wp_seq_k; intro K3 hK3
  apply wp_region_lit
  refine sm _ rfl hk rfl rfl rfl fun a hk => ?_
  refine sle rfl hk rfl rfl rfl un33 fun a hk => ?_
  refine sm _ rfl hk rfl rfl rfl fun a hk => ?_
  refine sle rfl hk rfl rfl rfl un33 fun a hk => ?_
  refine sv (.bool ((l0.length : Int) != (l1.length : Int))) hk rfl rfl rfl fun a hk => ?_
  show wpList _ _ _ [] _ _
  refine wpList_nil ?_
  refine hK3 _ _ ?_
  rcases cond_some H with ⟨c4, H⟩ | ⟨c4, H⟩
  · have hk := hk.lit 10 c4 rfl
    refine cnd_true hk rfl rfl ?_
    apply wp_seq_k; intro K5 hK5
    apply wp_region_lit
    refine sa _ rfl hk rfl rfl rfl fun a hk => ?_
    show wpList _ _ _ [] _ _
    refine wpList_nil ?_
    refine hK5 _ _ ?_
    refine wp_ret ?_
    obtain rfl := Option.some.inj H
    exact fin hk _ [(.bool false)] rfl ⟨rfl, trivial⟩ ⟨rfl, (hs.pick [] rfl).dnil⟩
  · have hk := hk.lit 10 c4 rfl
    refine cnd_false hk rfl rfl ?_
    refine wp_skip ?_
    refine hK2 _ _ ?_
    apply wp_seq_k; intro K6 hK6
    apply wp_seq_k; intro K7 hK7
    apply wp_region_lit
    refine sa _ rfl hk rfl rfl rfl fun a hk => ?_
    show wpList _ _ _ [] _ _
    refine wpList_nil ?_
    refine hK7 _ _ ?_
    obtain ⟨o11, h12, HL13⟩ := bind_some H
    clear H
    obtain ⟨R14, hR14⟩ : ∃ R : Act → World → Prop, R = fun a w => o11 = .out () ∧ Kn [] 27 a ∧ Sat [] w0 w [(1, k0_), (2, k1_)] [] := ⟨_, rfl⟩
    refine wp_cutq R14 ?_ ?_
    · refine wp_block ?_
      obtain ⟨fu16, h12⟩ := loopO_some h12
      obtain ⟨I15, hI15⟩ : ∃ I : Nat → Act → World → Prop, I = fun fu a w => ∃ (u10 : Int), loopN (fun s => laws_eqIoS.s0 l0 l1 s) fu u10 = some o11 ∧ Kn [(0, (.slice A0_ l0.length p0_)), (1, (.slice A1_ l1.length p1_)), (5, (.int .i64 u10))] 27 a ∧ Sat [] w0 w [(1, k0_), (2, k1_)] [] := ⟨_, rfl⟩
      refine wp_loop_ghost I15 fu16 ?_ ?_
      · rw [hI15]
        exact ⟨0, h12, (hk.c 0 rfl (hk.c 1 rfl (hk.c 5 rfl hk.k))), (hs.pick [] rfl)⟩
      · clear h12 hk hs
        intro fu16 a w hI0
        rw [hI15] at hI0
        obtain ⟨u10, hi, hk, hs⟩ := hI0
        obtain ⟨x17, H, h18⟩ := loop_round hi
        try dsimp only at H
        unfold laws_eqIoS.s0 at H
        apply wp_seq_k; intro K19 hK19
        apply wp_seq_k; intro K20 hK20
        apply wp_region_lit
        refine sm _ rfl hk rfl rfl rfl fun a hk => ?_
        refine sm _ rfl hk rfl rfl rfl fun a hk => ?_
        refine sle rfl hk rfl rfl rfl un33 fun a hk => ?_
        refine sv (.bool (decide (u10 < (l0.length : Int)))) hk rfl rfl rfl fun a hk => ?_
        show wpList _ _ _ [] _ _
        refine wpList_nil ?_
        refine hK20 _ _ ?_
        rcases cond_some H with ⟨c21, H⟩ | ⟨c21, H⟩
        · have hk := hk.lit 14 c21 rfl
          refine cnd_true hk rfl rfl ?_
          refine wp_skip ?_
          refine hK19 _ _ ?_
          apply wp_seq_k; intro K22 hK22
          refine wp_block ?_
          apply wp_seq_k; intro K23 hK23
          refine wp_region_mix [(0, true), (1, true), (2, true), (3, true), (4, true), (5, true), (6, true), (7, true), (8, true), (9, true)] mo (by kernel_rfl) hs fun _ => ?_
          have hs := hs.drew
          refine qst (.slice A0_ l0.length p0_) hk rfl rfl rfl rfl (fun w hs => sm _ rfl hk rfl rfl rfl fun a hk => qe hk) fun a hk => ?_
          refine qst (.int .i64 u10) hk rfl rfl rfl rfl (fun w hs => sm _ rfl hk rfl rfl rfl fun a hk => qe hk) fun a hk => ?_
          rcases ite_some H with ⟨c24, H⟩ | ⟨_, H⟩
          rotate_left
          · cases H
          obtain ⟨b25, q26, hAc24⟩ := (v0_).some_ u10 c24.1 c24.2
          refine qst (.pointer (some (padd A0_ (u10.toNat * 2)))) hk rfl rfl rfl rfl (fun w hs => si rfl hk rfl rfl rfl rfl un33 sz114 c24.1 c24.2 hAc24 fun a hk => qe hk) fun a hk => ?_
          obtain ⟨_, rfl, e27⟩ := (v0_).at_ z_Io u10 c24.1 c24.2
          refine qst (.agg #[.int .i64 ((l0.getD u10.toNat z_Io).At), .string ((l0.getD u10.toNat z_Io).Data)]) hk rfl rfl rfl rfl (fun w hs => sln [.int .i64 ((l0.getD u10.toNat z_Io).At), .string ((l0.getD u10.toNat z_Io).Data)] rfl hk rfl rfl rfl ag114 sz114 (cells_at e27 (hs.hasD (k := 1) rfl)) fun a hk => qe hk) fun a hk => ?_
          refine qst (.slice A1_ l1.length p1_) hk rfl rfl rfl rfl (fun w hs => sm _ rfl hk rfl rfl rfl fun a hk => qe hk) fun a hk => ?_
          refine qst (.int .i64 u10) hk rfl rfl rfl rfl (fun w hs => sm _ rfl hk rfl rfl rfl fun a hk => qe hk) fun a hk => ?_
          rcases ite_some H with ⟨c28, H⟩ | ⟨_, H⟩
          rotate_left
          · cases H
          obtain ⟨b29, q30, hAc28⟩ := (v1_).some_ u10 c28.1 c28.2
          refine qst (.pointer (some (padd A1_ (u10.toNat * 2)))) hk rfl rfl rfl rfl (fun w hs => si rfl hk rfl rfl rfl rfl un33 sz114 c28.1 c28.2 hAc28 fun a hk => qe hk) fun a hk => ?_
          obtain ⟨_, rfl, e31⟩ := (v1_).at_ z_Io u10 c28.1 c28.2
          refine qst (.agg #[.int .i64 ((l1.getD u10.toNat z_Io).At), .string ((l1.getD u10.toNat z_Io).Data)]) hk rfl rfl rfl rfl (fun w hs => sln [.int .i64 ((l1.getD u10.toNat z_Io).At), .string ((l1.getD u10.toNat z_Io).Data)] rfl hk rfl rfl rfl ag114 sz114 (cells_at e31 (hs.hasD (k := 2) rfl)) fun a hk => qe hk) fun a hk => ?_
          obtain ⟨y32, h33, H⟩ := bind_some H
          refine qst (.bool y32) hk rfl rfl rfl rfl (fun w hs => sc rfl en120 hk rfl rfl rfl (laws_eqIo_t _ (l0.getD u10.toNat z_Io) (l1.getD u10.toNat z_Io) _ h33) fun _ w hR a hk => qc hR hk) fun a hk => ?_
          refine qst (.bool (!y32)) hk rfl rfl rfl rfl (fun w hs => sv (.bool (!y32)) hk rfl rfl rfl fun a hk => qe hk) fun a hk => ?_
          refine wml_nil fun w hF _ => ?_
          have hs := hs.f hF
          refine hK23 _ _ ?_
          rcases cond_some H with ⟨c34, H⟩ | ⟨c34, H⟩
          · have hk := hk.lit 26 c34 rfl
            refine cnd_true hk rfl rfl ?_
            apply wp_seq_k; intro K35 hK35
            apply wp_region_lit
            refine sa _ rfl hk rfl rfl rfl fun a hk => ?_
            show wpList _ _ _ [] _ _
            refine wpList_nil ?_
            refine hK35 _ _ ?_
            refine wp_ret ?_
            obtain rfl := Option.some.inj H
            have ho11 := h18
            try dsimp only at ho11
            subst ho11
            have H := HL13
            try dsimp only at H
            obtain rfl := Option.some.inj H
            exact fin hk _ [(.bool false)] rfl ⟨rfl, trivial⟩ ⟨rfl, (hs.pick [] rfl).dnil⟩
          · have hk := hk.lit 26 c34 rfl
            refine cnd_false hk rfl rfl ?_
            refine wp_skip ?_
            refine hK22 _ _ ?_
            apply wp_region_lit
            refine sm _ rfl hk rfl rfl rfl fun a hk => ?_
            refine sv (.int .i64 (w64 (u10 + 1))) hk rfl rfl rfl fun a hk => ?_
            refine sa _ rfl hk rfl rfl rfl fun a hk => ?_
            show wpList _ _ _ [] _ _
            refine wpList_nil ?_
            obtain rfl := Option.some.inj H
            obtain ⟨m36, hmm36, h18⟩ := h18
            show ∃ n', n' < _ ∧ I15 n' _ _
            refine ⟨m36, hmm36, ?_⟩
            rw [hI15]
            exact ⟨(w64 (u10 + 1)), h18, (hk.c 0 rfl (hk.c 1 rfl (hk.c 5 rfl hk.k))), (hs.pick [] rfl)⟩
        · have hk := hk.lit 14 c21 rfl
          refine cnd_false hk rfl rfl ?_
          refine wp_exit ?_
          obtain rfl := Option.some.inj H
          show R14 _ _
          rw [hR14]
          exact ⟨h18.symm, hk.k, (hs.pick [] rfl)⟩
    · intro a w hR0
      rw [hR14] at hR0
      obtain ⟨rfl, hk, hs⟩ := hR0
      have H := HL13
      try dsimp only at H
      refine hK6 _ _ ?_
      apply wp_seq_k; intro K37 hK37
      apply wp_region_lit
      refine sa _ rfl hk rfl rfl rfl fun a hk => ?_
      show wpList _ _ _ [] _ _
      refine wpList_nil ?_
      refine hK37 _ _ ?_
      refine wp_ret ?_
      obtain rfl := Option.some.inj H
      exact fin hk _ [(.bool true)] rfl ⟨rfl, trivial⟩ ⟨rfl, (hs.pick [] rfl).dnil⟩

noncomputable def laws_eqDevice.f (x0 : S_Device) (x1 : S_Device) : Option (Bool) :=
  ((laws_eqStringS.f x0.Sure x1.Sure).bind fun y6 => (bif (!y6) then (some false) else ((laws_eqIoS.f x0.Unsure x1.Unsure).bind fun y12 => (bif (!y12) then (some false) else (some true)))))
set_option maxRecDepth 100000 in
set_option maxHeartbeats 0 in
theorem laws_eqDevice_t (w0 : World) (x0 : S_Device) (A0_0 : Option Addr) (p0_0 : Nat) (k0_0 : Chunk) (v0_0 : View Lay.str A0_0 p0_0 x0.Sure k0_0) (w0_0 : Has w0 k0_0) (A0_1 : Option Addr) (p0_1 : Nat) (k0_1 : Chunk) (v0_1 : View L_Io A0_1 p0_1 x0.Unsure k0_1) (w0_1 : Has w0 k0_1) (x1 : S_Device) (A1_0 : Option Addr) (p1_0 : Nat) (k1_0 : Chunk) (v1_0 : View Lay.str A1_0 p1_0 x1.Sure k1_0) (w1_0 : Has w0 k1_0) (A1_1 : Option Addr) (p1_1 : Nat) (k1_1 : Chunk) (v1_1 : View L_Io A1_1 p1_1 x1.Unsure k1_1) (w1_1 : Has w0 k1_1) (r : Bool) (H : laws_eqDevice.f x0 x1 = some r) :
    Calls Try.prog 32 #[.agg #[.slice A0_0 x0.Sure.length p0_0, .slice A0_1 x0.Unsure.length p0_1], .agg #[.slice A1_0 x1.Sure.length p1_0, .slice A1_1 x1.Unsure.length p1_1]] w0 (Ret (fun v w => v = .bool r ∧ Sat [] w0 w [] [])) := by
  have hs : Sat [] w0 w0 [(1, k0_0), (2, k0_1), (3, k1_0), (4, k1_1)] [] := Sat.init w0 [(1, k0_0), (2, k0_1), (3, k1_0), (4, k1_1)] [] (by simp only [List.mem_cons, List.not_mem_nil, or_false]; rintro x (rfl | rfl | rfl | rfl) <;> assumption) (by simp) List.nodup_nil (by simp [blks])
  unfold laws_eqDevice.f at H
  refine enter Try.func32 rfl Try.ntmps32 rfl fun a hk => ?_
  apply wp_seq_k; intro K1 hK1
  apply wp_region_lit
  refine sbx 5 hs rfl hk rfl rfl rfl rfl fun b2 w a hk hs => ?_
  refine sbx 6 hs rfl hk rfl rfl rfl rfl fun b3 w a hk hs => ?_
  refine sa _ rfl hk rfl rfl rfl fun a hk => ?_
  show wpList _ _ _ [] _ _
  refine wpList_nil ?_
  refine hK1 _ _ ?_
  apply wp_seq_k; intro K4 hK4
  apply wp_seq_k; intro K5 hK5
  apply wp_region_lit
  refine sf ⟨b2, 0, none⟩ rfl hk rfl rfl rfl fd35_0 rfl fun a hk => ?_
  refine sl rfl hk rfl rfl rfl ag24 (box_cell hs (k := 5) rfl rfl) fun a hk => ?_
  refine sf ⟨b3, 0, none⟩ rfl hk rfl rfl rfl fd35_0 rfl fun a hk => ?_
  refine sl rfl hk rfl rfl rfl ag24 (box_cell hs (k := 6) rfl rfl) fun a hk => ?_
  obtain ⟨y6, h7, H⟩ := bind_some H
  refine sc rfl en81 hk rfl rfl rfl (laws_eqStringS_t _ A0_0 p0_0 x0.Sure _ v0_0 (hs.hasD (k := 1) rfl) A1_0 p1_0 x1.Sure _ v1_0 (hs.hasD (k := 3) rfl) _ h7) ?_
  rintro _ w ⟨rfl, hG⟩ a hk
  have hs := hs.call0 hG
  refine sv (.bool (!y6)) hk rfl rfl rfl fun a hk => ?_
  show wpList _ _ _ [] _ _
  refine wpList_nil ?_
  refine hK5 _ _ ?_
  rcases cond_some H with ⟨c8, H⟩ | ⟨c8, H⟩
  · have hk := hk.lit 10 c8 rfl
    refine cnd_true hk rfl rfl ?_
    apply wp_seq_k; intro K9 hK9
    apply wp_region_lit
    refine sa _ rfl hk rfl rfl rfl fun a hk => ?_
    show wpList _ _ _ [] _ _
    refine wpList_nil ?_
    refine hK9 _ _ ?_
    refine wp_ret ?_
    obtain rfl := Option.some.inj H
    exact fin hk _ [(.bool false)] rfl ⟨rfl, trivial⟩ ⟨rfl, (hs.pick [] rfl).dnil⟩
  · have hk := hk.lit 10 c8 rfl
    refine cnd_false hk rfl rfl ?_
    refine wp_skip ?_
    refine hK4 _ _ ?_
    apply wp_seq_k; intro K10 hK10
    apply wp_seq_k; intro K11 hK11
    apply wp_region_lit
    refine sf ⟨b2, 1, none⟩ rfl hk rfl rfl rfl fd35_1 rfl fun a hk => ?_
    refine sl rfl hk rfl rfl rfl ag33 (box_cell hs (k := 5) rfl rfl) fun a hk => ?_
    refine sf ⟨b3, 1, none⟩ rfl hk rfl rfl rfl fd35_1 rfl fun a hk => ?_
    refine sl rfl hk rfl rfl rfl ag33 (box_cell hs (k := 6) rfl rfl) fun a hk => ?_
    obtain ⟨y12, h13, H⟩ := bind_some H
    refine sc rfl en82 hk rfl rfl rfl (laws_eqIoS_t _ A0_1 p0_1 x0.Unsure _ v0_1 (hs.hasD (k := 2) rfl) A1_1 p1_1 x1.Unsure _ v1_1 (hs.hasD (k := 4) rfl) _ h13) ?_
    rintro _ w ⟨rfl, hG⟩ a hk
    have hs := hs.call0 hG
    refine sv (.bool (!y12)) hk rfl rfl rfl fun a hk => ?_
    show wpList _ _ _ [] _ _
    refine wpList_nil ?_
    refine hK11 _ _ ?_
    rcases cond_some H with ⟨c14, H⟩ | ⟨c14, H⟩
    · have hk := hk.lit 16 c14 rfl
      refine cnd_true hk rfl rfl ?_
      apply wp_seq_k; intro K15 hK15
      apply wp_region_lit
      refine sa _ rfl hk rfl rfl rfl fun a hk => ?_
      show wpList _ _ _ [] _ _
      refine wpList_nil ?_
      refine hK15 _ _ ?_
      refine wp_ret ?_
      obtain rfl := Option.some.inj H
      exact fin hk _ [(.bool false)] rfl ⟨rfl, trivial⟩ ⟨rfl, (hs.pick [] rfl).dnil⟩
    · have hk := hk.lit 16 c14 rfl
      refine cnd_false hk rfl rfl ?_
      refine wp_skip ?_
      refine hK10 _ _ ?_
      apply wp_seq_k; intro K16 hK16
      apply wp_region_lit
      refine sa _ rfl hk rfl rfl rfl fun a hk => ?_
      show wpList _ _ _ [] _ _
      refine wpList_nil ?_
      refine hK16 _ _ ?_
      refine wp_ret ?_
      obtain rfl := Option.some.inj H
      exact fin hk _ [(.bool true)] rfl ⟨rfl, trivial⟩ ⟨rfl, (hs.pick [] rfl).dnil⟩

noncomputable def laws_eqRegister.f (x0 : S_Register) (x1 : S_Register) : Option (Bool) :=
  (bif (x0.Epoch != x1.Epoch) then (some false) else (bif (x0.Side != x1.Side) then (some false) else (bif (x0.Count != x1.Count) then (some false) else (bif (x0.Boot != x1.Boot) then (some false) else (bif (!(x0.Base.toList == x1.Base.toList)) then (some false) else (bif (!(x0.Tip.toList == x1.Tip.toList)) then (some false) else (bif (!(x0.Root.toList == x1.Root.toList)) then (some false) else (some true))))))))
set_option maxRecDepth 100000 in
set_option maxHeartbeats 0 in
theorem laws_eqRegister_t (w0 : World) (x0 : S_Register) (x1 : S_Register) (r : Bool) (H : laws_eqRegister.f x0 x1 = some r) :
    Calls Try.prog 47 #[.agg #[.int .i64 x0.Epoch, .int .i64 x0.Side, .int .i64 x0.Count, .int .i64 x0.Boot, .string x0.Base, .string x0.Tip, .string x0.Root], .agg #[.int .i64 x1.Epoch, .int .i64 x1.Side, .int .i64 x1.Count, .int .i64 x1.Boot, .string x1.Base, .string x1.Tip, .string x1.Root]] w0 (Ret (fun v w => v = .bool r ∧ Sat [] w0 w [] [])) := by
  have hs : Sat [] w0 w0 [] [] := Sat.init w0 [] [] (by simp) (by simp) List.nodup_nil (by simp [blks])
  unfold laws_eqRegister.f at H
  refine enter Try.func47 rfl Try.ntmps47 rfl fun a hk => ?_
  apply wp_seq_k; intro K1 hK1
  apply wp_region_lit
  refine sbx 1 hs rfl hk rfl rfl rfl rfl fun b2 w a hk hs => ?_
  refine sbx 2 hs rfl hk rfl rfl rfl rfl fun b3 w a hk hs => ?_
  refine sa _ rfl hk rfl rfl rfl fun a hk => ?_
  show wpList _ _ _ [] _ _
  refine wpList_nil ?_
  refine hK1 _ _ ?_
  apply wp_seq_k; intro K4 hK4
  apply wp_seq_k; intro K5 hK5
  apply wp_region_lit
  refine sf ⟨b2, 0, none⟩ rfl hk rfl rfl rfl fd32_0 rfl fun a hk => ?_
  refine sl rfl hk rfl rfl rfl ag3 (box_cell hs (k := 1) rfl rfl) fun a hk => ?_
  refine sf ⟨b3, 0, none⟩ rfl hk rfl rfl rfl fd32_0 rfl fun a hk => ?_
  refine sl rfl hk rfl rfl rfl ag3 (box_cell hs (k := 2) rfl rfl) fun a hk => ?_
  refine sv (.bool (x0.Epoch != x1.Epoch)) hk rfl rfl rfl fun a hk => ?_
  show wpList _ _ _ [] _ _
  refine wpList_nil ?_
  refine hK5 _ _ ?_
  rcases cond_some H with ⟨c6, H⟩ | ⟨c6, H⟩
  · have hk := hk.lit 9 c6 rfl
    refine cnd_true hk rfl rfl ?_
    apply wp_seq_k; intro K7 hK7
    apply wp_region_lit
    refine sa _ rfl hk rfl rfl rfl fun a hk => ?_
    show wpList _ _ _ [] _ _
    refine wpList_nil ?_
    refine hK7 _ _ ?_
    refine wp_ret ?_
    obtain rfl := Option.some.inj H
    exact fin hk _ [(.bool false)] rfl ⟨rfl, trivial⟩ ⟨rfl, (hs.pick [] rfl).dnil⟩
  · have hk := hk.lit 9 c6 rfl
    refine cnd_false hk rfl rfl ?_
    refine wp_skip ?_
    refine hK4 _ _ ?_
    apply wp_seq_k; intro K8 hK8
    apply wp_seq_k; intro K9 hK9
    apply wp_region_lit
    refine sf ⟨b2, 1, none⟩ rfl hk rfl rfl rfl fd32_1 rfl fun a hk => ?_
    refine sl rfl hk rfl rfl rfl ag3 (box_cell hs (k := 1) rfl rfl) fun a hk => ?_
    refine sf ⟨b3, 1, none⟩ rfl hk rfl rfl rfl fd32_1 rfl fun a hk => ?_
    refine sl rfl hk rfl rfl rfl ag3 (box_cell hs (k := 2) rfl rfl) fun a hk => ?_
    refine sv (.bool (x0.Side != x1.Side)) hk rfl rfl rfl fun a hk => ?_
    show wpList _ _ _ [] _ _
    refine wpList_nil ?_
    refine hK9 _ _ ?_
    rcases cond_some H with ⟨c10, H⟩ | ⟨c10, H⟩
    · have hk := hk.lit 14 c10 rfl
      refine cnd_true hk rfl rfl ?_
      apply wp_seq_k; intro K11 hK11
      apply wp_region_lit
      refine sa _ rfl hk rfl rfl rfl fun a hk => ?_
      show wpList _ _ _ [] _ _
      refine wpList_nil ?_
      refine hK11 _ _ ?_
      refine wp_ret ?_
      obtain rfl := Option.some.inj H
      exact fin hk _ [(.bool false)] rfl ⟨rfl, trivial⟩ ⟨rfl, (hs.pick [] rfl).dnil⟩
    · have hk := hk.lit 14 c10 rfl
      refine cnd_false hk rfl rfl ?_
      refine wp_skip ?_
      refine hK8 _ _ ?_
      apply wp_seq_k; intro K12 hK12
      apply wp_seq_k; intro K13 hK13
      apply wp_region_lit
      refine sf ⟨b2, 2, none⟩ rfl hk rfl rfl rfl fd32_2 rfl fun a hk => ?_
      refine sl rfl hk rfl rfl rfl ag3 (box_cell hs (k := 1) rfl rfl) fun a hk => ?_
      refine sf ⟨b3, 2, none⟩ rfl hk rfl rfl rfl fd32_2 rfl fun a hk => ?_
      refine sl rfl hk rfl rfl rfl ag3 (box_cell hs (k := 2) rfl rfl) fun a hk => ?_
      refine sv (.bool (x0.Count != x1.Count)) hk rfl rfl rfl fun a hk => ?_
      show wpList _ _ _ [] _ _
      refine wpList_nil ?_
      refine hK13 _ _ ?_
      rcases cond_some H with ⟨c14, H⟩ | ⟨c14, H⟩
      · have hk := hk.lit 19 c14 rfl
        refine cnd_true hk rfl rfl ?_
        apply wp_seq_k; intro K15 hK15
        apply wp_region_lit
        refine sa _ rfl hk rfl rfl rfl fun a hk => ?_
        show wpList _ _ _ [] _ _
        refine wpList_nil ?_
        refine hK15 _ _ ?_
        refine wp_ret ?_
        obtain rfl := Option.some.inj H
        exact fin hk _ [(.bool false)] rfl ⟨rfl, trivial⟩ ⟨rfl, (hs.pick [] rfl).dnil⟩
      · have hk := hk.lit 19 c14 rfl
        refine cnd_false hk rfl rfl ?_
        refine wp_skip ?_
        refine hK12 _ _ ?_
        apply wp_seq_k; intro K16 hK16
        apply wp_seq_k; intro K17 hK17
        apply wp_region_lit
        refine sf ⟨b2, 3, none⟩ rfl hk rfl rfl rfl fd32_3 rfl fun a hk => ?_
        refine sl rfl hk rfl rfl rfl ag3 (box_cell hs (k := 1) rfl rfl) fun a hk => ?_
        refine sf ⟨b3, 3, none⟩ rfl hk rfl rfl rfl fd32_3 rfl fun a hk => ?_
        refine sl rfl hk rfl rfl rfl ag3 (box_cell hs (k := 2) rfl rfl) fun a hk => ?_
        refine sv (.bool (x0.Boot != x1.Boot)) hk rfl rfl rfl fun a hk => ?_
        show wpList _ _ _ [] _ _
        refine wpList_nil ?_
        refine hK17 _ _ ?_
        rcases cond_some H with ⟨c18, H⟩ | ⟨c18, H⟩
        · have hk := hk.lit 24 c18 rfl
          refine cnd_true hk rfl rfl ?_
          apply wp_seq_k; intro K19 hK19
          apply wp_region_lit
          refine sa _ rfl hk rfl rfl rfl fun a hk => ?_
          show wpList _ _ _ [] _ _
          refine wpList_nil ?_
          refine hK19 _ _ ?_
          refine wp_ret ?_
          obtain rfl := Option.some.inj H
          exact fin hk _ [(.bool false)] rfl ⟨rfl, trivial⟩ ⟨rfl, (hs.pick [] rfl).dnil⟩
        · have hk := hk.lit 24 c18 rfl
          refine cnd_false hk rfl rfl ?_
          refine wp_skip ?_
          refine hK16 _ _ ?_
          apply wp_seq_k; intro K20 hK20
          apply wp_seq_k; intro K21 hK21
          apply wp_region_lit
          refine sf ⟨b2, 4, none⟩ rfl hk rfl rfl rfl fd32_4 rfl fun a hk => ?_
          refine sl rfl hk rfl rfl rfl ag9 (box_cell hs (k := 1) rfl rfl) fun a hk => ?_
          refine sf ⟨b3, 4, none⟩ rfl hk rfl rfl rfl fd32_4 rfl fun a hk => ?_
          refine sl rfl hk rfl rfl rfl ag9 (box_cell hs (k := 2) rfl rfl) fun a hk => ?_
          refine sv (.bool (!(x0.Base.toList == x1.Base.toList))) hk rfl rfl rfl fun a hk => ?_
          show wpList _ _ _ [] _ _
          refine wpList_nil ?_
          refine hK21 _ _ ?_
          rcases cond_some H with ⟨c22, H⟩ | ⟨c22, H⟩
          · have hk := hk.lit 29 c22 rfl
            refine cnd_true hk rfl rfl ?_
            apply wp_seq_k; intro K23 hK23
            apply wp_region_lit
            refine sa _ rfl hk rfl rfl rfl fun a hk => ?_
            show wpList _ _ _ [] _ _
            refine wpList_nil ?_
            refine hK23 _ _ ?_
            refine wp_ret ?_
            obtain rfl := Option.some.inj H
            exact fin hk _ [(.bool false)] rfl ⟨rfl, trivial⟩ ⟨rfl, (hs.pick [] rfl).dnil⟩
          · have hk := hk.lit 29 c22 rfl
            refine cnd_false hk rfl rfl ?_
            refine wp_skip ?_
            refine hK20 _ _ ?_
            apply wp_seq_k; intro K24 hK24
            apply wp_seq_k; intro K25 hK25
            apply wp_region_lit
            refine sf ⟨b2, 5, none⟩ rfl hk rfl rfl rfl fd32_5 rfl fun a hk => ?_
            refine sl rfl hk rfl rfl rfl ag9 (box_cell hs (k := 1) rfl rfl) fun a hk => ?_
            refine sf ⟨b3, 5, none⟩ rfl hk rfl rfl rfl fd32_5 rfl fun a hk => ?_
            refine sl rfl hk rfl rfl rfl ag9 (box_cell hs (k := 2) rfl rfl) fun a hk => ?_
            refine sv (.bool (!(x0.Tip.toList == x1.Tip.toList))) hk rfl rfl rfl fun a hk => ?_
            show wpList _ _ _ [] _ _
            refine wpList_nil ?_
            refine hK25 _ _ ?_
            rcases cond_some H with ⟨c26, H⟩ | ⟨c26, H⟩
            · have hk := hk.lit 34 c26 rfl
              refine cnd_true hk rfl rfl ?_
              apply wp_seq_k; intro K27 hK27
              apply wp_region_lit
              refine sa _ rfl hk rfl rfl rfl fun a hk => ?_
              show wpList _ _ _ [] _ _
              refine wpList_nil ?_
              refine hK27 _ _ ?_
              refine wp_ret ?_
              obtain rfl := Option.some.inj H
              exact fin hk _ [(.bool false)] rfl ⟨rfl, trivial⟩ ⟨rfl, (hs.pick [] rfl).dnil⟩
            · have hk := hk.lit 34 c26 rfl
              refine cnd_false hk rfl rfl ?_
              refine wp_skip ?_
              refine hK24 _ _ ?_
              apply wp_seq_k; intro K28 hK28
              apply wp_seq_k; intro K29 hK29
              apply wp_region_lit
              refine sf ⟨b2, 6, none⟩ rfl hk rfl rfl rfl fd32_6 rfl fun a hk => ?_
              refine sl rfl hk rfl rfl rfl ag9 (box_cell hs (k := 1) rfl rfl) fun a hk => ?_
              refine sf ⟨b3, 6, none⟩ rfl hk rfl rfl rfl fd32_6 rfl fun a hk => ?_
              refine sl rfl hk rfl rfl rfl ag9 (box_cell hs (k := 2) rfl rfl) fun a hk => ?_
              refine sv (.bool (!(x0.Root.toList == x1.Root.toList))) hk rfl rfl rfl fun a hk => ?_
              show wpList _ _ _ [] _ _
              refine wpList_nil ?_
              refine hK29 _ _ ?_
              rcases cond_some H with ⟨c30, H⟩ | ⟨c30, H⟩
              · have hk := hk.lit 39 c30 rfl
                refine cnd_true hk rfl rfl ?_
                apply wp_seq_k; intro K31 hK31
                apply wp_region_lit
                refine sa _ rfl hk rfl rfl rfl fun a hk => ?_
                show wpList _ _ _ [] _ _
                refine wpList_nil ?_
                refine hK31 _ _ ?_
                refine wp_ret ?_
                obtain rfl := Option.some.inj H
                exact fin hk _ [(.bool false)] rfl ⟨rfl, trivial⟩ ⟨rfl, (hs.pick [] rfl).dnil⟩
              · have hk := hk.lit 39 c30 rfl
                refine cnd_false hk rfl rfl ?_
                refine wp_skip ?_
                refine hK28 _ _ ?_
                apply wp_seq_k; intro K32 hK32
                apply wp_region_lit
                refine sa _ rfl hk rfl rfl rfl fun a hk => ?_
                show wpList _ _ _ [] _ _
                refine wpList_nil ?_
                refine hK32 _ _ ?_
                refine wp_ret ?_
                obtain rfl := Option.some.inj H
                exact fin hk _ [(.bool true)] rfl ⟨rfl, trivial⟩ ⟨rfl, (hs.pick [] rfl).dnil⟩

noncomputable def laws_eqStore.f (x0 : S_Store) (x1 : S_Store) : Option (Bool) :=
  (bif (!(x0.Key.toList == x1.Key.toList)) then (some false) else ((laws_eqRegister.f x0.Reg x1.Reg).bind fun y10 => (bif (!y10) then (some false) else ((laws_eqDevice.f x0.Device x1.Device).bind fun y16 => (bif (!y16) then (some false) else (bif (!(x0.Up == x1.Up)) then (some false) else (bif (!(x0.Dead == x1.Dead)) then (some false) else (some true))))))))
set_option maxRecDepth 100000 in
set_option maxHeartbeats 0 in
theorem laws_eqStore_t (w0 : World) (x0 : S_Store) (A0_0 : Option Addr) (p0_0 : Nat) (k0_0 : Chunk) (v0_0 : View Lay.str A0_0 p0_0 x0.Device.Sure k0_0) (w0_0 : Has w0 k0_0) (A0_1 : Option Addr) (p0_1 : Nat) (k0_1 : Chunk) (v0_1 : View L_Io A0_1 p0_1 x0.Device.Unsure k0_1) (w0_1 : Has w0 k0_1) (x1 : S_Store) (A1_0 : Option Addr) (p1_0 : Nat) (k1_0 : Chunk) (v1_0 : View Lay.str A1_0 p1_0 x1.Device.Sure k1_0) (w1_0 : Has w0 k1_0) (A1_1 : Option Addr) (p1_1 : Nat) (k1_1 : Chunk) (v1_1 : View L_Io A1_1 p1_1 x1.Device.Unsure k1_1) (w1_1 : Has w0 k1_1) (r : Bool) (H : laws_eqStore.f x0 x1 = some r) :
    Calls Try.prog 15 #[.agg #[.string x0.Key, .int .i64 x0.Reg.Epoch, .int .i64 x0.Reg.Side, .int .i64 x0.Reg.Count, .int .i64 x0.Reg.Boot, .string x0.Reg.Base, .string x0.Reg.Tip, .string x0.Reg.Root, .slice A0_0 x0.Device.Sure.length p0_0, .slice A0_1 x0.Device.Unsure.length p0_1, .bool x0.Up, .bool x0.Dead], .agg #[.string x1.Key, .int .i64 x1.Reg.Epoch, .int .i64 x1.Reg.Side, .int .i64 x1.Reg.Count, .int .i64 x1.Reg.Boot, .string x1.Reg.Base, .string x1.Reg.Tip, .string x1.Reg.Root, .slice A1_0 x1.Device.Sure.length p1_0, .slice A1_1 x1.Device.Unsure.length p1_1, .bool x1.Up, .bool x1.Dead]] w0 (Ret (fun v w => v = .bool r ∧ Sat [] w0 w [] [])) := by
  have hs : Sat [] w0 w0 [(1, k0_0), (2, k0_1), (3, k1_0), (4, k1_1)] [] := Sat.init w0 [(1, k0_0), (2, k0_1), (3, k1_0), (4, k1_1)] [] (by simp only [List.mem_cons, List.not_mem_nil, or_false]; rintro x (rfl | rfl | rfl | rfl) <;> assumption) (by simp) List.nodup_nil (by simp [blks])
  unfold laws_eqStore.f at H
  refine enter Try.func15 rfl Try.ntmps15 rfl fun a hk => ?_
  apply wp_seq_k; intro K1 hK1
  apply wp_region_lit
  refine sbx 5 hs rfl hk rfl rfl rfl rfl fun b2 w a hk hs => ?_
  refine sbx 6 hs rfl hk rfl rfl rfl rfl fun b3 w a hk hs => ?_
  refine sa _ rfl hk rfl rfl rfl fun a hk => ?_
  show wpList _ _ _ [] _ _
  refine wpList_nil ?_
  refine hK1 _ _ ?_
  apply wp_seq_k; intro K4 hK4
  apply wp_seq_k; intro K5 hK5
  apply wp_region_lit
  refine sf ⟨b2, 0, none⟩ rfl hk rfl rfl rfl fd37_0 rfl fun a hk => ?_
  refine sl rfl hk rfl rfl rfl ag9 (box_cell hs (k := 5) rfl rfl) fun a hk => ?_
  refine sf ⟨b3, 0, none⟩ rfl hk rfl rfl rfl fd37_0 rfl fun a hk => ?_
  refine sl rfl hk rfl rfl rfl ag9 (box_cell hs (k := 6) rfl rfl) fun a hk => ?_
  refine sv (.bool (!(x0.Key.toList == x1.Key.toList))) hk rfl rfl rfl fun a hk => ?_
  show wpList _ _ _ [] _ _
  refine wpList_nil ?_
  refine hK5 _ _ ?_
  rcases cond_some H with ⟨c6, H⟩ | ⟨c6, H⟩
  · have hk := hk.lit 9 c6 rfl
    refine cnd_true hk rfl rfl ?_
    apply wp_seq_k; intro K7 hK7
    apply wp_region_lit
    refine sa _ rfl hk rfl rfl rfl fun a hk => ?_
    show wpList _ _ _ [] _ _
    refine wpList_nil ?_
    refine hK7 _ _ ?_
    refine wp_ret ?_
    obtain rfl := Option.some.inj H
    exact fin hk _ [(.bool false)] rfl ⟨rfl, trivial⟩ ⟨rfl, (hs.pick [] rfl).dnil⟩
  · have hk := hk.lit 9 c6 rfl
    refine cnd_false hk rfl rfl ?_
    refine wp_skip ?_
    refine hK4 _ _ ?_
    apply wp_seq_k; intro K8 hK8
    apply wp_seq_k; intro K9 hK9
    apply wp_region_lit
    refine sf ⟨b2, 1, none⟩ rfl hk rfl rfl rfl fd37_1 rfl fun a hk => ?_
    refine sln [.int .i64 x0.Reg.Epoch, .int .i64 x0.Reg.Side, .int .i64 x0.Reg.Count, .int .i64 x0.Reg.Boot, .string x0.Reg.Base, .string x0.Reg.Tip, .string x0.Reg.Root] rfl hk rfl rfl rfl ag32 sz32 (box_part hs (k := 5) rfl rfl) fun a hk => ?_
    refine sf ⟨b3, 1, none⟩ rfl hk rfl rfl rfl fd37_1 rfl fun a hk => ?_
    refine sln [.int .i64 x1.Reg.Epoch, .int .i64 x1.Reg.Side, .int .i64 x1.Reg.Count, .int .i64 x1.Reg.Boot, .string x1.Reg.Base, .string x1.Reg.Tip, .string x1.Reg.Root] rfl hk rfl rfl rfl ag32 sz32 (box_part hs (k := 6) rfl rfl) fun a hk => ?_
    obtain ⟨y10, h11, H⟩ := bind_some H
    refine sc rfl en47 hk rfl rfl rfl (laws_eqRegister_t _ x0.Reg x1.Reg _ h11) ?_
    rintro _ w ⟨rfl, hG⟩ a hk
    have hs := hs.call0 hG
    refine sv (.bool (!y10)) hk rfl rfl rfl fun a hk => ?_
    show wpList _ _ _ [] _ _
    refine wpList_nil ?_
    refine hK9 _ _ ?_
    rcases cond_some H with ⟨c12, H⟩ | ⟨c12, H⟩
    · have hk := hk.lit 15 c12 rfl
      refine cnd_true hk rfl rfl ?_
      apply wp_seq_k; intro K13 hK13
      apply wp_region_lit
      refine sa _ rfl hk rfl rfl rfl fun a hk => ?_
      show wpList _ _ _ [] _ _
      refine wpList_nil ?_
      refine hK13 _ _ ?_
      refine wp_ret ?_
      obtain rfl := Option.some.inj H
      exact fin hk _ [(.bool false)] rfl ⟨rfl, trivial⟩ ⟨rfl, (hs.pick [] rfl).dnil⟩
    · have hk := hk.lit 15 c12 rfl
      refine cnd_false hk rfl rfl ?_
      refine wp_skip ?_
      refine hK8 _ _ ?_
      apply wp_seq_k; intro K14 hK14
      apply wp_seq_k; intro K15 hK15
      apply wp_region_lit
      refine sf ⟨b2, 8, none⟩ rfl hk rfl rfl rfl fd37_2 rfl fun a hk => ?_
      refine sln [.slice A0_0 x0.Device.Sure.length p0_0, .slice A0_1 x0.Device.Unsure.length p0_1] rfl hk rfl rfl rfl ag35 sz35 (box_part hs (k := 5) rfl rfl) fun a hk => ?_
      refine sf ⟨b3, 8, none⟩ rfl hk rfl rfl rfl fd37_2 rfl fun a hk => ?_
      refine sln [.slice A1_0 x1.Device.Sure.length p1_0, .slice A1_1 x1.Device.Unsure.length p1_1] rfl hk rfl rfl rfl ag35 sz35 (box_part hs (k := 6) rfl rfl) fun a hk => ?_
      obtain ⟨y16, h17, H⟩ := bind_some H
      refine sc rfl en32 hk rfl rfl rfl (laws_eqDevice_t _ x0.Device A0_0 p0_0 _ v0_0 (hs.hasD (k := 1) rfl) A0_1 p0_1 _ v0_1 (hs.hasD (k := 2) rfl) x1.Device A1_0 p1_0 _ v1_0 (hs.hasD (k := 3) rfl) A1_1 p1_1 _ v1_1 (hs.hasD (k := 4) rfl) _ h17) ?_
      rintro _ w ⟨rfl, hG⟩ a hk
      have hs := hs.call0 hG
      refine sv (.bool (!y16)) hk rfl rfl rfl fun a hk => ?_
      show wpList _ _ _ [] _ _
      refine wpList_nil ?_
      refine hK15 _ _ ?_
      rcases cond_some H with ⟨c18, H⟩ | ⟨c18, H⟩
      · have hk := hk.lit 21 c18 rfl
        refine cnd_true hk rfl rfl ?_
        apply wp_seq_k; intro K19 hK19
        apply wp_region_lit
        refine sa _ rfl hk rfl rfl rfl fun a hk => ?_
        show wpList _ _ _ [] _ _
        refine wpList_nil ?_
        refine hK19 _ _ ?_
        refine wp_ret ?_
        obtain rfl := Option.some.inj H
        exact fin hk _ [(.bool false)] rfl ⟨rfl, trivial⟩ ⟨rfl, (hs.pick [] rfl).dnil⟩
      · have hk := hk.lit 21 c18 rfl
        refine cnd_false hk rfl rfl ?_
        refine wp_skip ?_
        refine hK14 _ _ ?_
        apply wp_seq_k; intro K20 hK20
        apply wp_seq_k; intro K21 hK21
        apply wp_region_lit
        refine sf ⟨b2, 10, none⟩ rfl hk rfl rfl rfl fd37_3 rfl fun a hk => ?_
        refine sl rfl hk rfl rfl rfl ag4 (box_cell hs (k := 5) rfl rfl) fun a hk => ?_
        refine sf ⟨b3, 10, none⟩ rfl hk rfl rfl rfl fd37_3 rfl fun a hk => ?_
        refine sl rfl hk rfl rfl rfl ag4 (box_cell hs (k := 6) rfl rfl) fun a hk => ?_
        refine sbn rfl hk rfl rfl rfl rfl un4 fun a hk => ?_
        show wpList _ _ _ [] _ _
        refine wpList_nil ?_
        refine hK21 _ _ ?_
        rcases cond_some H with ⟨c22, H⟩ | ⟨c22, H⟩
        · have hk := hk.lit 26 c22 rfl
          refine cnd_true hk rfl rfl ?_
          apply wp_seq_k; intro K23 hK23
          apply wp_region_lit
          refine sa _ rfl hk rfl rfl rfl fun a hk => ?_
          show wpList _ _ _ [] _ _
          refine wpList_nil ?_
          refine hK23 _ _ ?_
          refine wp_ret ?_
          obtain rfl := Option.some.inj H
          exact fin hk _ [(.bool false)] rfl ⟨rfl, trivial⟩ ⟨rfl, (hs.pick [] rfl).dnil⟩
        · have hk := hk.lit 26 c22 rfl
          refine cnd_false hk rfl rfl ?_
          refine wp_skip ?_
          refine hK20 _ _ ?_
          apply wp_seq_k; intro K24 hK24
          apply wp_seq_k; intro K25 hK25
          apply wp_region_lit
          refine sf ⟨b2, 11, none⟩ rfl hk rfl rfl rfl fd37_4 rfl fun a hk => ?_
          refine sl rfl hk rfl rfl rfl ag4 (box_cell hs (k := 5) rfl rfl) fun a hk => ?_
          refine sf ⟨b3, 11, none⟩ rfl hk rfl rfl rfl fd37_4 rfl fun a hk => ?_
          refine sl rfl hk rfl rfl rfl ag4 (box_cell hs (k := 6) rfl rfl) fun a hk => ?_
          refine sbn rfl hk rfl rfl rfl rfl un4 fun a hk => ?_
          show wpList _ _ _ [] _ _
          refine wpList_nil ?_
          refine hK25 _ _ ?_
          rcases cond_some H with ⟨c26, H⟩ | ⟨c26, H⟩
          · have hk := hk.lit 31 c26 rfl
            refine cnd_true hk rfl rfl ?_
            apply wp_seq_k; intro K27 hK27
            apply wp_region_lit
            refine sa _ rfl hk rfl rfl rfl fun a hk => ?_
            show wpList _ _ _ [] _ _
            refine wpList_nil ?_
            refine hK27 _ _ ?_
            refine wp_ret ?_
            obtain rfl := Option.some.inj H
            exact fin hk _ [(.bool false)] rfl ⟨rfl, trivial⟩ ⟨rfl, (hs.pick [] rfl).dnil⟩
          · have hk := hk.lit 31 c26 rfl
            refine cnd_false hk rfl rfl ?_
            refine wp_skip ?_
            refine hK24 _ _ ?_
            apply wp_seq_k; intro K28 hK28
            apply wp_region_lit
            refine sa _ rfl hk rfl rfl rfl fun a hk => ?_
            show wpList _ _ _ [] _ _
            refine wpList_nil ?_
            refine hK28 _ _ ?_
            refine wp_ret ?_
            obtain rfl := Option.some.inj H
            exact fin hk _ [(.bool true)] rfl ⟨rfl, trivial⟩ ⟨rfl, (hs.pick [] rfl).dnil⟩

noncomputable def laws_FnExactSameStore.f (x0 : S_Store) (x1 : S_Store) : Option (Bool) :=
  ((laws_szStore.f x0 1048576).bind fun y6 => (bif (decide (y6 < 0)) then (some true) else ((laws_szStore.f x1 y6).bind fun y13 => (bif (decide (y13 < 0)) then (some true) else ((laws_toStore.f x0).bind fun y21 => ((laws_toStore.f x1).bind fun y32 => ((spec_SameStore.f y21 y32).bind fun y43 => ((laws_toStore.f x0).bind fun y47 => ((laws_toStore.f x1).bind fun y59 => ((impl_SameStore.f y47 y59).bind fun y71 => (bif (!(y71 == y43)) then (some false) else ((laws_toStore.f x0).bind fun y80 => ((laws_eqStore.f y47 y80).bind fun y91 => (bif (!y91) then (some false) else ((laws_toStore.f x1).bind fun y99 => ((laws_eqStore.f y59 y99).bind fun y110 => (bif (!y110) then (some false) else (some true))))))))))))))))))
set_option maxRecDepth 100000 in
set_option maxHeartbeats 0 in
theorem laws_FnExactSameStore_t (w0 : World) (x0 : S_Store) (A0_0 : Option Addr) (p0_0 : Nat) (k0_0 : Chunk) (v0_0 : View Lay.str A0_0 p0_0 x0.Device.Sure k0_0) (w0_0 : Has w0 k0_0) (A0_1 : Option Addr) (p0_1 : Nat) (k0_1 : Chunk) (v0_1 : View L_Io A0_1 p0_1 x0.Device.Unsure k0_1) (w0_1 : Has w0 k0_1) (x1 : S_Store) (A1_0 : Option Addr) (p1_0 : Nat) (k1_0 : Chunk) (v1_0 : View Lay.str A1_0 p1_0 x1.Device.Sure k1_0) (w1_0 : Has w0 k1_0) (A1_1 : Option Addr) (p1_1 : Nat) (k1_1 : Chunk) (v1_1 : View L_Io A1_1 p1_1 x1.Device.Unsure k1_1) (w1_1 : Has w0 k1_1) (r : Bool) (H : laws_FnExactSameStore.f x0 x1 = some r) :
    Calls Try.prog 3 #[.agg #[.string x0.Key, .int .i64 x0.Reg.Epoch, .int .i64 x0.Reg.Side, .int .i64 x0.Reg.Count, .int .i64 x0.Reg.Boot, .string x0.Reg.Base, .string x0.Reg.Tip, .string x0.Reg.Root, .slice A0_0 x0.Device.Sure.length p0_0, .slice A0_1 x0.Device.Unsure.length p0_1, .bool x0.Up, .bool x0.Dead], .agg #[.string x1.Key, .int .i64 x1.Reg.Epoch, .int .i64 x1.Reg.Side, .int .i64 x1.Reg.Count, .int .i64 x1.Reg.Boot, .string x1.Reg.Base, .string x1.Reg.Tip, .string x1.Reg.Root, .slice A1_0 x1.Device.Sure.length p1_0, .slice A1_1 x1.Device.Unsure.length p1_1, .bool x1.Up, .bool x1.Dead]] w0 (Ret (fun v w => v = .bool r ∧ Sat [] w0 w [] [])) := by
  have hs : Sat [] w0 w0 [(1, k0_0), (2, k0_1), (3, k1_0), (4, k1_1)] [] := Sat.init w0 [(1, k0_0), (2, k0_1), (3, k1_0), (4, k1_1)] [] (by simp only [List.mem_cons, List.not_mem_nil, or_false]; rintro x (rfl | rfl | rfl | rfl) <;> assumption) (by simp) List.nodup_nil (by simp [blks])
  unfold laws_FnExactSameStore.f at H
  refine enter Try.func3 rfl Try.ntmps3 rfl fun a hk => ?_
  apply wp_seq_k; intro K1 hK1
  apply wp_region_lit
  refine sbx 5 hs rfl hk rfl rfl rfl rfl fun b2 w a hk hs => ?_
  refine sbx 6 hs rfl hk rfl rfl rfl rfl fun b3 w a hk hs => ?_
  refine sa _ rfl hk rfl rfl rfl fun a hk => ?_
  show wpList _ _ _ [] _ _
  refine wpList_nil ?_
  refine hK1 _ _ ?_
  apply wp_seq_k; intro K4 hK4
  apply wp_region_lit
  refine sa _ rfl hk rfl rfl rfl fun a hk => ?_
  show wpList _ _ _ [] _ _
  refine wpList_nil ?_
  refine hK4 _ _ ?_
  apply wp_seq_k; intro K5 hK5
  apply wp_region_lit
  refine sln [.string x0.Key, .int .i64 x0.Reg.Epoch, .int .i64 x0.Reg.Side, .int .i64 x0.Reg.Count, .int .i64 x0.Reg.Boot, .string x0.Reg.Base, .string x0.Reg.Tip, .string x0.Reg.Root, .slice A0_0 x0.Device.Sure.length p0_0, .slice A0_1 x0.Device.Unsure.length p0_1, .bool x0.Up, .bool x0.Dead] rfl hk rfl rfl rfl ag29 sz29 (box_cells hs (k := 5) rfl) fun a hk => ?_
  refine sm _ rfl hk rfl rfl rfl fun a hk => ?_
  obtain ⟨y6, h7, H⟩ := bind_some H
  refine sc rfl en11 hk rfl rfl rfl (laws_szStore_t _ x0 A0_0 p0_0 _ v0_0 (hs.hasD (k := 1) rfl) A0_1 p0_1 _ v0_1 (hs.hasD (k := 2) rfl) 1048576 _ h7) ?_
  rintro _ w ⟨rfl, hG⟩ a hk
  have hs := hs.call0 hG
  refine sa _ rfl hk rfl rfl rfl fun a hk => ?_
  show wpList _ _ _ [] _ _
  refine wpList_nil ?_
  refine hK5 _ _ ?_
  apply wp_seq_k; intro K8 hK8
  apply wp_seq_k; intro K9 hK9
  apply wp_region_lit
  refine sm _ rfl hk rfl rfl rfl fun a hk => ?_
  refine sv (.bool (decide (y6 < 0))) hk rfl rfl rfl fun a hk => ?_
  show wpList _ _ _ [] _ _
  refine wpList_nil ?_
  refine hK9 _ _ ?_
  rcases cond_some H with ⟨c10, H⟩ | ⟨c10, H⟩
  · have hk := hk.lit 14 c10 rfl
    refine cnd_true hk rfl rfl ?_
    apply wp_seq_k; intro K11 hK11
    apply wp_region_lit
    refine sa _ rfl hk rfl rfl rfl fun a hk => ?_
    show wpList _ _ _ [] _ _
    refine wpList_nil ?_
    refine hK11 _ _ ?_
    refine wp_ret ?_
    obtain rfl := Option.some.inj H
    exact fin hk _ [(.bool true)] rfl ⟨rfl, trivial⟩ ⟨rfl, (hs.pick [] rfl).dnil⟩
  · have hk := hk.lit 14 c10 rfl
    refine cnd_false hk rfl rfl ?_
    refine wp_skip ?_
    refine hK8 _ _ ?_
    apply wp_seq_k; intro K12 hK12
    apply wp_region_lit
    refine sln [.string x1.Key, .int .i64 x1.Reg.Epoch, .int .i64 x1.Reg.Side, .int .i64 x1.Reg.Count, .int .i64 x1.Reg.Boot, .string x1.Reg.Base, .string x1.Reg.Tip, .string x1.Reg.Root, .slice A1_0 x1.Device.Sure.length p1_0, .slice A1_1 x1.Device.Unsure.length p1_1, .bool x1.Up, .bool x1.Dead] rfl hk rfl rfl rfl ag29 sz29 (box_cells hs (k := 6) rfl) fun a hk => ?_
    refine sm _ rfl hk rfl rfl rfl fun a hk => ?_
    obtain ⟨y13, h14, H⟩ := bind_some H
    refine sc rfl en11 hk rfl rfl rfl (laws_szStore_t _ x1 A1_0 p1_0 _ v1_0 (hs.hasD (k := 3) rfl) A1_1 p1_1 _ v1_1 (hs.hasD (k := 4) rfl) y6 _ h14) ?_
    rintro _ w ⟨rfl, hG⟩ a hk
    have hs := hs.call0 hG
    refine sa _ rfl hk rfl rfl rfl fun a hk => ?_
    show wpList _ _ _ [] _ _
    refine wpList_nil ?_
    refine hK12 _ _ ?_
    apply wp_seq_k; intro K15 hK15
    apply wp_seq_k; intro K16 hK16
    apply wp_region_lit
    refine sm _ rfl hk rfl rfl rfl fun a hk => ?_
    refine sv (.bool (decide (y13 < 0))) hk rfl rfl rfl fun a hk => ?_
    show wpList _ _ _ [] _ _
    refine wpList_nil ?_
    refine hK16 _ _ ?_
    rcases cond_some H with ⟨c17, H⟩ | ⟨c17, H⟩
    · have hk := hk.lit 19 c17 rfl
      refine cnd_true hk rfl rfl ?_
      apply wp_seq_k; intro K18 hK18
      apply wp_region_lit
      refine sa _ rfl hk rfl rfl rfl fun a hk => ?_
      show wpList _ _ _ [] _ _
      refine wpList_nil ?_
      refine hK18 _ _ ?_
      refine wp_ret ?_
      obtain rfl := Option.some.inj H
      exact fin hk _ [(.bool true)] rfl ⟨rfl, trivial⟩ ⟨rfl, (hs.pick [] rfl).dnil⟩
    · have hk := hk.lit 19 c17 rfl
      refine cnd_false hk rfl rfl ?_
      refine wp_skip ?_
      refine hK15 _ _ ?_
      apply wp_seq_k; intro K19 hK19
      refine wp_region_mix [(0, true), (2, true), (1, false), (3, false), (4, false), (5, false)] mo (by kernel_rfl) (hs.pick [(6, 6), (5, 5)] rfl) fun _ => ?_
      have hs := hs.drew
      refine qst (.agg #[.string x0.Key, .int .i64 x0.Reg.Epoch, .int .i64 x0.Reg.Side, .int .i64 x0.Reg.Count, .int .i64 x0.Reg.Boot, .string x0.Reg.Base, .string x0.Reg.Tip, .string x0.Reg.Root, .slice A0_0 x0.Device.Sure.length p0_0, .slice A0_1 x0.Device.Unsure.length p0_1, .bool x0.Up, .bool x0.Dead]) hk rfl rfl rfl rfl (fun w hs => sln [.string x0.Key, .int .i64 x0.Reg.Epoch, .int .i64 x0.Reg.Side, .int .i64 x0.Reg.Count, .int .i64 x0.Reg.Boot, .string x0.Reg.Base, .string x0.Reg.Tip, .string x0.Reg.Root, .slice A0_0 x0.Device.Sure.length p0_0, .slice A0_1 x0.Device.Unsure.length p0_1, .bool x0.Up, .bool x0.Dead] rfl hk rfl rfl rfl ag29 sz29 (box_cells hs (k := 5) rfl) fun a hk => qe hk) fun a hk => ?_
      refine qst (.agg #[.string x1.Key, .int .i64 x1.Reg.Epoch, .int .i64 x1.Reg.Side, .int .i64 x1.Reg.Count, .int .i64 x1.Reg.Boot, .string x1.Reg.Base, .string x1.Reg.Tip, .string x1.Reg.Root, .slice A1_0 x1.Device.Sure.length p1_0, .slice A1_1 x1.Device.Unsure.length p1_1, .bool x1.Up, .bool x1.Dead]) hk rfl rfl rfl rfl (fun w hs => sln [.string x1.Key, .int .i64 x1.Reg.Epoch, .int .i64 x1.Reg.Side, .int .i64 x1.Reg.Count, .int .i64 x1.Reg.Boot, .string x1.Reg.Base, .string x1.Reg.Tip, .string x1.Reg.Root, .slice A1_0 x1.Device.Sure.length p1_0, .slice A1_1 x1.Device.Unsure.length p1_1, .bool x1.Up, .bool x1.Dead] rfl hk rfl rfl rfl ag29 sz29 (box_cells hs (k := 6) rfl) fun a hk => qe hk) fun a hk => ?_
      refine sst hk rfl rfl fun K20 hK20 w hF => ?_
      have hs := hs.f hF
      obtain ⟨y21, h22, H⟩ := bind_some H
      refine sc rfl en13 hk rfl rfl rfl (laws_toStore_t _ x0 A0_0 p0_0 _ v0_0 (hs.hasD (k := 1) rfl) A0_1 p0_1 _ v0_1 (hs.hasD (k := 2) rfl) _ h22) ?_
      rintro _ w ⟨A23, p24, k25, A27, p28, k29, rfl, o26, o30, hG⟩ a hk
      have hs := hs.call0k hG [7, 8] rfl
      refine se (hs.pick [(6, 6), (5, 5)] rfl) hk (hK20 _ _ ?_)
      refine sst hk rfl rfl fun K31 hK31 w hF => ?_
      have hs := hs.f hF
      obtain ⟨y32, h33, H⟩ := bind_some H
      refine sc rfl en13 hk rfl rfl rfl (laws_toStore_t _ x1 A1_0 p1_0 _ v1_0 (hs.hasD (k := 3) rfl) A1_1 p1_1 _ v1_1 (hs.hasD (k := 4) rfl) _ h33) ?_
      rintro _ w ⟨A34, p35, k36, A38, p39, k40, rfl, o37, o41, hG⟩ a hk
      have hs := hs.call0k hG [9, 10] rfl
      refine se (hs.pick [(6, 6), (5, 5)] rfl) hk (hK31 _ _ ?_)
      refine sst hk rfl rfl fun K42 hK42 w hF => ?_
      have hs := hs.f hF
      obtain ⟨y43, h44, H⟩ := bind_some H
      refine sc rfl en12 hk rfl rfl rfl (spec_SameStore_t _ y21 A23 p24 _ o26.view (hs.hasG (k := 7) rfl) A27 p28 _ o30.view (hs.hasG (k := 8) rfl) y32 A34 p35 _ o37.view (hs.hasG (k := 9) rfl) A38 p39 _ o41.view (hs.hasG (k := 10) rfl) _ h44) ?_
      rintro _ w ⟨rfl, hG⟩ a hk
      have hs := hs.call0 hG
      refine se (hs.pick [(6, 6), (5, 5)] rfl) hk (hK42 _ _ ?_)
      refine sst hk rfl rfl fun K45 hK45 w hF => ?_
      have hs := hs.f hF
      refine sa _ rfl hk rfl rfl rfl fun a hk => ?_
      refine se (hs.pick [(6, 6), (5, 5)] rfl) hk (hK45 _ _ ?_)
      refine wml_nil fun w hF _ => ?_
      have hs := hs.f hF
      refine hK19 _ _ ?_
      apply wp_seq_k; intro K46 hK46
      apply wp_region_lit
      refine sln [.string x0.Key, .int .i64 x0.Reg.Epoch, .int .i64 x0.Reg.Side, .int .i64 x0.Reg.Count, .int .i64 x0.Reg.Boot, .string x0.Reg.Base, .string x0.Reg.Tip, .string x0.Reg.Root, .slice A0_0 x0.Device.Sure.length p0_0, .slice A0_1 x0.Device.Unsure.length p0_1, .bool x0.Up, .bool x0.Dead] rfl hk rfl rfl rfl ag29 sz29 (box_cells hs (k := 5) rfl) fun a hk => ?_
      obtain ⟨y47, h48, H⟩ := bind_some H
      refine sc rfl en13 hk rfl rfl rfl (laws_toStore_t _ x0 A0_0 p0_0 _ v0_0 (hs.hasD (k := 1) rfl) A0_1 p0_1 _ v0_1 (hs.hasD (k := 2) rfl) _ h48) ?_
      rintro _ w ⟨A49, p50, k51, A53, p54, k55, rfl, o52, o56, hG⟩ a hk
      have hs := hs.call0k hG [11, 12] rfl
      refine salx 13 hs rfl hk rfl rfl ze37 rfl fun b57 w a hk hs => ?_
      refine ssw 13 hs rfl rfl hk rfl rfl rfl rfl sz37 (by simp [Value.oneCell']) rfl fun w a hk hs => ?_
      show wpList _ _ _ [] _ _
      refine wpList_nil ?_
      refine hK46 _ _ ?_
      apply wp_seq_k; intro K58 hK58
      apply wp_region_lit
      refine sln [.string x1.Key, .int .i64 x1.Reg.Epoch, .int .i64 x1.Reg.Side, .int .i64 x1.Reg.Count, .int .i64 x1.Reg.Boot, .string x1.Reg.Base, .string x1.Reg.Tip, .string x1.Reg.Root, .slice A1_0 x1.Device.Sure.length p1_0, .slice A1_1 x1.Device.Unsure.length p1_1, .bool x1.Up, .bool x1.Dead] rfl hk rfl rfl rfl ag29 sz29 (box_cells hs (k := 6) rfl) fun a hk => ?_
      obtain ⟨y59, h60, H⟩ := bind_some H
      refine sc rfl en13 hk rfl rfl rfl (laws_toStore_t _ x1 A1_0 p1_0 _ v1_0 (hs.hasD (k := 3) rfl) A1_1 p1_1 _ v1_1 (hs.hasD (k := 4) rfl) _ h60) ?_
      rintro _ w ⟨A61, p62, k63, A65, p66, k67, rfl, o64, o68, hG⟩ a hk
      have hs := hs.call0k hG [14, 15] rfl
      refine salx 16 hs rfl hk rfl rfl ze37 rfl fun b69 w a hk hs => ?_
      refine ssw 16 hs rfl rfl hk rfl rfl rfl rfl sz37 (by simp [Value.oneCell']) rfl fun w a hk hs => ?_
      show wpList _ _ _ [] _ _
      refine wpList_nil ?_
      refine hK58 _ _ ?_
      apply wp_seq_k; intro K70 hK70
      apply wp_region_lit
      refine sln [.string y47.Key, .int .i64 y47.Reg.Epoch, .int .i64 y47.Reg.Side, .int .i64 y47.Reg.Count, .int .i64 y47.Reg.Boot, .string y47.Reg.Base, .string y47.Reg.Tip, .string y47.Reg.Root, .slice A49 y47.Device.Sure.length p50, .slice A53 y47.Device.Unsure.length p54, .bool y47.Up, .bool y47.Dead] rfl hk rfl rfl rfl ag37 sz37 (box_cells hs (k := 13) rfl) fun a hk => ?_
      refine sln [.string y59.Key, .int .i64 y59.Reg.Epoch, .int .i64 y59.Reg.Side, .int .i64 y59.Reg.Count, .int .i64 y59.Reg.Boot, .string y59.Reg.Base, .string y59.Reg.Tip, .string y59.Reg.Root, .slice A61 y59.Device.Sure.length p62, .slice A65 y59.Device.Unsure.length p66, .bool y59.Up, .bool y59.Dead] rfl hk rfl rfl rfl ag37 sz37 (box_cells hs (k := 16) rfl) fun a hk => ?_
      obtain ⟨y71, h72, H⟩ := bind_some H
      refine sc rfl en14 hk rfl rfl rfl (impl_SameStore_t _ y47 A49 p50 _ o52.view (hs.hasG (k := 11) rfl) A53 p54 _ o56.view (hs.hasG (k := 12) rfl) y59 A61 p62 _ o64.view (hs.hasG (k := 14) rfl) A65 p66 _ o68.view (hs.hasG (k := 15) rfl) _ h72) ?_
      rintro _ w ⟨rfl, hG⟩ a hk
      have hs := hs.call0 hG
      refine sa _ rfl hk rfl rfl rfl fun a hk => ?_
      show wpList _ _ _ [] _ _
      refine wpList_nil ?_
      refine hK70 _ _ ?_
      apply wp_seq_k; intro K73 hK73
      apply wp_seq_k; intro K74 hK74
      apply wp_region_lit
      refine sm _ rfl hk rfl rfl rfl fun a hk => ?_
      refine sm _ rfl hk rfl rfl rfl fun a hk => ?_
      refine sbn rfl hk rfl rfl rfl rfl un4 fun a hk => ?_
      show wpList _ _ _ [] _ _
      refine wpList_nil ?_
      refine hK74 _ _ ?_
      rcases cond_some H with ⟨c75, H⟩ | ⟨c75, H⟩
      · have hk := hk.lit 34 c75 rfl
        refine cnd_true hk rfl rfl ?_
        apply wp_seq_k; intro K76 hK76
        apply wp_region_lit
        refine sa _ rfl hk rfl rfl rfl fun a hk => ?_
        show wpList _ _ _ [] _ _
        refine wpList_nil ?_
        refine hK76 _ _ ?_
        refine wp_ret ?_
        obtain rfl := Option.some.inj H
        exact fin hk _ [(.bool false)] rfl ⟨rfl, trivial⟩ ⟨rfl, (hs.pick [] rfl).dnil⟩
      · have hk := hk.lit 34 c75 rfl
        refine cnd_false hk rfl rfl ?_
        refine wp_skip ?_
        refine hK73 _ _ ?_
        apply wp_seq_k; intro K77 hK77
        apply wp_seq_k; intro K78 hK78
        refine wp_region_mix [(0, true), (1, true), (2, false), (3, false), (4, false)] mo (by kernel_rfl) (hs.pick [(16, 16), (15, 15), (14, 14), (13, 13), (12, 12), (11, 11), (10, 10), (9, 9), (8, 8), (7, 7), (6, 6), (5, 5)] rfl) fun _ => ?_
        have hs := hs.drew
        refine qst (.agg #[.string y47.Key, .int .i64 y47.Reg.Epoch, .int .i64 y47.Reg.Side, .int .i64 y47.Reg.Count, .int .i64 y47.Reg.Boot, .string y47.Reg.Base, .string y47.Reg.Tip, .string y47.Reg.Root, .slice A49 y47.Device.Sure.length p50, .slice A53 y47.Device.Unsure.length p54, .bool y47.Up, .bool y47.Dead]) hk rfl rfl rfl rfl (fun w hs => sln [.string y47.Key, .int .i64 y47.Reg.Epoch, .int .i64 y47.Reg.Side, .int .i64 y47.Reg.Count, .int .i64 y47.Reg.Boot, .string y47.Reg.Base, .string y47.Reg.Tip, .string y47.Reg.Root, .slice A49 y47.Device.Sure.length p50, .slice A53 y47.Device.Unsure.length p54, .bool y47.Up, .bool y47.Dead] rfl hk rfl rfl rfl ag37 sz37 (box_cells hs (k := 13) rfl) fun a hk => qe hk) fun a hk => ?_
        refine qst (.agg #[.string x0.Key, .int .i64 x0.Reg.Epoch, .int .i64 x0.Reg.Side, .int .i64 x0.Reg.Count, .int .i64 x0.Reg.Boot, .string x0.Reg.Base, .string x0.Reg.Tip, .string x0.Reg.Root, .slice A0_0 x0.Device.Sure.length p0_0, .slice A0_1 x0.Device.Unsure.length p0_1, .bool x0.Up, .bool x0.Dead]) hk rfl rfl rfl rfl (fun w hs => sln [.string x0.Key, .int .i64 x0.Reg.Epoch, .int .i64 x0.Reg.Side, .int .i64 x0.Reg.Count, .int .i64 x0.Reg.Boot, .string x0.Reg.Base, .string x0.Reg.Tip, .string x0.Reg.Root, .slice A0_0 x0.Device.Sure.length p0_0, .slice A0_1 x0.Device.Unsure.length p0_1, .bool x0.Up, .bool x0.Dead] rfl hk rfl rfl rfl ag29 sz29 (box_cells hs (k := 5) rfl) fun a hk => qe hk) fun a hk => ?_
        refine sst hk rfl rfl fun K79 hK79 w hF => ?_
        have hs := hs.f hF
        obtain ⟨y80, h81, H⟩ := bind_some H
        refine sc rfl en13 hk rfl rfl rfl (laws_toStore_t _ x0 A0_0 p0_0 _ v0_0 (hs.hasD (k := 1) rfl) A0_1 p0_1 _ v0_1 (hs.hasD (k := 2) rfl) _ h81) ?_
        rintro _ w ⟨A82, p83, k84, A86, p87, k88, rfl, o85, o89, hG⟩ a hk
        have hs := hs.call0k hG [17, 18] rfl
        refine se (hs.pick [(16, 16), (15, 15), (14, 14), (13, 13), (12, 12), (11, 11), (10, 10), (9, 9), (8, 8), (7, 7), (6, 6), (5, 5)] rfl) hk (hK79 _ _ ?_)
        refine sst hk rfl rfl fun K90 hK90 w hF => ?_
        have hs := hs.f hF
        obtain ⟨y91, h92, H⟩ := bind_some H
        refine sc rfl en15 hk rfl rfl rfl (laws_eqStore_t _ y47 A49 p50 _ o52.view (hs.hasG (k := 11) rfl) A53 p54 _ o56.view (hs.hasG (k := 12) rfl) y80 A82 p83 _ o85.view (hs.hasG (k := 17) rfl) A86 p87 _ o89.view (hs.hasG (k := 18) rfl) _ h92) ?_
        rintro _ w ⟨rfl, hG⟩ a hk
        have hs := hs.call0 hG
        refine se (hs.pick [(16, 16), (15, 15), (14, 14), (13, 13), (12, 12), (11, 11), (10, 10), (9, 9), (8, 8), (7, 7), (6, 6), (5, 5)] rfl) hk (hK90 _ _ ?_)
        refine sst hk rfl rfl fun K93 hK93 w hF => ?_
        have hs := hs.f hF
        refine sv (.bool (!y91)) hk rfl rfl rfl fun a hk => ?_
        refine se (hs.pick [(16, 16), (15, 15), (14, 14), (13, 13), (12, 12), (11, 11), (10, 10), (9, 9), (8, 8), (7, 7), (6, 6), (5, 5)] rfl) hk (hK93 _ _ ?_)
        refine wml_nil fun w hF _ => ?_
        have hs := hs.f hF
        refine hK78 _ _ ?_
        rcases cond_some H with ⟨c94, H⟩ | ⟨c94, H⟩
        · have hk := hk.lit 39 c94 rfl
          refine cnd_true hk rfl rfl ?_
          apply wp_seq_k; intro K95 hK95
          apply wp_region_lit
          refine sa _ rfl hk rfl rfl rfl fun a hk => ?_
          show wpList _ _ _ [] _ _
          refine wpList_nil ?_
          refine hK95 _ _ ?_
          refine wp_ret ?_
          obtain rfl := Option.some.inj H
          exact fin hk _ [(.bool false)] rfl ⟨rfl, trivial⟩ ⟨rfl, (hs.pick [] rfl).dnil⟩
        · have hk := hk.lit 39 c94 rfl
          refine cnd_false hk rfl rfl ?_
          refine wp_skip ?_
          refine hK77 _ _ ?_
          apply wp_seq_k; intro K96 hK96
          apply wp_seq_k; intro K97 hK97
          refine wp_region_mix [(0, true), (1, true), (2, false), (3, false), (4, false)] mo (by kernel_rfl) (hs.pick [(18, 18), (17, 17), (16, 16), (15, 15), (14, 14), (13, 13), (12, 12), (11, 11), (10, 10), (9, 9), (8, 8), (7, 7), (6, 6), (5, 5)] rfl) fun _ => ?_
          have hs := hs.drew
          refine qst (.agg #[.string y59.Key, .int .i64 y59.Reg.Epoch, .int .i64 y59.Reg.Side, .int .i64 y59.Reg.Count, .int .i64 y59.Reg.Boot, .string y59.Reg.Base, .string y59.Reg.Tip, .string y59.Reg.Root, .slice A61 y59.Device.Sure.length p62, .slice A65 y59.Device.Unsure.length p66, .bool y59.Up, .bool y59.Dead]) hk rfl rfl rfl rfl (fun w hs => sln [.string y59.Key, .int .i64 y59.Reg.Epoch, .int .i64 y59.Reg.Side, .int .i64 y59.Reg.Count, .int .i64 y59.Reg.Boot, .string y59.Reg.Base, .string y59.Reg.Tip, .string y59.Reg.Root, .slice A61 y59.Device.Sure.length p62, .slice A65 y59.Device.Unsure.length p66, .bool y59.Up, .bool y59.Dead] rfl hk rfl rfl rfl ag37 sz37 (box_cells hs (k := 16) rfl) fun a hk => qe hk) fun a hk => ?_
          refine qst (.agg #[.string x1.Key, .int .i64 x1.Reg.Epoch, .int .i64 x1.Reg.Side, .int .i64 x1.Reg.Count, .int .i64 x1.Reg.Boot, .string x1.Reg.Base, .string x1.Reg.Tip, .string x1.Reg.Root, .slice A1_0 x1.Device.Sure.length p1_0, .slice A1_1 x1.Device.Unsure.length p1_1, .bool x1.Up, .bool x1.Dead]) hk rfl rfl rfl rfl (fun w hs => sln [.string x1.Key, .int .i64 x1.Reg.Epoch, .int .i64 x1.Reg.Side, .int .i64 x1.Reg.Count, .int .i64 x1.Reg.Boot, .string x1.Reg.Base, .string x1.Reg.Tip, .string x1.Reg.Root, .slice A1_0 x1.Device.Sure.length p1_0, .slice A1_1 x1.Device.Unsure.length p1_1, .bool x1.Up, .bool x1.Dead] rfl hk rfl rfl rfl ag29 sz29 (box_cells hs (k := 6) rfl) fun a hk => qe hk) fun a hk => ?_
          refine sst hk rfl rfl fun K98 hK98 w hF => ?_
          have hs := hs.f hF
          obtain ⟨y99, h100, H⟩ := bind_some H
          refine sc rfl en13 hk rfl rfl rfl (laws_toStore_t _ x1 A1_0 p1_0 _ v1_0 (hs.hasD (k := 3) rfl) A1_1 p1_1 _ v1_1 (hs.hasD (k := 4) rfl) _ h100) ?_
          rintro _ w ⟨A101, p102, k103, A105, p106, k107, rfl, o104, o108, hG⟩ a hk
          have hs := hs.call0k hG [19, 20] rfl
          refine se (hs.pick [(18, 18), (17, 17), (16, 16), (15, 15), (14, 14), (13, 13), (12, 12), (11, 11), (10, 10), (9, 9), (8, 8), (7, 7), (6, 6), (5, 5)] rfl) hk (hK98 _ _ ?_)
          refine sst hk rfl rfl fun K109 hK109 w hF => ?_
          have hs := hs.f hF
          obtain ⟨y110, h111, H⟩ := bind_some H
          refine sc rfl en15 hk rfl rfl rfl (laws_eqStore_t _ y59 A61 p62 _ o64.view (hs.hasG (k := 14) rfl) A65 p66 _ o68.view (hs.hasG (k := 15) rfl) y99 A101 p102 _ o104.view (hs.hasG (k := 19) rfl) A105 p106 _ o108.view (hs.hasG (k := 20) rfl) _ h111) ?_
          rintro _ w ⟨rfl, hG⟩ a hk
          have hs := hs.call0 hG
          refine se (hs.pick [(18, 18), (17, 17), (16, 16), (15, 15), (14, 14), (13, 13), (12, 12), (11, 11), (10, 10), (9, 9), (8, 8), (7, 7), (6, 6), (5, 5)] rfl) hk (hK109 _ _ ?_)
          refine sst hk rfl rfl fun K112 hK112 w hF => ?_
          have hs := hs.f hF
          refine sv (.bool (!y110)) hk rfl rfl rfl fun a hk => ?_
          refine se (hs.pick [(18, 18), (17, 17), (16, 16), (15, 15), (14, 14), (13, 13), (12, 12), (11, 11), (10, 10), (9, 9), (8, 8), (7, 7), (6, 6), (5, 5)] rfl) hk (hK112 _ _ ?_)
          refine wml_nil fun w hF _ => ?_
          have hs := hs.f hF
          refine hK97 _ _ ?_
          rcases cond_some H with ⟨c113, H⟩ | ⟨c113, H⟩
          · have hk := hk.lit 44 c113 rfl
            refine cnd_true hk rfl rfl ?_
            apply wp_seq_k; intro K114 hK114
            apply wp_region_lit
            refine sa _ rfl hk rfl rfl rfl fun a hk => ?_
            show wpList _ _ _ [] _ _
            refine wpList_nil ?_
            refine hK114 _ _ ?_
            refine wp_ret ?_
            obtain rfl := Option.some.inj H
            exact fin hk _ [(.bool false)] rfl ⟨rfl, trivial⟩ ⟨rfl, (hs.pick [] rfl).dnil⟩
          · have hk := hk.lit 44 c113 rfl
            refine cnd_false hk rfl rfl ?_
            refine wp_skip ?_
            refine hK96 _ _ ?_
            apply wp_seq_k; intro K115 hK115
            apply wp_region_lit
            refine sa _ rfl hk rfl rfl rfl fun a hk => ?_
            show wpList _ _ _ [] _ _
            refine wpList_nil ?_
            refine hK115 _ _ ?_
            refine wp_ret ?_
            obtain rfl := Option.some.inj H
            exact fin hk _ [(.bool true)] rfl ⟨rfl, trivial⟩ ⟨rfl, (hs.pick [] rfl).dnil⟩

end Go.Proofs.Ytmafglodgnbajaa
