/- The functions that FnExactNewEnc reaches: for each a model and the walk that shows that the Go code comes to it. -/
import Derived.Test.YtlbbkehdfgjneaaT
namespace Go.Proofs.Ytlbbkehdfgjneaa
open Go Go.Z Go.Proofs Go.MuLone Go.ChangeShapes Go.WideShapes Go.ChangeAt Go.RowKit
set_option linter.unusedVariables false
set_option linter.unusedSimpArgs false
noncomputable def laws_eqIntS.s0 (l0 : List Int) (l1 : List Int) (u10 : Int) : Option ((Int) ⊕ Ex (Unit) (Bool)) :=
  (bif (decide (u10 < (l0.length : Int))) then (if 0 ≤ u10 ∧ u10 < (l0.length : Int) then (if 0 ≤ u10 ∧ u10 < (l1.length : Int) then (bif ((l0.getD u10.toNat 0) != (l1.getD u10.toNat 0)) then (some (.inr (.ret false))) else (some (.inl (w64 (u10 + 1))))) else none) else none) else (some (.inr (.out ()))))
noncomputable def laws_eqIntS.f (l0 : List Int) (l1 : List Int) : Option (Bool) :=
  (bif ((l0.length : Int) != (l1.length : Int)) then (some false) else ((loopO (fun s => laws_eqIntS.s0 l0 l1 s) 0).bind fun o => match o with | .out _ => (some true) | .ret r => (some r)))
set_option maxRecDepth 100000 in
set_option maxHeartbeats 0 in
theorem laws_eqIntS_t (w0 : World) (A0_ : Option Addr) (p0_ : Nat) (l0 : List Int) (k0_ : Chunk) (v0_ : View (Lay.int .i64) A0_ p0_ l0 k0_) (w0_ : Has w0 k0_) (A1_ : Option Addr) (p1_ : Nat) (l1 : List Int) (k1_ : Chunk) (v1_ : View (Lay.int .i64) A1_ p1_ l1 k1_) (w1_ : Has w0 k1_) (r : Bool) (H : laws_eqIntS.f l0 l1 = some r) :
    Calls Try.prog 17 #[.slice A0_ l0.length p0_, .slice A1_ l1.length p1_] w0 (Ret (fun v w => v = .bool r ∧ Sat [] w0 w [] [])) := by
  have hs : Sat [] w0 w0 [(1, k0_), (2, k1_)] [] := Sat.init w0 [(1, k0_), (2, k1_)] [] (by simp only [List.mem_cons, List.not_mem_nil, or_false]; rintro x (rfl | rfl) <;> assumption) (by simp) List.nodup_nil (by simp [blks])
  unfold laws_eqIntS.f at H
  refine enter Try.func17 rfl Try.ntmps17 rfl fun a hk => ?_
  apply wp_seq_k; intro K1 hK1
  apply wp_region_lit
  refine sa _ rfl hk rfl rfl rfl fun a hk => ?_
  show wpList _ _ _ [] _ _
  refine wpList_nil ?_
  refine hK1 _ _ ?_
  apply wp_seq_k; intro K2 hK2
  apply wp_seq_k; intro K3 hK3
  apply wp_region_lit
  refine sm _ rfl hk rfl rfl rfl fun a hk => ?_
  refine sle rfl hk rfl rfl rfl un27 fun a hk => ?_
  refine sm _ rfl hk rfl rfl rfl fun a hk => ?_
  refine sle rfl hk rfl rfl rfl un27 fun a hk => ?_
  refine sv (.bool ((l0.length : Int) != (l1.length : Int))) hk rfl rfl rfl fun a hk => ?_
  show wpList _ _ _ [] _ _
  refine wpList_nil ?_
  refine hK3 _ _ ?_
  rcases cond_some H with ⟨c4, H⟩ | ⟨c4, H⟩
  · have hk := hk.lit 10 c4 rfl
    refine cnd_true hk rfl rfl ?_
    apply wp_seq_k; intro K5 hK5
    apply wp_region_lit
    refine sa _ rfl hk rfl rfl rfl fun a hk => ?_
    show wpList _ _ _ [] _ _
    refine wpList_nil ?_
    refine hK5 _ _ ?_
    refine wp_ret ?_
    obtain rfl := Option.some.inj H
    exact fin hk _ [(.bool false)] rfl ⟨rfl, trivial⟩ ⟨rfl, (hs.pick [] rfl).dnil⟩
  · have hk := hk.lit 10 c4 rfl
    refine cnd_false hk rfl rfl ?_
    refine wp_skip ?_
    refine hK2 _ _ ?_
    apply wp_seq_k; intro K6 hK6
    apply wp_seq_k; intro K7 hK7
    apply wp_region_lit
    refine sa _ rfl hk rfl rfl rfl fun a hk => ?_
    show wpList _ _ _ [] _ _
    refine wpList_nil ?_
    refine hK7 _ _ ?_
    obtain ⟨o11, h12, HL13⟩ := bind_some H
    clear H
    obtain ⟨R14, hR14⟩ : ∃ R : Act → World → Prop, R = fun a w => o11 = .out () ∧ Kn [] 26 a ∧ Sat [] w0 w [(1, k0_), (2, k1_)] [] := ⟨_, rfl⟩
    refine wp_cutq R14 ?_ ?_
    · refine wp_block ?_
      obtain ⟨fu16, h12⟩ := loopO_some h12
      obtain ⟨I15, hI15⟩ : ∃ I : Nat → Act → World → Prop, I = fun fu a w => ∃ (u10 : Int), loopN (fun s => laws_eqIntS.s0 l0 l1 s) fu u10 = some o11 ∧ Kn [(0, (.slice A0_ l0.length p0_)), (1, (.slice A1_ l1.length p1_)), (5, (.int .i64 u10))] 26 a ∧ Sat [] w0 w [(1, k0_), (2, k1_)] [] := ⟨_, rfl⟩
      refine wp_loop_ghost I15 fu16 ?_ ?_
      · rw [hI15]
        exact ⟨0, h12, (hk.c 0 rfl (hk.c 1 rfl (hk.c 5 rfl hk.k))), (hs.pick [] rfl)⟩
      · clear h12 hk hs
        intro fu16 a w hI0
        rw [hI15] at hI0
        obtain ⟨u10, hi, hk, hs⟩ := hI0
        obtain ⟨x17, H, h18⟩ := loop_round hi
        try dsimp only at H
        unfold laws_eqIntS.s0 at H
        apply wp_seq_k; intro K19 hK19
        apply wp_seq_k; intro K20 hK20
        apply wp_region_lit
        refine sm _ rfl hk rfl rfl rfl fun a hk => ?_
        refine sm _ rfl hk rfl rfl rfl fun a hk => ?_
        refine sle rfl hk rfl rfl rfl un27 fun a hk => ?_
        refine sv (.bool (decide (u10 < (l0.length : Int)))) hk rfl rfl rfl fun a hk => ?_
        show wpList _ _ _ [] _ _
        refine wpList_nil ?_
        refine hK20 _ _ ?_
        rcases cond_some H with ⟨c21, H⟩ | ⟨c21, H⟩
        · have hk := hk.lit 14 c21 rfl
          refine cnd_true hk rfl rfl ?_
          refine wp_skip ?_
          refine hK19 _ _ ?_
          apply wp_seq_k; intro K22 hK22
          refine wp_block ?_
          apply wp_seq_k; intro K23 hK23
          refine wp_region_tree (.q 0 (.q 1 (.q 2 (.q 3 (.q 4 (.alt 5 (.alt 6 (.alt 7 (.alt 8 .done .stop) .stop) .stop) .stop)))))) mo (by kernel_rfl) (hs.pick [] rfl) fun _ => ?_
          have hs := hs.drew
          refine tqst (.slice A0_ l0.length p0_) hk rfl rfl rfl rfl (fun w hs => sm _ rfl hk rfl rfl rfl fun a hk => qe hk) fun a hk => ?_
          refine tqst (.int .i64 u10) hk rfl rfl rfl rfl (fun w hs => sm _ rfl hk rfl rfl rfl fun a hk => qe hk) fun a hk => ?_
          rcases ite_some H with ⟨c25, H⟩ | ⟨_, H⟩
          rotate_left
          · cases H
          obtain ⟨b26, q27, hAc25⟩ := (v0_).some_ u10 c25.1 c25.2
          refine tqst (.pointer (some (padd A0_ (u10.toNat * 1)))) hk rfl rfl rfl rfl (fun w hs => si rfl hk rfl rfl rfl rfl un27 sz3 c25.1 c25.2 hAc25 fun a hk => qe hk) fun a hk => ?_
          obtain ⟨_, rfl, e28⟩ := (v0_).at_ 0 u10 c25.1 c25.2
          refine tqst (.int .i64 (l0.getD u10.toNat 0)) hk rfl rfl rfl rfl (fun w hs => sl (v := (.int .i64 (l0.getD u10.toNat 0))) rfl hk rfl rfl rfl ag3 ((e28 0 _ rfl).cell (hs.hasD (k := 1) rfl)) fun a hk => qe hk) fun a hk => ?_
          refine tqst (.slice A1_ l1.length p1_) hk rfl rfl rfl rfl (fun w hs => sm _ rfl hk rfl rfl rfl fun a hk => qe hk) fun a hk => ?_
          refine tsst hk rfl rfl (fun K_r24_5 hK_r24_5 w hF => ?_) wt_stop
          have hs := hs.f hF
          refine sm _ rfl hk rfl rfl rfl fun a hk => ?_
          refine se (hs.pick [] rfl) hk (hK_r24_5 _ _ ?_)
          refine tsst hk rfl rfl (fun K_r24_6 hK_r24_6 w hF => ?_) wt_stop
          have hs := hs.f hF
          rcases ite_some H with ⟨c29, H⟩ | ⟨_, H⟩
          rotate_left
          · cases H
          obtain ⟨b30, q31, hAc29⟩ := (v1_).some_ u10 c29.1 c29.2
          refine si rfl hk rfl rfl rfl rfl un27 sz3 c29.1 c29.2 hAc29 fun a hk => ?_
          refine se (hs.pick [] rfl) hk (hK_r24_6 _ _ ?_)
          refine tsst hk rfl rfl (fun K_r24_7 hK_r24_7 w hF => ?_) wt_stop
          have hs := hs.f hF
          obtain ⟨_, rfl, e32⟩ := (v1_).at_ 0 u10 c29.1 c29.2
          refine sl (v := (.int .i64 (l1.getD u10.toNat 0))) rfl hk rfl rfl rfl ag3 ((e32 0 _ rfl).cell (hs.hasD (k := 2) rfl)) fun a hk => ?_
          refine se (hs.pick [] rfl) hk (hK_r24_7 _ _ ?_)
          refine tsst hk rfl rfl (fun K_r24_8 hK_r24_8 w hF => ?_) wt_stop
          have hs := hs.f hF
          refine sv (.bool ((l0.getD u10.toNat 0) != (l1.getD u10.toNat 0))) hk rfl rfl rfl fun a hk => ?_
          refine se (hs.pick [] rfl) hk (hK_r24_8 _ _ ?_)
          refine wtl_nil fun w hF _ => ?_
          have hs := hs.f hF
          refine hK23 _ _ ?_
          rcases cond_some H with ⟨c33, H⟩ | ⟨c33, H⟩
          · have hk := hk.lit 25 c33 rfl
            refine cnd_true hk rfl rfl ?_
            apply wp_seq_k; intro K34 hK34
            apply wp_region_lit
            refine sa _ rfl hk rfl rfl rfl fun a hk => ?_
            show wpList _ _ _ [] _ _
            refine wpList_nil ?_
            refine hK34 _ _ ?_
            refine wp_ret ?_
            obtain rfl := Option.some.inj H
            have ho11 := h18
            try dsimp only at ho11
            subst ho11
            have H := HL13
            try dsimp only at H
            obtain rfl := Option.some.inj H
            exact fin hk _ [(.bool false)] rfl ⟨rfl, trivial⟩ ⟨rfl, (hs.pick [] rfl).dnil⟩
          · have hk := hk.lit 25 c33 rfl
            refine cnd_false hk rfl rfl ?_
            refine wp_skip ?_
            refine hK22 _ _ ?_
            apply wp_region_lit
            refine sm _ rfl hk rfl rfl rfl fun a hk => ?_
            refine sv (.int .i64 (w64 (u10 + 1))) hk rfl rfl rfl fun a hk => ?_
            refine sa _ rfl hk rfl rfl rfl fun a hk => ?_
            show wpList _ _ _ [] _ _
            refine wpList_nil ?_
            obtain rfl := Option.some.inj H
            obtain ⟨m35, hmm35, h18⟩ := h18
            show ∃ n', n' < _ ∧ I15 n' _ _
            refine ⟨m35, hmm35, ?_⟩
            rw [hI15]
            exact ⟨(w64 (u10 + 1)), h18, (hk.c 0 rfl (hk.c 1 rfl (hk.c 5 rfl hk.k))), (hs.pick [] rfl)⟩
        · have hk := hk.lit 14 c21 rfl
          refine cnd_false hk rfl rfl ?_
          refine wp_exit ?_
          obtain rfl := Option.some.inj H
          show R14 _ _
          rw [hR14]
          exact ⟨h18.symm, hk.k, (hs.pick [] rfl)⟩
    · intro a w hR0
      rw [hR14] at hR0
      obtain ⟨rfl, hk, hs⟩ := hR0
      have H := HL13
      try dsimp only at H
      refine hK6 _ _ ?_
      apply wp_seq_k; intro K36 hK36
      apply wp_region_lit
      refine sa _ rfl hk rfl rfl rfl fun a hk => ?_
      show wpList _ _ _ [] _ _
      refine wpList_nil ?_
      refine hK36 _ _ ?_
      refine wp_ret ?_
      obtain rfl := Option.some.inj H
      exact fin hk _ [(.bool true)] rfl ⟨rfl, trivial⟩ ⟨rfl, (hs.pick [] rfl).dnil⟩

noncomputable def laws_markIntS.s0 (l0 : List Int) (u6 : List Int) (u10 : Int) (u11 : Int) : Option (((List Int) × Int × Int) ⊕ Ex ((List Int) × Int) (Int × (List Int))) :=
  (bif (decide (u11 < (l0.length : Int))) then (if 0 ≤ u11 ∧ u11 < (l0.length : Int) then (some (.inl ((u6.set u11.toNat u10), (w64 (u10 + 1)), (w64 (u11 + 1))))) else none) else (some (.inr (.out (u6, u10)))))
noncomputable def laws_markIntS.f (l0 : List Int) (x1 : Int) : Option (Int × (List Int)) :=
  ((loopO (fun s => laws_markIntS.s0 l0 s.1 s.2.1 s.2.2) (l0, x1, 0)).bind fun o => match o with | .out (u12, u16) => (some (u16, u12)) | .ret r => (some r))
set_option maxRecDepth 100000 in
set_option maxHeartbeats 0 in
theorem laws_markIntS_t (w0 : World) (A0_ : Option Addr) (p0_ : Nat) (l0 : List Int) (k0_ : Chunk) (v0_ : Own (Lay.int .i64) 3 A0_ p0_ l0 k0_) (x1 : Int) (hs0 : Sat (blks [(1, k0_)]) w0 w0 [] [(1, k0_)]) (r : Int × (List Int)) (H : laws_markIntS.f l0 x1 = some r) :
    Calls Try.prog 19 #[.slice A0_ l0.length p0_, .int .i64 x1] w0 (Ret (fun v w => ∃ (k0 : Chunk), v = .int .i64 r.1 ∧ (Own (Lay.int .i64) 3 A0_ p0_ r.2 k0 ∧ r.2.length = l0.length) ∧ Sat (blks [(1, k0_)]) w0 w [] [(0, k0)])) := by
  have hs := hs0
  unfold laws_markIntS.f at H
  refine enter Try.func19 rfl Try.ntmps19 rfl fun a hk => ?_
  apply wp_seq_k; intro K1 hK1
  apply wp_region_lit
  refine sa _ rfl hk rfl rfl rfl fun a hk => ?_
  show wpList _ _ _ [] _ _
  refine wpList_nil ?_
  refine hK1 _ _ ?_
  apply wp_seq_k; intro K2 hK2
  apply wp_seq_k; intro K3 hK3
  apply wp_region_lit
  refine sa _ rfl hk rfl rfl rfl fun a hk => ?_
  show wpList _ _ _ [] _ _
  refine wpList_nil ?_
  refine hK3 _ _ ?_
  obtain ⟨o17, h18, HL19⟩ := bind_some H
  clear H
  obtain ⟨R20, hR20⟩ : ∃ R : Act → World → Prop, R = fun a w => ∃ (u12 : List Int) (u16 : Int) (k13 : Chunk), o17 = .out (u12, u16) ∧ Kn [(0, (.slice A0_ l0.length p0_)), (1, (.int .i64 u16))] 19 a ∧ Sat (blks [(1, k0_)]) w0 w [] [(1, k13)] ∧ Own (Lay.int .i64) 3 A0_ p0_ u12 k13 ∧ u12.length = l0.length := ⟨_, rfl⟩
  refine wp_cutq R20 ?_ ?_
  · refine wp_block ?_
    obtain ⟨fu22, h18⟩ := loopO_some h18
    obtain ⟨I21, hI21⟩ : ∃ I : Nat → Act → World → Prop, I = fun fu a w => ∃ (u6 : List Int) (u10 : Int) (u11 : Int) (k7 : Chunk), loopN (fun s => laws_markIntS.s0 l0 s.1 s.2.1 s.2.2) fu (u6, u10, u11) = some o17 ∧ Kn [(0, (.slice A0_ l0.length p0_)), (1, (.int .i64 u10)), (5, (.int .i64 u11))] 19 a ∧ Sat (blks [(1, k0_)]) w0 w [] [(1, k7)] ∧ Own (Lay.int .i64) 3 A0_ p0_ u6 k7 ∧ u6.length = l0.length := ⟨_, rfl⟩
    refine wp_loop_ghost I21 fu22 ?_ ?_
    · rw [hI21]
      exact ⟨l0, x1, 0, _, h18, (hk.c 0 rfl (hk.c 1 rfl (hk.c 5 rfl hk.k))), (hs.pick [(1, 1)] rfl), v0_, rfl⟩
    · clear h18 hk hs
      intro fu22 a w hI0
      rw [hI21] at hI0
      obtain ⟨u6, u10, u11, k7, hi, hk, hs, o8, lh9⟩ := hI0
      obtain ⟨x23, H, h24⟩ := loop_round hi
      try dsimp only at H
      unfold laws_markIntS.s0 at H
      apply wp_seq_k; intro K25 hK25
      apply wp_seq_k; intro K26 hK26
      apply wp_region_lit
      refine sm _ rfl hk rfl rfl rfl fun a hk => ?_
      refine sm _ rfl hk rfl rfl rfl fun a hk => ?_
      refine sle rfl hk rfl rfl rfl un27 fun a hk => ?_
      refine sv (.bool (decide (u11 < (l0.length : Int)))) hk rfl rfl rfl fun a hk => ?_
      show wpList _ _ _ [] _ _
      refine wpList_nil ?_
      refine hK26 _ _ ?_
      rcases cond_some H with ⟨c27, H⟩ | ⟨c27, H⟩
      · have hk := hk.lit 9 c27 rfl
        refine cnd_true hk rfl rfl ?_
        refine wp_skip ?_
        refine hK25 _ _ ?_
        apply wp_seq_k; intro K28 hK28
        refine wp_block ?_
        apply wp_seq_k; intro K29 hK29
        apply wp_region_lit
        refine sm _ rfl hk rfl rfl rfl fun a hk => ?_
        refine sm _ rfl hk rfl rfl rfl fun a hk => ?_
        refine sm _ rfl hk rfl rfl rfl fun a hk => ?_
        rcases ite_some H with ⟨c30, H⟩ | ⟨_, H⟩
        rotate_left
        · cases H
        obtain ⟨b31, q32, hAc30⟩ := (o8.view).some_ u11 c30.1 (by rw [lh9]; exact c30.2)
        refine si rfl hk rfl rfl rfl rfl un27 sz3 c30.1 c30.2 hAc30 fun a hk => ?_
        refine so (j := 0) 1 0 u10 hs rfl o8 c30.1 (by rw [lh9]; exact c30.2) rfl hk rfl rfl rfl rfl rfl sz3 (by simp [Value.cells, Value.oneCell']) (Nat.le_of_ble_eq_true rfl) (fun _ _ h => ⟨by rw [h.1]; rfl, h.2⟩) fun k33 w a hk o34 hs => ?_
        have lh35 : (u6.set u11.toNat u10).length = l0.length := by rw [List.length_set]; exact lh9
        show wpList _ _ _ [] _ _
        refine wpList_nil ?_
        refine hK29 _ _ ?_
        apply wp_region_lit
        refine sm _ rfl hk rfl rfl rfl fun a hk => ?_
        refine sv (.int .i64 (w64 (u10 + 1))) hk rfl rfl rfl fun a hk => ?_
        refine sa _ rfl hk rfl rfl rfl fun a hk => ?_
        show wpList _ _ _ [] _ _
        refine wpList_nil ?_
        refine hK28 _ _ ?_
        apply wp_region_lit
        refine sm _ rfl hk rfl rfl rfl fun a hk => ?_
        refine sv (.int .i64 (w64 (u11 + 1))) hk rfl rfl rfl fun a hk => ?_
        refine sa _ rfl hk rfl rfl rfl fun a hk => ?_
        show wpList _ _ _ [] _ _
        refine wpList_nil ?_
        obtain rfl := Option.some.inj H
        obtain ⟨m36, hmm36, h24⟩ := h24
        show ∃ n', n' < _ ∧ I21 n' _ _
        refine ⟨m36, hmm36, ?_⟩
        rw [hI21]
        exact ⟨(u6.set u11.toNat u10), (w64 (u10 + 1)), (w64 (u11 + 1)), _, h24, (hk.c 0 rfl (hk.c 1 rfl (hk.c 5 rfl hk.k))), (hs.pick [(1, 1)] rfl), o34, lh35⟩
      · have hk := hk.lit 9 c27 rfl
        refine cnd_false hk rfl rfl ?_
        refine wp_exit ?_
        obtain rfl := Option.some.inj H
        show R20 _ _
        rw [hR20]
        exact ⟨u6, u10, _, h24.symm, (hk.c 0 rfl (hk.c 1 rfl hk.k)), (hs.pick [(1, 1)] rfl), o8, lh9⟩
  · intro a w hR0
    rw [hR20] at hR0
    obtain ⟨u12, u16, k13, rfl, hk, hs, o14, lh15⟩ := hR0
    have H := HL19
    try dsimp only at H
    refine hK2 _ _ ?_
    apply wp_seq_k; intro K37 hK37
    apply wp_region_lit
    refine sm _ rfl hk rfl rfl rfl fun a hk => ?_
    refine sa _ rfl hk rfl rfl rfl fun a hk => ?_
    show wpList _ _ _ [] _ _
    refine wpList_nil ?_
    refine hK37 _ _ ?_
    refine wp_ret ?_
    obtain rfl := Option.some.inj H
    exact fin hk _ [(.int .i64 u16)] rfl ⟨rfl, trivial⟩ ⟨_, rfl, ⟨o14, lh15⟩, (hs.pick [(0, 1)] rfl).dnil⟩

noncomputable def spec_l01In.f (x0 : Int) (x1 : Int) (x2 : Int) : Option (Bool) :=
  (((bif (decide (x1 ≤ x0)) then (some (decide (x0 ≤ x2))) else (some false)) : Option (Bool)).bind fun u4 => (some u4))
set_option maxRecDepth 100000 in
set_option maxHeartbeats 0 in
theorem spec_l01In_t (w0 : World) (x0 : Int) (x1 : Int) (x2 : Int) (r : Bool) (H : spec_l01In.f x0 x1 x2 = some r) :
    Calls Try.prog 104 #[.int .i64 x0, .int .i64 x1, .int .i64 x2] w0 (Ret (fun v w => v = .bool r ∧ Sat [] w0 w [] [])) := by
  have hs : Sat [] w0 w0 [] [] := Sat.init w0 [] [] (by simp) (by simp) List.nodup_nil (by simp [blks])
  unfold spec_l01In.f at H
  refine enter Try.func104 rfl Try.ntmps104 rfl fun a hk => ?_
  apply wp_seq_k; intro K1 hK1
  apply wp_region_lit
  refine sa _ rfl hk rfl rfl rfl fun a hk => ?_
  show wpList _ _ _ [] _ _
  refine wpList_nil ?_
  refine hK1 _ _ ?_
  apply wp_seq_k; intro K2 hK2
  obtain ⟨o5, h6, HL7⟩ := bind_some H
  clear H
  obtain ⟨R8, hR8⟩ : ∃ R : Act → World → Prop, R = fun a w => ∃ (u4 : Bool), u4 = o5 ∧ Kn [(6, (.bool u4))] 15 a ∧ Sat [] w0 w [] [] := ⟨_, rfl⟩
  refine wp_cutq R8 ?_ ?_
  · have H := h6
    apply wp_region_lit
    refine sm _ rfl hk rfl rfl rfl fun a hk => ?_
    refine sm _ rfl hk rfl rfl rfl fun a hk => ?_
    refine sv (.bool (decide (x1 ≤ x0))) hk rfl rfl rfl fun a hk => ?_
    refine sm _ rfl hk rfl rfl rfl fun a hk => ?_
    rcases cond_some H with ⟨c9, H⟩ | ⟨c9, H⟩
    · have hk := hk.lit 10 c9 rfl
      refine sm _ rfl hk rfl rfl rfl fun a hk => ?_
      refine sm _ rfl hk rfl rfl rfl fun a hk => ?_
      refine sv (.bool (decide (x0 ≤ x2))) hk rfl rfl rfl fun a hk => ?_
      refine sv (.bool (decide (x0 ≤ x2))) hk rfl rfl rfl fun a hk => ?_
      refine sa _ rfl hk rfl rfl rfl fun a hk => ?_
      show wpList _ _ _ [] _ _
      refine wpList_nil ?_
      obtain rfl := Option.some.inj H
      show R8 _ _
      rw [hR8]
      exact ⟨(decide (x0 ≤ x2)), rfl, (hk.c 6 rfl hk.k), (hs.pick [] rfl)⟩
    · have hk := hk.lit 10 c9 rfl
      refine sk hk rfl rfl rfl fun a hk => ?_
      refine sk hk rfl rfl rfl fun a hk => ?_
      refine sk hk rfl rfl rfl fun a hk => ?_
      refine sv (.bool false) hk rfl rfl rfl fun a hk => ?_
      refine sa _ rfl hk rfl rfl rfl fun a hk => ?_
      show wpList _ _ _ [] _ _
      refine wpList_nil ?_
      obtain rfl := Option.some.inj H
      show R8 _ _
      rw [hR8]
      exact ⟨false, rfl, (hk.c 6 rfl hk.k), (hs.pick [] rfl)⟩
  · intro a w hR0
    rw [hR8] at hR0
    obtain ⟨u4, rfl, hk, hs⟩ := hR0
    have H := HL7
    try dsimp only at H
    refine hK2 _ _ ?_
    refine wp_ret ?_
    obtain rfl := Option.some.inj H
    exact fin hk _ [(.bool u4)] rfl ⟨rfl, trivial⟩ ⟨rfl, (hs.pick [] rfl).dnil⟩

noncomputable def spec_l08Leaves.s0 (l0 : List Int) (u6 : Int) : Option ((Int) ⊕ Ex (Unit) (Bool)) :=
  (bif (decide (u6 < (l0.length : Int))) then (if 0 ≤ u6 ∧ u6 < (l0.length : Int) then ((spec_l01In.f (l0.getD u6.toNat 0) 0 7).bind fun y24 => (bif (!y24) then (some (.inr (.ret false))) else (some (.inl (w64 (u6 + 1)))))) else none) else (some (.inr (.out ()))))
noncomputable def spec_l08Leaves.f (l0 : List Int) : Option (Bool) :=
  ((loopO (fun s => spec_l08Leaves.s0 l0 s) 0).bind fun o => match o with | .out _ => (some true) | .ret r => (some r))
set_option maxRecDepth 100000 in
set_option maxHeartbeats 0 in
theorem spec_l08Leaves_t (w0 : World) (A0_ : Option Addr) (p0_ : Nat) (l0 : List Int) (k0_ : Chunk) (v0_ : View (Lay.int .i64) A0_ p0_ l0 k0_) (w0_ : Has w0 k0_) (r : Bool) (H : spec_l08Leaves.f l0 = some r) :
    Calls Try.prog 159 #[.slice A0_ l0.length p0_] w0 (Ret (fun v w => v = .bool r ∧ Sat [] w0 w [] [])) := by
  have hs : Sat [] w0 w0 [(1, k0_)] [] := Sat.init w0 [(1, k0_)] [] (by simp only [List.mem_cons, List.not_mem_nil, or_false]; rintro x (rfl) <;> assumption) (by simp) List.nodup_nil (by simp [blks])
  unfold spec_l08Leaves.f at H
  refine enter Try.func159 rfl Try.ntmps159 rfl fun a hk => ?_
  apply wp_seq_k; intro K1 hK1
  apply wp_region_lit
  refine sa _ rfl hk rfl rfl rfl fun a hk => ?_
  show wpList _ _ _ [] _ _
  refine wpList_nil ?_
  refine hK1 _ _ ?_
  apply wp_seq_k; intro K2 hK2
  apply wp_seq_k; intro K3 hK3
  apply wp_region_lit
  refine sa _ rfl hk rfl rfl rfl fun a hk => ?_
  show wpList _ _ _ [] _ _
  refine wpList_nil ?_
  refine hK3 _ _ ?_
  obtain ⟨o7, h8, HL9⟩ := bind_some H
  clear H
  obtain ⟨R10, hR10⟩ : ∃ R : Act → World → Prop, R = fun a w => o7 = .out () ∧ Kn [] 16 a ∧ Sat [] w0 w [(1, k0_)] [] := ⟨_, rfl⟩
  refine wp_cutq R10 ?_ ?_
  · refine wp_block ?_
    obtain ⟨fu12, h8⟩ := loopO_some h8
    obtain ⟨I11, hI11⟩ : ∃ I : Nat → Act → World → Prop, I = fun fu a w => ∃ (u6 : Int), loopN (fun s => spec_l08Leaves.s0 l0 s) fu u6 = some o7 ∧ Kn [(0, (.slice A0_ l0.length p0_)), (3, (.int .i64 u6))] 16 a ∧ Sat [] w0 w [(1, k0_)] [] := ⟨_, rfl⟩
    refine wp_loop_ghost I11 fu12 ?_ ?_
    · rw [hI11]
      exact ⟨0, h8, (hk.c 0 rfl (hk.c 3 rfl hk.k)), (hs.pick [] rfl)⟩
    · clear h8 hk hs
      intro fu12 a w hI0
      rw [hI11] at hI0
      obtain ⟨u6, hi, hk, hs⟩ := hI0
      obtain ⟨x13, H, h14⟩ := loop_round hi
      try dsimp only at H
      unfold spec_l08Leaves.s0 at H
      apply wp_seq_k; intro K15 hK15
      apply wp_seq_k; intro K16 hK16
      apply wp_region_lit
      refine sm _ rfl hk rfl rfl rfl fun a hk => ?_
      refine sm _ rfl hk rfl rfl rfl fun a hk => ?_
      refine sle rfl hk rfl rfl rfl un27 fun a hk => ?_
      refine sv (.bool (decide (u6 < (l0.length : Int)))) hk rfl rfl rfl fun a hk => ?_
      show wpList _ _ _ [] _ _
      refine wpList_nil ?_
      refine hK16 _ _ ?_
      rcases cond_some H with ⟨c17, H⟩ | ⟨c17, H⟩
      · have hk := hk.lit 7 c17 rfl
        refine cnd_true hk rfl rfl ?_
        refine wp_skip ?_
        refine hK15 _ _ ?_
        apply wp_seq_k; intro K18 hK18
        refine wp_block ?_
        apply wp_seq_k; intro K19 hK19
        apply wp_region_lit
        refine sm _ rfl hk rfl rfl rfl fun a hk => ?_
        refine sm _ rfl hk rfl rfl rfl fun a hk => ?_
        rcases ite_some H with ⟨c20, H⟩ | ⟨_, H⟩
        rotate_left
        · cases H
        obtain ⟨b21, q22, hAc20⟩ := (v0_).some_ u6 c20.1 c20.2
        refine si rfl hk rfl rfl rfl rfl un27 sz3 c20.1 c20.2 hAc20 fun a hk => ?_
        obtain ⟨_, rfl, e23⟩ := (v0_).at_ 0 u6 c20.1 c20.2
        refine sl (v := (.int .i64 (l0.getD u6.toNat 0))) rfl hk rfl rfl rfl ag3 ((e23 0 _ rfl).cell (hs.hasD (k := 1) rfl)) fun a hk => ?_
        obtain ⟨y24, h25, H⟩ := bind_some H
        refine sc rfl en104 hk rfl rfl rfl (spec_l01In_t _ (l0.getD u6.toNat 0) 0 7 _ h25) ?_
        rintro _ w ⟨rfl, hG⟩ a hk
        have hs := hs.call0 hG
        refine sv (.bool (!y24)) hk rfl rfl rfl fun a hk => ?_
        show wpList _ _ _ [] _ _
        refine wpList_nil ?_
        refine hK19 _ _ ?_
        rcases cond_some H with ⟨c26, H⟩ | ⟨c26, H⟩
        · have hk := hk.lit 15 c26 rfl
          refine cnd_true hk rfl rfl ?_
          apply wp_seq_k; intro K27 hK27
          apply wp_region_lit
          refine sa _ rfl hk rfl rfl rfl fun a hk => ?_
          show wpList _ _ _ [] _ _
          refine wpList_nil ?_
          refine hK27 _ _ ?_
          refine wp_ret ?_
          obtain rfl := Option.some.inj H
          have ho7 := h14
          try dsimp only at ho7
          subst ho7
          have H := HL9
          try dsimp only at H
          obtain rfl := Option.some.inj H
          exact fin hk _ [(.bool false)] rfl ⟨rfl, trivial⟩ ⟨rfl, (hs.pick [] rfl).dnil⟩
        · have hk := hk.lit 15 c26 rfl
          refine cnd_false hk rfl rfl ?_
          refine wp_skip ?_
          refine hK18 _ _ ?_
          apply wp_region_lit
          refine sm _ rfl hk rfl rfl rfl fun a hk => ?_
          refine sv (.int .i64 (w64 (u6 + 1))) hk rfl rfl rfl fun a hk => ?_
          refine sa _ rfl hk rfl rfl rfl fun a hk => ?_
          show wpList _ _ _ [] _ _
          refine wpList_nil ?_
          obtain rfl := Option.some.inj H
          obtain ⟨m28, hmm28, h14⟩ := h14
          show ∃ n', n' < _ ∧ I11 n' _ _
          refine ⟨m28, hmm28, ?_⟩
          rw [hI11]
          exact ⟨(w64 (u6 + 1)), h14, (hk.c 0 rfl (hk.c 3 rfl hk.k)), (hs.pick [] rfl)⟩
      · have hk := hk.lit 7 c17 rfl
        refine cnd_false hk rfl rfl ?_
        refine wp_exit ?_
        obtain rfl := Option.some.inj H
        show R10 _ _
        rw [hR10]
        exact ⟨h14.symm, hk.k, (hs.pick [] rfl)⟩
  · intro a w hR0
    rw [hR10] at hR0
    obtain ⟨rfl, hk, hs⟩ := hR0
    have H := HL9
    try dsimp only at H
    refine hK2 _ _ ?_
    apply wp_seq_k; intro K29 hK29
    apply wp_region_lit
    refine sa _ rfl hk rfl rfl rfl fun a hk => ?_
    show wpList _ _ _ [] _ _
    refine wpList_nil ?_
    refine hK29 _ _ ?_
    refine wp_ret ?_
    obtain rfl := Option.some.inj H
    exact fin hk _ [(.bool true)] rfl ⟨rfl, trivial⟩ ⟨rfl, (hs.pick [] rfl).dnil⟩

noncomputable def spec_l08New.f (l0 : List Int) : Option (S_Oram) :=
  (if ([] : List Int).length + l0.length ≤ 1073741824 then (if 0 ≤ (15 : Int) ∧ (15 : Int) ≤ 1073741824 then (some (⟨(([] : List Int) ++ l0), ([] : List S_Block), (List.replicate ((15 : Int)).toNat ([] : List S_Block))⟩ : S_Oram)) else none) else none)
set_option maxRecDepth 100000 in
set_option maxHeartbeats 0 in
theorem spec_l08New_t (w0 : World) (A0_ : Option Addr) (p0_ : Nat) (l0 : List Int) (k0_ : Chunk) (v0_ : View (Lay.int .i64) A0_ p0_ l0 k0_) (w0_ : Has w0 k0_) (r : S_Oram) (H : spec_l08New.f l0 = some r) :
    Calls Try.prog 160 #[.slice A0_ l0.length p0_] w0 (Ret (fun v w => ∃ (A0 : Option Addr) (p0 : Nat) (k0 : Chunk), ∃ (A1 : Option Addr) (p1 : Nat) (k1 : Chunk), ∃ (A2 : Option Addr) (p2 : Nat) (k2 : Chunk), v = .agg #[.slice A0 r.Pos.length p0, .slice A1 r.Stash.length p1, .slice A2 r.Buckets.length p2] ∧ Own (Lay.int .i64) 3 A0 p0 r.Pos k0 ∧ Own L_Block 146 A1 p1 r.Stash k1 ∧ Own (Lay.sl L_Block 146) 85 A2 p2 r.Buckets k2 ∧ Sat [] w0 w [] [(0, k0), (1, k1), (2, k2)])) := by
  have hs : Sat [] w0 w0 [(1, k0_)] [] := Sat.init w0 [(1, k0_)] [] (by simp only [List.mem_cons, List.not_mem_nil, or_false]; rintro x (rfl) <;> assumption) (by simp) List.nodup_nil (by simp [blks])
  unfold spec_l08New.f at H
  refine enter Try.func160 rfl Try.ntmps160 rfl fun a hk => ?_
  apply wp_seq_k; intro K1 hK1
  apply wp_region_lit
  refine salx 2 hs rfl hk rfl rfl ze88 rfl fun b2 w a hk hs => ?_
  show wpList _ _ _ [] _ _
  refine wpList_nil ?_
  refine hK1 _ _ ?_
  apply wp_seq_k; intro K3 hK3
  rcases ite_some H with ⟨c_r4_2_1, H⟩ | ⟨_, H⟩
  rotate_left
  · cases H
  rcases ite_some H with ⟨c_r4_4_1, H⟩ | ⟨_, H⟩
  rotate_left
  · cases H
  obtain ⟨R5, hR5⟩ : ∃ R : Act → World → Prop, R = fun a w => ∃ (A_r4_2_2 : Option Addr) (p_r4_2_3 : Nat) (b_r4_3_1 : Nat) (b_r4_4_2 : Nat) (k_r4_2_4 : Chunk) (k_r4_3_2 : Chunk) (k_r4_4_3 : Chunk), Kn [(2, (.pointer (some ⟨b2, 0, none⟩)))] 9 a ∧ Sat [] w0 w [(1, k0_)] [(2, [(b2, .cells #[.slice A_r4_2_2 (([] : List Int) ++ l0).length p_r4_2_3, .slice (some ⟨b_r4_3_1, 0, none⟩) 0 0, .slice (some ⟨b_r4_4_2, 0, none⟩) (((15 : Int)).toNat) (((15 : Int)).toNat)] 88 (0, 0))]), (103001, k_r4_2_4), (103061, k_r4_3_2), (103081, k_r4_4_3)] ∧ Own (Lay.int .i64) 3 A_r4_2_2 p_r4_2_3 (([] : List Int) ++ l0) k_r4_2_4 ∧ Own L_Block 146 (some ⟨b_r4_3_1, 0, none⟩) 0 ([] : List S_Block) k_r4_3_2 ∧ Own (Lay.sl L_Block 146) 85 (some ⟨b_r4_4_2, 0, none⟩) (((15 : Int)).toNat) (List.replicate ((15 : Int)).toNat ([] : List S_Block)) k_r4_4_3 ∧ (List.replicate ((15 : Int)).toNat ([] : List S_Block)).length = (((15 : Int)).toNat) := ⟨_, rfl⟩
  refine wp_cutq R5 ?_ ?_
  · skip
    refine wp_region_tree (.q 1 (.alt 0 (.alt 2 (.alt 3 (.alt 4 (.alt 5 (.last 6) .stop) .stop) (.alt 4 (.alt 3 (.alt 5 (.last 6) .stop) .stop) .stop)) (.alt 3 (.alt 2 (.alt 4 (.alt 5 (.last 6) .stop) .stop) (.alt 4 (.alt 2 (.alt 5 (.last 6) .stop) .stop) .stop)) (.alt 4 (.alt 2 (.alt 3 (.alt 5 (.last 6) .stop) .stop) (.alt 3 (.alt 2 (.alt 5 (.last 6) .stop) .stop) .stop)) .stop))) (.alt 3 (.alt 0 (.alt 2 (.alt 4 (.alt 5 (.last 6) .stop) .stop) (.alt 4 (.alt 2 (.alt 5 (.last 6) .stop) .stop) .stop)) (.alt 4 (.alt 0 (.alt 2 (.alt 5 (.last 6) .stop) .stop) .stop) .stop)) (.alt 4 (.alt 0 (.alt 2 (.alt 3 (.alt 5 (.last 6) .stop) .stop) (.alt 3 (.alt 2 (.alt 5 (.last 6) .stop) .stop) .stop)) (.alt 3 (.alt 0 (.alt 2 (.alt 5 (.last 6) .stop) .stop) .stop) .stop)) .stop)))) mo (by kernel_rfl) (hs.pick [(2, 2)] rfl) fun _ => ?_
    have hs := hs.drew
    refine tqst (.slice A0_ l0.length p0_) hk rfl rfl rfl rfl (fun w hs => sm _ rfl hk rfl rfl rfl fun a hk => qe hk) fun a hk => ?_
    refine tsst hk rfl rfl (fun K_r4_0 hK_r4_0 w hF => ?_) ?_
    · skip
      have hs := hs.f hF
      refine sbs0 103001 (Lay.int .i64) hs rfl hk rfl rfl un27 sz3 fun b_r4_0_1 k_r4_0_2 w a hk o_r4_0_3 hs => ?_
      refine se (hs.pick [(2, 2)] rfl) hk (hK_r4_0 _ _ ?_)
      refine tsst hk rfl rfl (fun K_r4_2 hK_r4_2 w hF => ?_) ?_
      · skip
        have hs := hs.f hF
        refine sap 103001 (xs := ([] : List Int)) (ys := l0) (flat_flat : ((Lay.int .i64)).Flat) hs rfl o_r4_0_3 v0_ (hs.hasD (k := 1) rfl) rfl hk rfl rfl rfl rfl rfl rfl un27 mk3 rfl rfl rfl c_r4_2_1 fun A_r4_2_2 p_r4_2_3 k_r4_2_4 w a hk o_r4_2_5 hs => ?_
        refine se (hs.pick [(2, 2)] rfl) hk (hK_r4_2 _ _ ?_)
        refine tsst hk rfl rfl (fun K_r4_3 hK_r4_3 w hF => ?_) ?_
        · skip
          have hs := hs.f hF
          refine sbs0 103061 L_Block hs rfl hk rfl rfl un85 sz146 fun b_r4_3_1 k_r4_3_2 w a hk o_r4_3_3 hs => ?_
          refine se (hs.pick [(2, 2)] rfl) hk (hK_r4_3 _ _ ?_)
          refine tsst hk rfl rfl (fun K_r4_4 hK_r4_4 w hF => ?_) wt_stop
          have hs := hs.f hF
          refine smk 103081 (Lay.sl L_Block 146) hs rfl hk rfl rfl rfl rfl un86 mk85 lz85 rfl rfl c_r4_4_1.1 c_r4_4_1.2 fun b_r4_4_2 k_r4_4_3 w a hk o_r4_4_4 hs => ?_
          have lh_r4_4_5 : (List.replicate ((15 : Int)).toNat ([] : List S_Block)).length = ((15 : Int)).toNat := List.length_replicate
          refine se (hs.pick [(2, 2)] rfl) hk (hK_r4_4 _ _ ?_)
          refine tsst hk rfl rfl (fun K_r4_5 hK_r4_5 w hF => ?_) wt_stop
          have hs := hs.f hF
          refine sbd (pv := [(0, (.slice A_r4_2_2 (([] : List Int) ++ l0).length p_r4_2_3)), (1, (.slice (some ⟨b_r4_3_1, 0, none⟩) 0 0)), (2, (.slice (some ⟨b_r4_4_2, 0, none⟩) (((15 : Int)).toNat) (((15 : Int)).toNat)))]) rfl hk rfl rfl rfl (bd88_0 A_r4_2_2 ((([] : List Int) ++ l0).length) p_r4_2_3 (some ⟨b_r4_3_1, 0, none⟩) 0 0 (some ⟨b_r4_4_2, 0, none⟩) (((15 : Int)).toNat) (((15 : Int)).toNat)) fun a hk => ?_
          refine se (hs.pick [(2, 2)] rfl) hk (hK_r4_5 _ _ ?_)
          refine tlst hk rfl rfl fun K_r4_6 hK_r4_6 w hF => ?_
          have hs := hs.f hF
          refine ssw 2 hs rfl rfl hk rfl rfl rfl rfl sz88 (by simp [Value.oneCell']) rfl fun w a hk hs => ?_
          refine se trivial hk (hK_r4_6 _ _ fun w hF => ?_)
          have hs := hs.f hF
          show R5 _ _
          rw [hR5]
          exact ⟨A_r4_2_2, p_r4_2_3, b_r4_3_1, b_r4_4_2, k_r4_2_4, k_r4_3_2, k_r4_4_3, (hk.c 2 rfl hk.k), (hs.pick [(2, 2), (103001, 103001), (103061, 103061), (103081, 103081)] rfl), o_r4_2_5, o_r4_3_3, o_r4_4_4, lh_r4_4_5⟩
        refine tsst hk rfl rfl (fun K_r4_4 hK_r4_4 w hF => ?_) wt_stop
        have hs := hs.f hF
        refine smk 103081 (Lay.sl L_Block 146) hs rfl hk rfl rfl rfl rfl un86 mk85 lz85 rfl rfl c_r4_4_1.1 c_r4_4_1.2 fun b_r4_4_2 k_r4_4_3 w a hk o_r4_4_4 hs => ?_
        have lh_r4_4_5 : (List.replicate ((15 : Int)).toNat ([] : List S_Block)).length = ((15 : Int)).toNat := List.length_replicate
        refine se (hs.pick [(2, 2)] rfl) hk (hK_r4_4 _ _ ?_)
        refine tsst hk rfl rfl (fun K_r4_3 hK_r4_3 w hF => ?_) wt_stop
        have hs := hs.f hF
        refine sbs0 103061 L_Block hs rfl hk rfl rfl un85 sz146 fun b_r4_3_1 k_r4_3_2 w a hk o_r4_3_3 hs => ?_
        refine se (hs.pick [(2, 2)] rfl) hk (hK_r4_3 _ _ ?_)
        refine tsst hk rfl rfl (fun K_r4_5 hK_r4_5 w hF => ?_) wt_stop
        have hs := hs.f hF
        refine sbd (pv := [(0, (.slice A_r4_2_2 (([] : List Int) ++ l0).length p_r4_2_3)), (1, (.slice (some ⟨b_r4_3_1, 0, none⟩) 0 0)), (2, (.slice (some ⟨b_r4_4_2, 0, none⟩) (((15 : Int)).toNat) (((15 : Int)).toNat)))]) rfl hk rfl rfl rfl (bd88_0 A_r4_2_2 ((([] : List Int) ++ l0).length) p_r4_2_3 (some ⟨b_r4_3_1, 0, none⟩) 0 0 (some ⟨b_r4_4_2, 0, none⟩) (((15 : Int)).toNat) (((15 : Int)).toNat)) fun a hk => ?_
        refine se (hs.pick [(2, 2)] rfl) hk (hK_r4_5 _ _ ?_)
        refine tlst hk rfl rfl fun K_r4_6 hK_r4_6 w hF => ?_
        have hs := hs.f hF
        refine ssw 2 hs rfl rfl hk rfl rfl rfl rfl sz88 (by simp [Value.oneCell']) rfl fun w a hk hs => ?_
        refine se trivial hk (hK_r4_6 _ _ fun w hF => ?_)
        have hs := hs.f hF
        show R5 _ _
        rw [hR5]
        exact ⟨A_r4_2_2, p_r4_2_3, b_r4_3_1, b_r4_4_2, k_r4_2_4, k_r4_3_2, k_r4_4_3, (hk.c 2 rfl hk.k), (hs.pick [(2, 2), (103001, 103001), (103061, 103061), (103081, 103081)] rfl), o_r4_2_5, o_r4_3_3, o_r4_4_4, lh_r4_4_5⟩
      refine tsst hk rfl rfl (fun K_r4_3 hK_r4_3 w hF => ?_) ?_
      · skip
        have hs := hs.f hF
        refine sbs0 103061 L_Block hs rfl hk rfl rfl un85 sz146 fun b_r4_3_1 k_r4_3_2 w a hk o_r4_3_3 hs => ?_
        refine se (hs.pick [(2, 2)] rfl) hk (hK_r4_3 _ _ ?_)
        refine tsst hk rfl rfl (fun K_r4_2 hK_r4_2 w hF => ?_) ?_
        · skip
          have hs := hs.f hF
          refine sap 103001 (xs := ([] : List Int)) (ys := l0) (flat_flat : ((Lay.int .i64)).Flat) hs rfl o_r4_0_3 v0_ (hs.hasD (k := 1) rfl) rfl hk rfl rfl rfl rfl rfl rfl un27 mk3 rfl rfl rfl c_r4_2_1 fun A_r4_2_2 p_r4_2_3 k_r4_2_4 w a hk o_r4_2_5 hs => ?_
          refine se (hs.pick [(2, 2)] rfl) hk (hK_r4_2 _ _ ?_)
          refine tsst hk rfl rfl (fun K_r4_4 hK_r4_4 w hF => ?_) wt_stop
          have hs := hs.f hF
          refine smk 103081 (Lay.sl L_Block 146) hs rfl hk rfl rfl rfl rfl un86 mk85 lz85 rfl rfl c_r4_4_1.1 c_r4_4_1.2 fun b_r4_4_2 k_r4_4_3 w a hk o_r4_4_4 hs => ?_
          have lh_r4_4_5 : (List.replicate ((15 : Int)).toNat ([] : List S_Block)).length = ((15 : Int)).toNat := List.length_replicate
          refine se (hs.pick [(2, 2)] rfl) hk (hK_r4_4 _ _ ?_)
          refine tsst hk rfl rfl (fun K_r4_5 hK_r4_5 w hF => ?_) wt_stop
          have hs := hs.f hF
          refine sbd (pv := [(0, (.slice A_r4_2_2 (([] : List Int) ++ l0).length p_r4_2_3)), (1, (.slice (some ⟨b_r4_3_1, 0, none⟩) 0 0)), (2, (.slice (some ⟨b_r4_4_2, 0, none⟩) (((15 : Int)).toNat) (((15 : Int)).toNat)))]) rfl hk rfl rfl rfl (bd88_0 A_r4_2_2 ((([] : List Int) ++ l0).length) p_r4_2_3 (some ⟨b_r4_3_1, 0, none⟩) 0 0 (some ⟨b_r4_4_2, 0, none⟩) (((15 : Int)).toNat) (((15 : Int)).toNat)) fun a hk => ?_
          refine se (hs.pick [(2, 2)] rfl) hk (hK_r4_5 _ _ ?_)
          refine tlst hk rfl rfl fun K_r4_6 hK_r4_6 w hF => ?_
          have hs := hs.f hF
          refine ssw 2 hs rfl rfl hk rfl rfl rfl rfl sz88 (by simp [Value.oneCell']) rfl fun w a hk hs => ?_
          refine se trivial hk (hK_r4_6 _ _ fun w hF => ?_)
          have hs := hs.f hF
          show R5 _ _
          rw [hR5]
          exact ⟨A_r4_2_2, p_r4_2_3, b_r4_3_1, b_r4_4_2, k_r4_2_4, k_r4_3_2, k_r4_4_3, (hk.c 2 rfl hk.k), (hs.pick [(2, 2), (103001, 103001), (103061, 103061), (103081, 103081)] rfl), o_r4_2_5, o_r4_3_3, o_r4_4_4, lh_r4_4_5⟩
        refine tsst hk rfl rfl (fun K_r4_4 hK_r4_4 w hF => ?_) wt_stop
        have hs := hs.f hF
        refine smk 103081 (Lay.sl L_Block 146) hs rfl hk rfl rfl rfl rfl un86 mk85 lz85 rfl rfl c_r4_4_1.1 c_r4_4_1.2 fun b_r4_4_2 k_r4_4_3 w a hk o_r4_4_4 hs => ?_
        have lh_r4_4_5 : (List.replicate ((15 : Int)).toNat ([] : List S_Block)).length = ((15 : Int)).toNat := List.length_replicate
        refine se (hs.pick [(2, 2)] rfl) hk (hK_r4_4 _ _ ?_)
        refine tsst hk rfl rfl (fun K_r4_2 hK_r4_2 w hF => ?_) wt_stop
        have hs := hs.f hF
        refine sap 103001 (xs := ([] : List Int)) (ys := l0) (flat_flat : ((Lay.int .i64)).Flat) hs rfl o_r4_0_3 v0_ (hs.hasD (k := 1) rfl) rfl hk rfl rfl rfl rfl rfl rfl un27 mk3 rfl rfl rfl c_r4_2_1 fun A_r4_2_2 p_r4_2_3 k_r4_2_4 w a hk o_r4_2_5 hs => ?_
        refine se (hs.pick [(2, 2)] rfl) hk (hK_r4_2 _ _ ?_)
        refine tsst hk rfl rfl (fun K_r4_5 hK_r4_5 w hF => ?_) wt_stop
        have hs := hs.f hF
        refine sbd (pv := [(0, (.slice A_r4_2_2 (([] : List Int) ++ l0).length p_r4_2_3)), (1, (.slice (some ⟨b_r4_3_1, 0, none⟩) 0 0)), (2, (.slice (some ⟨b_r4_4_2, 0, none⟩) (((15 : Int)).toNat) (((15 : Int)).toNat)))]) rfl hk rfl rfl rfl (bd88_0 A_r4_2_2 ((([] : List Int) ++ l0).length) p_r4_2_3 (some ⟨b_r4_3_1, 0, none⟩) 0 0 (some ⟨b_r4_4_2, 0, none⟩) (((15 : Int)).toNat) (((15 : Int)).toNat)) fun a hk => ?_
        refine se (hs.pick [(2, 2)] rfl) hk (hK_r4_5 _ _ ?_)
        refine tlst hk rfl rfl fun K_r4_6 hK_r4_6 w hF => ?_
        have hs := hs.f hF
        refine ssw 2 hs rfl rfl hk rfl rfl rfl rfl sz88 (by simp [Value.oneCell']) rfl fun w a hk hs => ?_
        refine se trivial hk (hK_r4_6 _ _ fun w hF => ?_)
        have hs := hs.f hF
        show R5 _ _
        rw [hR5]
        exact ⟨A_r4_2_2, p_r4_2_3, b_r4_3_1, b_r4_4_2, k_r4_2_4, k_r4_3_2, k_r4_4_3, (hk.c 2 rfl hk.k), (hs.pick [(2, 2), (103001, 103001), (103061, 103061), (103081, 103081)] rfl), o_r4_2_5, o_r4_3_3, o_r4_4_4, lh_r4_4_5⟩
      refine tsst hk rfl rfl (fun K_r4_4 hK_r4_4 w hF => ?_) wt_stop
      have hs := hs.f hF
      refine smk 103081 (Lay.sl L_Block 146) hs rfl hk rfl rfl rfl rfl un86 mk85 lz85 rfl rfl c_r4_4_1.1 c_r4_4_1.2 fun b_r4_4_2 k_r4_4_3 w a hk o_r4_4_4 hs => ?_
      have lh_r4_4_5 : (List.replicate ((15 : Int)).toNat ([] : List S_Block)).length = ((15 : Int)).toNat := List.length_replicate
      refine se (hs.pick [(2, 2)] rfl) hk (hK_r4_4 _ _ ?_)
      refine tsst hk rfl rfl (fun K_r4_2 hK_r4_2 w hF => ?_) ?_
      · skip
        have hs := hs.f hF
        refine sap 103001 (xs := ([] : List Int)) (ys := l0) (flat_flat : ((Lay.int .i64)).Flat) hs rfl o_r4_0_3 v0_ (hs.hasD (k := 1) rfl) rfl hk rfl rfl rfl rfl rfl rfl un27 mk3 rfl rfl rfl c_r4_2_1 fun A_r4_2_2 p_r4_2_3 k_r4_2_4 w a hk o_r4_2_5 hs => ?_
        refine se (hs.pick [(2, 2)] rfl) hk (hK_r4_2 _ _ ?_)
        refine tsst hk rfl rfl (fun K_r4_3 hK_r4_3 w hF => ?_) wt_stop
        have hs := hs.f hF
        refine sbs0 103061 L_Block hs rfl hk rfl rfl un85 sz146 fun b_r4_3_1 k_r4_3_2 w a hk o_r4_3_3 hs => ?_
        refine se (hs.pick [(2, 2)] rfl) hk (hK_r4_3 _ _ ?_)
        refine tsst hk rfl rfl (fun K_r4_5 hK_r4_5 w hF => ?_) wt_stop
        have hs := hs.f hF
        refine sbd (pv := [(0, (.slice A_r4_2_2 (([] : List Int) ++ l0).length p_r4_2_3)), (1, (.slice (some ⟨b_r4_3_1, 0, none⟩) 0 0)), (2, (.slice (some ⟨b_r4_4_2, 0, none⟩) (((15 : Int)).toNat) (((15 : Int)).toNat)))]) rfl hk rfl rfl rfl (bd88_0 A_r4_2_2 ((([] : List Int) ++ l0).length) p_r4_2_3 (some ⟨b_r4_3_1, 0, none⟩) 0 0 (some ⟨b_r4_4_2, 0, none⟩) (((15 : Int)).toNat) (((15 : Int)).toNat)) fun a hk => ?_
        refine se (hs.pick [(2, 2)] rfl) hk (hK_r4_5 _ _ ?_)
        refine tlst hk rfl rfl fun K_r4_6 hK_r4_6 w hF => ?_
        have hs := hs.f hF
        refine ssw 2 hs rfl rfl hk rfl rfl rfl rfl sz88 (by simp [Value.oneCell']) rfl fun w a hk hs => ?_
        refine se trivial hk (hK_r4_6 _ _ fun w hF => ?_)
        have hs := hs.f hF
        show R5 _ _
        rw [hR5]
        exact ⟨A_r4_2_2, p_r4_2_3, b_r4_3_1, b_r4_4_2, k_r4_2_4, k_r4_3_2, k_r4_4_3, (hk.c 2 rfl hk.k), (hs.pick [(2, 2), (103001, 103001), (103061, 103061), (103081, 103081)] rfl), o_r4_2_5, o_r4_3_3, o_r4_4_4, lh_r4_4_5⟩
      refine tsst hk rfl rfl (fun K_r4_3 hK_r4_3 w hF => ?_) wt_stop
      have hs := hs.f hF
      refine sbs0 103061 L_Block hs rfl hk rfl rfl un85 sz146 fun b_r4_3_1 k_r4_3_2 w a hk o_r4_3_3 hs => ?_
      refine se (hs.pick [(2, 2)] rfl) hk (hK_r4_3 _ _ ?_)
      refine tsst hk rfl rfl (fun K_r4_2 hK_r4_2 w hF => ?_) wt_stop
      have hs := hs.f hF
      refine sap 103001 (xs := ([] : List Int)) (ys := l0) (flat_flat : ((Lay.int .i64)).Flat) hs rfl o_r4_0_3 v0_ (hs.hasD (k := 1) rfl) rfl hk rfl rfl rfl rfl rfl rfl un27 mk3 rfl rfl rfl c_r4_2_1 fun A_r4_2_2 p_r4_2_3 k_r4_2_4 w a hk o_r4_2_5 hs => ?_
      refine se (hs.pick [(2, 2)] rfl) hk (hK_r4_2 _ _ ?_)
      refine tsst hk rfl rfl (fun K_r4_5 hK_r4_5 w hF => ?_) wt_stop
      have hs := hs.f hF
      refine sbd (pv := [(0, (.slice A_r4_2_2 (([] : List Int) ++ l0).length p_r4_2_3)), (1, (.slice (some ⟨b_r4_3_1, 0, none⟩) 0 0)), (2, (.slice (some ⟨b_r4_4_2, 0, none⟩) (((15 : Int)).toNat) (((15 : Int)).toNat)))]) rfl hk rfl rfl rfl (bd88_0 A_r4_2_2 ((([] : List Int) ++ l0).length) p_r4_2_3 (some ⟨b_r4_3_1, 0, none⟩) 0 0 (some ⟨b_r4_4_2, 0, none⟩) (((15 : Int)).toNat) (((15 : Int)).toNat)) fun a hk => ?_
      refine se (hs.pick [(2, 2)] rfl) hk (hK_r4_5 _ _ ?_)
      refine tlst hk rfl rfl fun K_r4_6 hK_r4_6 w hF => ?_
      have hs := hs.f hF
      refine ssw 2 hs rfl rfl hk rfl rfl rfl rfl sz88 (by simp [Value.oneCell']) rfl fun w a hk hs => ?_
      refine se trivial hk (hK_r4_6 _ _ fun w hF => ?_)
      have hs := hs.f hF
      show R5 _ _
      rw [hR5]
      exact ⟨A_r4_2_2, p_r4_2_3, b_r4_3_1, b_r4_4_2, k_r4_2_4, k_r4_3_2, k_r4_4_3, (hk.c 2 rfl hk.k), (hs.pick [(2, 2), (103001, 103001), (103061, 103061), (103081, 103081)] rfl), o_r4_2_5, o_r4_3_3, o_r4_4_4, lh_r4_4_5⟩
    refine tsst hk rfl rfl (fun K_r4_3 hK_r4_3 w hF => ?_) ?_
    · skip
      have hs := hs.f hF
      refine sbs0 103061 L_Block hs rfl hk rfl rfl un85 sz146 fun b_r4_3_1 k_r4_3_2 w a hk o_r4_3_3 hs => ?_
      refine se (hs.pick [(2, 2)] rfl) hk (hK_r4_3 _ _ ?_)
      refine tsst hk rfl rfl (fun K_r4_0 hK_r4_0 w hF => ?_) ?_
      · skip
        have hs := hs.f hF
        refine sbs0 103001 (Lay.int .i64) hs rfl hk rfl rfl un27 sz3 fun b_r4_0_1 k_r4_0_2 w a hk o_r4_0_3 hs => ?_
        refine se (hs.pick [(2, 2)] rfl) hk (hK_r4_0 _ _ ?_)
        refine tsst hk rfl rfl (fun K_r4_2 hK_r4_2 w hF => ?_) ?_
        · skip
          have hs := hs.f hF
          refine sap 103001 (xs := ([] : List Int)) (ys := l0) (flat_flat : ((Lay.int .i64)).Flat) hs rfl o_r4_0_3 v0_ (hs.hasD (k := 1) rfl) rfl hk rfl rfl rfl rfl rfl rfl un27 mk3 rfl rfl rfl c_r4_2_1 fun A_r4_2_2 p_r4_2_3 k_r4_2_4 w a hk o_r4_2_5 hs => ?_
          refine se (hs.pick [(2, 2)] rfl) hk (hK_r4_2 _ _ ?_)
          refine tsst hk rfl rfl (fun K_r4_4 hK_r4_4 w hF => ?_) wt_stop
          have hs := hs.f hF
          refine smk 103081 (Lay.sl L_Block 146) hs rfl hk rfl rfl rfl rfl un86 mk85 lz85 rfl rfl c_r4_4_1.1 c_r4_4_1.2 fun b_r4_4_2 k_r4_4_3 w a hk o_r4_4_4 hs => ?_
          have lh_r4_4_5 : (List.replicate ((15 : Int)).toNat ([] : List S_Block)).length = ((15 : Int)).toNat := List.length_replicate
          refine se (hs.pick [(2, 2)] rfl) hk (hK_r4_4 _ _ ?_)
          refine tsst hk rfl rfl (fun K_r4_5 hK_r4_5 w hF => ?_) wt_stop
          have hs := hs.f hF
          refine sbd (pv := [(0, (.slice A_r4_2_2 (([] : List Int) ++ l0).length p_r4_2_3)), (1, (.slice (some ⟨b_r4_3_1, 0, none⟩) 0 0)), (2, (.slice (some ⟨b_r4_4_2, 0, none⟩) (((15 : Int)).toNat) (((15 : Int)).toNat)))]) rfl hk rfl rfl rfl (bd88_0 A_r4_2_2 ((([] : List Int) ++ l0).length) p_r4_2_3 (some ⟨b_r4_3_1, 0, none⟩) 0 0 (some ⟨b_r4_4_2, 0, none⟩) (((15 : Int)).toNat) (((15 : Int)).toNat)) fun a hk => ?_
          refine se (hs.pick [(2, 2)] rfl) hk (hK_r4_5 _ _ ?_)
          refine tlst hk rfl rfl fun K_r4_6 hK_r4_6 w hF => ?_
          have hs := hs.f hF
          refine ssw 2 hs rfl rfl hk rfl rfl rfl rfl sz88 (by simp [Value.oneCell']) rfl fun w a hk hs => ?_
          refine se trivial hk (hK_r4_6 _ _ fun w hF => ?_)
          have hs := hs.f hF
          show R5 _ _
          rw [hR5]
          exact ⟨A_r4_2_2, p_r4_2_3, b_r4_3_1, b_r4_4_2, k_r4_2_4, k_r4_3_2, k_r4_4_3, (hk.c 2 rfl hk.k), (hs.pick [(2, 2), (103001, 103001), (103061, 103061), (103081, 103081)] rfl), o_r4_2_5, o_r4_3_3, o_r4_4_4, lh_r4_4_5⟩
        refine tsst hk rfl rfl (fun K_r4_4 hK_r4_4 w hF => ?_) wt_stop
        have hs := hs.f hF
        refine smk 103081 (Lay.sl L_Block 146) hs rfl hk rfl rfl rfl rfl un86 mk85 lz85 rfl rfl c_r4_4_1.1 c_r4_4_1.2 fun b_r4_4_2 k_r4_4_3 w a hk o_r4_4_4 hs => ?_
        have lh_r4_4_5 : (List.replicate ((15 : Int)).toNat ([] : List S_Block)).length = ((15 : Int)).toNat := List.length_replicate
        refine se (hs.pick [(2, 2)] rfl) hk (hK_r4_4 _ _ ?_)
        refine tsst hk rfl rfl (fun K_r4_2 hK_r4_2 w hF => ?_) wt_stop
        have hs := hs.f hF
        refine sap 103001 (xs := ([] : List Int)) (ys := l0) (flat_flat : ((Lay.int .i64)).Flat) hs rfl o_r4_0_3 v0_ (hs.hasD (k := 1) rfl) rfl hk rfl rfl rfl rfl rfl rfl un27 mk3 rfl rfl rfl c_r4_2_1 fun A_r4_2_2 p_r4_2_3 k_r4_2_4 w a hk o_r4_2_5 hs => ?_
        refine se (hs.pick [(2, 2)] rfl) hk (hK_r4_2 _ _ ?_)
        refine tsst hk rfl rfl (fun K_r4_5 hK_r4_5 w hF => ?_) wt_stop
        have hs := hs.f hF
        refine sbd (pv := [(0, (.slice A_r4_2_2 (([] : List Int) ++ l0).length p_r4_2_3)), (1, (.slice (some ⟨b_r4_3_1, 0, none⟩) 0 0)), (2, (.slice (some ⟨b_r4_4_2, 0, none⟩) (((15 : Int)).toNat) (((15 : Int)).toNat)))]) rfl hk rfl rfl rfl (bd88_0 A_r4_2_2 ((([] : List Int) ++ l0).length) p_r4_2_3 (some ⟨b_r4_3_1, 0, none⟩) 0 0 (some ⟨b_r4_4_2, 0, none⟩) (((15 : Int)).toNat) (((15 : Int)).toNat)) fun a hk => ?_
        refine se (hs.pick [(2, 2)] rfl) hk (hK_r4_5 _ _ ?_)
        refine tlst hk rfl rfl fun K_r4_6 hK_r4_6 w hF => ?_
        have hs := hs.f hF
        refine ssw 2 hs rfl rfl hk rfl rfl rfl rfl sz88 (by simp [Value.oneCell']) rfl fun w a hk hs => ?_
        refine se trivial hk (hK_r4_6 _ _ fun w hF => ?_)
        have hs := hs.f hF
        show R5 _ _
        rw [hR5]
        exact ⟨A_r4_2_2, p_r4_2_3, b_r4_3_1, b_r4_4_2, k_r4_2_4, k_r4_3_2, k_r4_4_3, (hk.c 2 rfl hk.k), (hs.pick [(2, 2), (103001, 103001), (103061, 103061), (103081, 103081)] rfl), o_r4_2_5, o_r4_3_3, o_r4_4_4, lh_r4_4_5⟩
      refine tsst hk rfl rfl (fun K_r4_4 hK_r4_4 w hF => ?_) wt_stop
      have hs := hs.f hF
      refine smk 103081 (Lay.sl L_Block 146) hs rfl hk rfl rfl rfl rfl un86 mk85 lz85 rfl rfl c_r4_4_1.1 c_r4_4_1.2 fun b_r4_4_2 k_r4_4_3 w a hk o_r4_4_4 hs => ?_
      have lh_r4_4_5 : (List.replicate ((15 : Int)).toNat ([] : List S_Block)).length = ((15 : Int)).toNat := List.length_replicate
      refine se (hs.pick [(2, 2)] rfl) hk (hK_r4_4 _ _ ?_)
      refine tsst hk rfl rfl (fun K_r4_0 hK_r4_0 w hF => ?_) wt_stop
      have hs := hs.f hF
      refine sbs0 103001 (Lay.int .i64) hs rfl hk rfl rfl un27 sz3 fun b_r4_0_1 k_r4_0_2 w a hk o_r4_0_3 hs => ?_
      refine se (hs.pick [(2, 2)] rfl) hk (hK_r4_0 _ _ ?_)
      refine tsst hk rfl rfl (fun K_r4_2 hK_r4_2 w hF => ?_) wt_stop
      have hs := hs.f hF
      refine sap 103001 (xs := ([] : List Int)) (ys := l0) (flat_flat : ((Lay.int .i64)).Flat) hs rfl o_r4_0_3 v0_ (hs.hasD (k := 1) rfl) rfl hk rfl rfl rfl rfl rfl rfl un27 mk3 rfl rfl rfl c_r4_2_1 fun A_r4_2_2 p_r4_2_3 k_r4_2_4 w a hk o_r4_2_5 hs => ?_
      refine se (hs.pick [(2, 2)] rfl) hk (hK_r4_2 _ _ ?_)
      refine tsst hk rfl rfl (fun K_r4_5 hK_r4_5 w hF => ?_) wt_stop
      have hs := hs.f hF
      refine sbd (pv := [(0, (.slice A_r4_2_2 (([] : List Int) ++ l0).length p_r4_2_3)), (1, (.slice (some ⟨b_r4_3_1, 0, none⟩) 0 0)), (2, (.slice (some ⟨b_r4_4_2, 0, none⟩) (((15 : Int)).toNat) (((15 : Int)).toNat)))]) rfl hk rfl rfl rfl (bd88_0 A_r4_2_2 ((([] : List Int) ++ l0).length) p_r4_2_3 (some ⟨b_r4_3_1, 0, none⟩) 0 0 (some ⟨b_r4_4_2, 0, none⟩) (((15 : Int)).toNat) (((15 : Int)).toNat)) fun a hk => ?_
      refine se (hs.pick [(2, 2)] rfl) hk (hK_r4_5 _ _ ?_)
      refine tlst hk rfl rfl fun K_r4_6 hK_r4_6 w hF => ?_
      have hs := hs.f hF
      refine ssw 2 hs rfl rfl hk rfl rfl rfl rfl sz88 (by simp [Value.oneCell']) rfl fun w a hk hs => ?_
      refine se trivial hk (hK_r4_6 _ _ fun w hF => ?_)
      have hs := hs.f hF
      show R5 _ _
      rw [hR5]
      exact ⟨A_r4_2_2, p_r4_2_3, b_r4_3_1, b_r4_4_2, k_r4_2_4, k_r4_3_2, k_r4_4_3, (hk.c 2 rfl hk.k), (hs.pick [(2, 2), (103001, 103001), (103061, 103061), (103081, 103081)] rfl), o_r4_2_5, o_r4_3_3, o_r4_4_4, lh_r4_4_5⟩
    refine tsst hk rfl rfl (fun K_r4_4 hK_r4_4 w hF => ?_) wt_stop
    have hs := hs.f hF
    refine smk 103081 (Lay.sl L_Block 146) hs rfl hk rfl rfl rfl rfl un86 mk85 lz85 rfl rfl c_r4_4_1.1 c_r4_4_1.2 fun b_r4_4_2 k_r4_4_3 w a hk o_r4_4_4 hs => ?_
    have lh_r4_4_5 : (List.replicate ((15 : Int)).toNat ([] : List S_Block)).length = ((15 : Int)).toNat := List.length_replicate
    refine se (hs.pick [(2, 2)] rfl) hk (hK_r4_4 _ _ ?_)
    refine tsst hk rfl rfl (fun K_r4_0 hK_r4_0 w hF => ?_) ?_
    · skip
      have hs := hs.f hF
      refine sbs0 103001 (Lay.int .i64) hs rfl hk rfl rfl un27 sz3 fun b_r4_0_1 k_r4_0_2 w a hk o_r4_0_3 hs => ?_
      refine se (hs.pick [(2, 2)] rfl) hk (hK_r4_0 _ _ ?_)
      refine tsst hk rfl rfl (fun K_r4_2 hK_r4_2 w hF => ?_) ?_
      · skip
        have hs := hs.f hF
        refine sap 103001 (xs := ([] : List Int)) (ys := l0) (flat_flat : ((Lay.int .i64)).Flat) hs rfl o_r4_0_3 v0_ (hs.hasD (k := 1) rfl) rfl hk rfl rfl rfl rfl rfl rfl un27 mk3 rfl rfl rfl c_r4_2_1 fun A_r4_2_2 p_r4_2_3 k_r4_2_4 w a hk o_r4_2_5 hs => ?_
        refine se (hs.pick [(2, 2)] rfl) hk (hK_r4_2 _ _ ?_)
        refine tsst hk rfl rfl (fun K_r4_3 hK_r4_3 w hF => ?_) wt_stop
        have hs := hs.f hF
        refine sbs0 103061 L_Block hs rfl hk rfl rfl un85 sz146 fun b_r4_3_1 k_r4_3_2 w a hk o_r4_3_3 hs => ?_
        refine se (hs.pick [(2, 2)] rfl) hk (hK_r4_3 _ _ ?_)
        refine tsst hk rfl rfl (fun K_r4_5 hK_r4_5 w hF => ?_) wt_stop
        have hs := hs.f hF
        refine sbd (pv := [(0, (.slice A_r4_2_2 (([] : List Int) ++ l0).length p_r4_2_3)), (1, (.slice (some ⟨b_r4_3_1, 0, none⟩) 0 0)), (2, (.slice (some ⟨b_r4_4_2, 0, none⟩) (((15 : Int)).toNat) (((15 : Int)).toNat)))]) rfl hk rfl rfl rfl (bd88_0 A_r4_2_2 ((([] : List Int) ++ l0).length) p_r4_2_3 (some ⟨b_r4_3_1, 0, none⟩) 0 0 (some ⟨b_r4_4_2, 0, none⟩) (((15 : Int)).toNat) (((15 : Int)).toNat)) fun a hk => ?_
        refine se (hs.pick [(2, 2)] rfl) hk (hK_r4_5 _ _ ?_)
        refine tlst hk rfl rfl fun K_r4_6 hK_r4_6 w hF => ?_
        have hs := hs.f hF
        refine ssw 2 hs rfl rfl hk rfl rfl rfl rfl sz88 (by simp [Value.oneCell']) rfl fun w a hk hs => ?_
        refine se trivial hk (hK_r4_6 _ _ fun w hF => ?_)
        have hs := hs.f hF
        show R5 _ _
        rw [hR5]
        exact ⟨A_r4_2_2, p_r4_2_3, b_r4_3_1, b_r4_4_2, k_r4_2_4, k_r4_3_2, k_r4_4_3, (hk.c 2 rfl hk.k), (hs.pick [(2, 2), (103001, 103001), (103061, 103061), (103081, 103081)] rfl), o_r4_2_5, o_r4_3_3, o_r4_4_4, lh_r4_4_5⟩
      refine tsst hk rfl rfl (fun K_r4_3 hK_r4_3 w hF => ?_) wt_stop
      have hs := hs.f hF
      refine sbs0 103061 L_Block hs rfl hk rfl rfl un85 sz146 fun b_r4_3_1 k_r4_3_2 w a hk o_r4_3_3 hs => ?_
      refine se (hs.pick [(2, 2)] rfl) hk (hK_r4_3 _ _ ?_)
      refine tsst hk rfl rfl (fun K_r4_2 hK_r4_2 w hF => ?_) wt_stop
      have hs := hs.f hF
      refine sap 103001 (xs := ([] : List Int)) (ys := l0) (flat_flat : ((Lay.int .i64)).Flat) hs rfl o_r4_0_3 v0_ (hs.hasD (k := 1) rfl) rfl hk rfl rfl rfl rfl rfl rfl un27 mk3 rfl rfl rfl c_r4_2_1 fun A_r4_2_2 p_r4_2_3 k_r4_2_4 w a hk o_r4_2_5 hs => ?_
      refine se (hs.pick [(2, 2)] rfl) hk (hK_r4_2 _ _ ?_)
      refine tsst hk rfl rfl (fun K_r4_5 hK_r4_5 w hF => ?_) wt_stop
      have hs := hs.f hF
      refine sbd (pv := [(0, (.slice A_r4_2_2 (([] : List Int) ++ l0).length p_r4_2_3)), (1, (.slice (some ⟨b_r4_3_1, 0, none⟩) 0 0)), (2, (.slice (some ⟨b_r4_4_2, 0, none⟩) (((15 : Int)).toNat) (((15 : Int)).toNat)))]) rfl hk rfl rfl rfl (bd88_0 A_r4_2_2 ((([] : List Int) ++ l0).length) p_r4_2_3 (some ⟨b_r4_3_1, 0, none⟩) 0 0 (some ⟨b_r4_4_2, 0, none⟩) (((15 : Int)).toNat) (((15 : Int)).toNat)) fun a hk => ?_
      refine se (hs.pick [(2, 2)] rfl) hk (hK_r4_5 _ _ ?_)
      refine tlst hk rfl rfl fun K_r4_6 hK_r4_6 w hF => ?_
      have hs := hs.f hF
      refine ssw 2 hs rfl rfl hk rfl rfl rfl rfl sz88 (by simp [Value.oneCell']) rfl fun w a hk hs => ?_
      refine se trivial hk (hK_r4_6 _ _ fun w hF => ?_)
      have hs := hs.f hF
      show R5 _ _
      rw [hR5]
      exact ⟨A_r4_2_2, p_r4_2_3, b_r4_3_1, b_r4_4_2, k_r4_2_4, k_r4_3_2, k_r4_4_3, (hk.c 2 rfl hk.k), (hs.pick [(2, 2), (103001, 103001), (103061, 103061), (103081, 103081)] rfl), o_r4_2_5, o_r4_3_3, o_r4_4_4, lh_r4_4_5⟩
    refine tsst hk rfl rfl (fun K_r4_3 hK_r4_3 w hF => ?_) wt_stop
    have hs := hs.f hF
    refine sbs0 103061 L_Block hs rfl hk rfl rfl un85 sz146 fun b_r4_3_1 k_r4_3_2 w a hk o_r4_3_3 hs => ?_
    refine se (hs.pick [(2, 2)] rfl) hk (hK_r4_3 _ _ ?_)
    refine tsst hk rfl rfl (fun K_r4_0 hK_r4_0 w hF => ?_) wt_stop
    have hs := hs.f hF
    refine sbs0 103001 (Lay.int .i64) hs rfl hk rfl rfl un27 sz3 fun b_r4_0_1 k_r4_0_2 w a hk o_r4_0_3 hs => ?_
    refine se (hs.pick [(2, 2)] rfl) hk (hK_r4_0 _ _ ?_)
    refine tsst hk rfl rfl (fun K_r4_2 hK_r4_2 w hF => ?_) wt_stop
    have hs := hs.f hF
    refine sap 103001 (xs := ([] : List Int)) (ys := l0) (flat_flat : ((Lay.int .i64)).Flat) hs rfl o_r4_0_3 v0_ (hs.hasD (k := 1) rfl) rfl hk rfl rfl rfl rfl rfl rfl un27 mk3 rfl rfl rfl c_r4_2_1 fun A_r4_2_2 p_r4_2_3 k_r4_2_4 w a hk o_r4_2_5 hs => ?_
    refine se (hs.pick [(2, 2)] rfl) hk (hK_r4_2 _ _ ?_)
    refine tsst hk rfl rfl (fun K_r4_5 hK_r4_5 w hF => ?_) wt_stop
    have hs := hs.f hF
    refine sbd (pv := [(0, (.slice A_r4_2_2 (([] : List Int) ++ l0).length p_r4_2_3)), (1, (.slice (some ⟨b_r4_3_1, 0, none⟩) 0 0)), (2, (.slice (some ⟨b_r4_4_2, 0, none⟩) (((15 : Int)).toNat) (((15 : Int)).toNat)))]) rfl hk rfl rfl rfl (bd88_0 A_r4_2_2 ((([] : List Int) ++ l0).length) p_r4_2_3 (some ⟨b_r4_3_1, 0, none⟩) 0 0 (some ⟨b_r4_4_2, 0, none⟩) (((15 : Int)).toNat) (((15 : Int)).toNat)) fun a hk => ?_
    refine se (hs.pick [(2, 2)] rfl) hk (hK_r4_5 _ _ ?_)
    refine tlst hk rfl rfl fun K_r4_6 hK_r4_6 w hF => ?_
    have hs := hs.f hF
    refine ssw 2 hs rfl rfl hk rfl rfl rfl rfl sz88 (by simp [Value.oneCell']) rfl fun w a hk hs => ?_
    refine se trivial hk (hK_r4_6 _ _ fun w hF => ?_)
    have hs := hs.f hF
    show R5 _ _
    rw [hR5]
    exact ⟨A_r4_2_2, p_r4_2_3, b_r4_3_1, b_r4_4_2, k_r4_2_4, k_r4_3_2, k_r4_4_3, (hk.c 2 rfl hk.k), (hs.pick [(2, 2), (103001, 103001), (103061, 103061), (103081, 103081)] rfl), o_r4_2_5, o_r4_3_3, o_r4_4_4, lh_r4_4_5⟩
  · intro a w hR0
    rw [hR5] at hR0
    obtain ⟨A_r4_2_2, p_r4_2_3, b_r4_3_1, b_r4_4_2, k_r4_2_4, k_r4_3_2, k_r4_4_3, hk, hs, o_r4_2_5, o_r4_3_3, o_r4_4_4, lh_r4_4_5⟩ := hR0
    refine hK3 _ _ ?_
    refine wp_ret ?_
    obtain rfl := Option.some.inj H
    exact fin hk _ [(.agg #[.slice A_r4_2_2 (([] : List Int) ++ l0).length p_r4_2_3, .slice (some ⟨b_r4_3_1, 0, none⟩) 0 0, .slice (some ⟨b_r4_4_2, 0, none⟩) (((15 : Int)).toNat) (((15 : Int)).toNat)])] rfl ⟨⟨_, rfl, run_loadN ag88 sz88 (box_cells hs (k := 2) rfl)⟩, trivial⟩ ⟨A_r4_2_2, p_r4_2_3, _, (some ⟨b_r4_3_1, 0, none⟩), 0, _, (some ⟨b_r4_4_2, 0, none⟩), (((15 : Int)).toNat), _, (by first | (rw [lh_r4_4_5]; done) | (rw [lh_r4_4_5]; rfl)), o_r4_2_5, o_r4_3_3, o_r4_4_4, (hs.pick [(0, 103001), (1, 103061), (2, 103081)] rfl).dnil⟩

noncomputable def spec_NewOram.f (l0 : List Int) : Option (S_Oram × Int) :=
  (bif (decide ((l0.length : Int) > 4096)) then (some ((⟨([] : List Int), ([] : List S_Block), ([] : List (List S_Block))⟩ : S_Oram), 2)) else (bif ((l0.length : Int) != 12) then (some ((⟨([] : List Int), ([] : List S_Block), ([] : List (List S_Block))⟩ : S_Oram), 8)) else ((spec_l08Leaves.f l0).bind fun y13 => (bif (!y13) then (some ((⟨([] : List Int), ([] : List S_Block), ([] : List (List S_Block))⟩ : S_Oram), 4)) else ((spec_l08New.f l0).bind fun y18 => (some (y18, 0)))))))
set_option maxRecDepth 100000 in
set_option maxHeartbeats 0 in
theorem spec_NewOram_t (w0 : World) (A0_ : Option Addr) (p0_ : Nat) (l0 : List Int) (k0_ : Chunk) (v0_ : View (Lay.int .i64) A0_ p0_ l0 k0_) (w0_ : Has w0 k0_) (r : S_Oram × Int) (H : spec_NewOram.f l0 = some r) :
    Calls Try.prog 121 #[.slice A0_ l0.length p0_] w0 (Ret (fun v w => ∃ (A0 : Option Addr) (p0 : Nat) (k0 : Chunk), ∃ (A1 : Option Addr) (p1 : Nat) (k1 : Chunk), ∃ (A2 : Option Addr) (p2 : Nat) (k2 : Chunk), v = .tuple #[.agg #[.slice A0 r.1.Pos.length p0, .slice A1 r.1.Stash.length p1, .slice A2 r.1.Buckets.length p2], .int .i64 r.2] ∧ Own (Lay.int .i64) 3 A0 p0 r.1.Pos k0 ∧ Own L_Block 146 A1 p1 r.1.Stash k1 ∧ Own (Lay.sl L_Block 146) 85 A2 p2 r.1.Buckets k2 ∧ Sat [] w0 w [] [(0, k0), (1, k1), (2, k2)])) := by
  have hs : Sat [] w0 w0 [(1, k0_)] [] := Sat.init w0 [(1, k0_)] [] (by simp only [List.mem_cons, List.not_mem_nil, or_false]; rintro x (rfl) <;> assumption) (by simp) List.nodup_nil (by simp [blks])
  unfold spec_NewOram.f at H
  refine enter Try.func121 rfl Try.ntmps121 rfl fun a hk => ?_
  apply wp_seq_k; intro K1 hK1
  apply wp_region_lit
  refine salx 2 hs rfl hk rfl rfl ze88 rfl fun b2 w a hk hs => ?_
  refine sa _ rfl hk rfl rfl rfl fun a hk => ?_
  show wpList _ _ _ [] _ _
  refine wpList_nil ?_
  refine hK1 _ _ ?_
  apply wp_seq_k; intro K3 hK3
  apply wp_seq_k; intro K4 hK4
  apply wp_region_lit
  refine sm _ rfl hk rfl rfl rfl fun a hk => ?_
  refine sle rfl hk rfl rfl rfl un27 fun a hk => ?_
  refine sv (.bool (decide ((l0.length : Int) > 4096))) hk rfl rfl rfl fun a hk => ?_
  show wpList _ _ _ [] _ _
  refine wpList_nil ?_
  refine hK4 _ _ ?_
  rcases cond_some H with ⟨c5, H⟩ | ⟨c5, H⟩
  · have hk := hk.lit 6 c5 rfl
    refine cnd_true hk rfl rfl ?_
    apply wp_seq_k; intro K6 hK6
    apply wp_region_lit
    refine sbd (pv := []) rfl hk rfl rfl rfl bd88_1 fun a hk => ?_
    refine ssw 2 hs rfl rfl hk rfl rfl rfl rfl sz88 (by simp [Value.oneCell']) rfl fun w a hk hs => ?_
    refine sa _ rfl hk rfl rfl rfl fun a hk => ?_
    show wpList _ _ _ [] _ _
    refine wpList_nil ?_
    refine hK6 _ _ ?_
    refine wp_ret ?_
    obtain rfl := Option.some.inj H
    have hs := hs.addNil 3
    have hs := hs.addNil 4
    have hs := hs.addNil 5
    exact fin hk _ [(.agg #[.slice none 0 0, .slice none 0 0, .slice none 0 0]), (.int .i64 2)] rfl ⟨⟨_, rfl, run_loadN ag88 sz88 (box_cells hs (k := 2) rfl)⟩, ⟨rfl, trivial⟩⟩ ⟨none, 0, [], none, 0, [], none, 0, [], rfl, Own.nil _ _, Own.nil _ _, Own.nil _ _, (hs.pick [(0, 3), (1, 4), (2, 5)] rfl).dnil⟩
  · have hk := hk.lit 6 c5 rfl
    refine cnd_false hk rfl rfl ?_
    refine wp_skip ?_
    refine hK3 _ _ ?_
    apply wp_seq_k; intro K7 hK7
    apply wp_seq_k; intro K8 hK8
    apply wp_region_lit
    refine sm _ rfl hk rfl rfl rfl fun a hk => ?_
    refine sle rfl hk rfl rfl rfl un27 fun a hk => ?_
    refine sv (.bool ((l0.length : Int) != 12)) hk rfl rfl rfl fun a hk => ?_
    show wpList _ _ _ [] _ _
    refine wpList_nil ?_
    refine hK8 _ _ ?_
    rcases cond_some H with ⟨c9, H⟩ | ⟨c9, H⟩
    · have hk := hk.lit 10 c9 rfl
      refine cnd_true hk rfl rfl ?_
      apply wp_seq_k; intro K10 hK10
      apply wp_region_lit
      refine sbd (pv := []) rfl hk rfl rfl rfl bd88_1 fun a hk => ?_
      refine ssw 2 hs rfl rfl hk rfl rfl rfl rfl sz88 (by simp [Value.oneCell']) rfl fun w a hk hs => ?_
      refine sa _ rfl hk rfl rfl rfl fun a hk => ?_
      show wpList _ _ _ [] _ _
      refine wpList_nil ?_
      refine hK10 _ _ ?_
      refine wp_ret ?_
      obtain rfl := Option.some.inj H
      have hs := hs.addNil 6
      have hs := hs.addNil 7
      have hs := hs.addNil 8
      exact fin hk _ [(.agg #[.slice none 0 0, .slice none 0 0, .slice none 0 0]), (.int .i64 8)] rfl ⟨⟨_, rfl, run_loadN ag88 sz88 (box_cells hs (k := 2) rfl)⟩, ⟨rfl, trivial⟩⟩ ⟨none, 0, [], none, 0, [], none, 0, [], rfl, Own.nil _ _, Own.nil _ _, Own.nil _ _, (hs.pick [(0, 6), (1, 7), (2, 8)] rfl).dnil⟩
    · have hk := hk.lit 10 c9 rfl
      refine cnd_false hk rfl rfl ?_
      refine wp_skip ?_
      refine hK7 _ _ ?_
      apply wp_seq_k; intro K11 hK11
      apply wp_seq_k; intro K12 hK12
      apply wp_region_lit
      refine sm _ rfl hk rfl rfl rfl fun a hk => ?_
      obtain ⟨y13, h14, H⟩ := bind_some H
      refine sc rfl en159 hk rfl rfl rfl (spec_l08Leaves_t _ A0_ p0_ l0 _ v0_ (hs.hasD (k := 1) rfl) _ h14) ?_
      rintro _ w ⟨rfl, hG⟩ a hk
      have hs := hs.call0 hG
      refine sv (.bool (!y13)) hk rfl rfl rfl fun a hk => ?_
      show wpList _ _ _ [] _ _
      refine wpList_nil ?_
      refine hK12 _ _ ?_
      rcases cond_some H with ⟨c15, H⟩ | ⟨c15, H⟩
      · have hk := hk.lit 14 c15 rfl
        refine cnd_true hk rfl rfl ?_
        apply wp_seq_k; intro K16 hK16
        apply wp_region_lit
        refine sbd (pv := []) rfl hk rfl rfl rfl bd88_1 fun a hk => ?_
        refine ssw 2 hs rfl rfl hk rfl rfl rfl rfl sz88 (by simp [Value.oneCell']) rfl fun w a hk hs => ?_
        refine sa _ rfl hk rfl rfl rfl fun a hk => ?_
        show wpList _ _ _ [] _ _
        refine wpList_nil ?_
        refine hK16 _ _ ?_
        refine wp_ret ?_
        obtain rfl := Option.some.inj H
        have hs := hs.addNil 9
        have hs := hs.addNil 10
        have hs := hs.addNil 11
        exact fin hk _ [(.agg #[.slice none 0 0, .slice none 0 0, .slice none 0 0]), (.int .i64 4)] rfl ⟨⟨_, rfl, run_loadN ag88 sz88 (box_cells hs (k := 2) rfl)⟩, ⟨rfl, trivial⟩⟩ ⟨none, 0, [], none, 0, [], none, 0, [], rfl, Own.nil _ _, Own.nil _ _, Own.nil _ _, (hs.pick [(0, 9), (1, 10), (2, 11)] rfl).dnil⟩
      · have hk := hk.lit 14 c15 rfl
        refine cnd_false hk rfl rfl ?_
        refine wp_skip ?_
        refine hK11 _ _ ?_
        apply wp_seq_k; intro K17 hK17
        apply wp_region_lit
        refine sm _ rfl hk rfl rfl rfl fun a hk => ?_
        obtain ⟨y18, h19, H⟩ := bind_some H
        refine sc rfl en160 hk rfl rfl rfl (spec_l08New_t _ A0_ p0_ l0 _ v0_ (hs.hasD (k := 1) rfl) _ h19) ?_
        rintro _ w ⟨A20, p21, k22, A24, p25, k26, A28, p29, k30, rfl, o23, o27, o31, hG⟩ a hk
        have hs := hs.call0k hG [12, 13, 14] rfl
        refine ssw 2 hs rfl rfl hk rfl rfl rfl rfl sz88 (by simp [Value.oneCell']) rfl fun w a hk hs => ?_
        refine sa _ rfl hk rfl rfl rfl fun a hk => ?_
        show wpList _ _ _ [] _ _
        refine wpList_nil ?_
        refine hK17 _ _ ?_
        refine wp_ret ?_
        obtain rfl := Option.some.inj H
        exact fin hk _ [(.agg #[.slice A20 y18.Pos.length p21, .slice A24 y18.Stash.length p25, .slice A28 y18.Buckets.length p29]), (.int .i64 0)] rfl ⟨⟨_, rfl, run_loadN ag88 sz88 (box_cells hs (k := 2) rfl)⟩, ⟨rfl, trivial⟩⟩ ⟨A20, p21, _, A24, p25, _, A28, p29, _, rfl, o23, o27, o31, (hs.pick [(0, 12), (1, 13), (2, 14)] rfl).dnil⟩

noncomputable def spec_NewEnc.f (l0 : List Int) : Option (S_Enc × Int) :=
  (bif (decide ((l0.length : Int) > 4096)) then (some ((⟨([] : List Int), (⟨([] : List Int), ([] : List S_Block), ([] : List (List S_Block))⟩ : S_Oram)⟩ : S_Enc), 2)) else ((spec_NewOram.f l0).bind fun y8 => (bif (y8.2 != 0) then (some ((⟨([] : List Int), (⟨([] : List Int), ([] : List S_Block), ([] : List (List S_Block))⟩ : S_Oram)⟩ : S_Enc), y8.2)) else (if 0 ≤ (11 : Int) ∧ (11 : Int) ≤ 1073741824 then (some ((⟨(List.replicate ((11 : Int)).toNat (0 : Int)), y8.1⟩ : S_Enc), 0)) else none))))
set_option maxRecDepth 100000 in
set_option maxHeartbeats 0 in
theorem spec_NewEnc_t (w0 : World) (A0_ : Option Addr) (p0_ : Nat) (l0 : List Int) (k0_ : Chunk) (v0_ : View (Lay.int .i64) A0_ p0_ l0 k0_) (w0_ : Has w0 k0_) (r : S_Enc × Int) (H : spec_NewEnc.f l0 = some r) :
    Calls Try.prog 57 #[.slice A0_ l0.length p0_] w0 (Ret (fun v w => ∃ (A0 : Option Addr) (p0 : Nat) (k0 : Chunk), ∃ (A1 : Option Addr) (p1 : Nat) (k1 : Chunk), ∃ (A2 : Option Addr) (p2 : Nat) (k2 : Chunk), ∃ (A3 : Option Addr) (p3 : Nat) (k3 : Chunk), v = .tuple #[.agg #[.slice A0 r.1.Keys.length p0, .slice A1 r.1.Oram.Pos.length p1, .slice A2 r.1.Oram.Stash.length p2, .slice A3 r.1.Oram.Buckets.length p3], .int .i64 r.2] ∧ Own (Lay.int .i64) 3 A0 p0 r.1.Keys k0 ∧ Own (Lay.int .i64) 3 A1 p1 r.1.Oram.Pos k1 ∧ Own L_Block 146 A2 p2 r.1.Oram.Stash k2 ∧ Own (Lay.sl L_Block 146) 85 A3 p3 r.1.Oram.Buckets k3 ∧ Sat [] w0 w [] [(0, k0), (1, k1), (2, k2), (3, k3)])) := by
  have hs : Sat [] w0 w0 [(1, k0_)] [] := Sat.init w0 [(1, k0_)] [] (by simp only [List.mem_cons, List.not_mem_nil, or_false]; rintro x (rfl) <;> assumption) (by simp) List.nodup_nil (by simp [blks])
  unfold spec_NewEnc.f at H
  refine enter Try.func57 rfl Try.ntmps57 rfl fun a hk => ?_
  apply wp_seq_k; intro K1 hK1
  apply wp_region_lit
  refine salx 2 hs rfl hk rfl rfl ze95 rfl fun b2 w a hk hs => ?_
  refine sa _ rfl hk rfl rfl rfl fun a hk => ?_
  show wpList _ _ _ [] _ _
  refine wpList_nil ?_
  refine hK1 _ _ ?_
  apply wp_seq_k; intro K3 hK3
  apply wp_seq_k; intro K4 hK4
  apply wp_region_lit
  refine sm _ rfl hk rfl rfl rfl fun a hk => ?_
  refine sle rfl hk rfl rfl rfl un27 fun a hk => ?_
  refine sv (.bool (decide ((l0.length : Int) > 4096))) hk rfl rfl rfl fun a hk => ?_
  show wpList _ _ _ [] _ _
  refine wpList_nil ?_
  refine hK4 _ _ ?_
  rcases cond_some H with ⟨c5, H⟩ | ⟨c5, H⟩
  · have hk := hk.lit 8 c5 rfl
    refine cnd_true hk rfl rfl ?_
    apply wp_seq_k; intro K6 hK6
    apply wp_region_lit
    refine sbd (pv := []) rfl hk rfl rfl rfl bd95_2 fun a hk => ?_
    refine ssw 2 hs rfl rfl hk rfl rfl rfl rfl sz95 (by simp [Value.oneCell']) rfl fun w a hk hs => ?_
    refine sa _ rfl hk rfl rfl rfl fun a hk => ?_
    show wpList _ _ _ [] _ _
    refine wpList_nil ?_
    refine hK6 _ _ ?_
    refine wp_ret ?_
    obtain rfl := Option.some.inj H
    have hs := hs.addNil 3
    have hs := hs.addNil 4
    have hs := hs.addNil 5
    have hs := hs.addNil 6
    exact fin hk _ [(.agg #[.slice none 0 0, .slice none 0 0, .slice none 0 0, .slice none 0 0]), (.int .i64 2)] rfl ⟨⟨_, rfl, run_loadN ag95 sz95 (box_cells hs (k := 2) rfl)⟩, ⟨rfl, trivial⟩⟩ ⟨none, 0, [], none, 0, [], none, 0, [], none, 0, [], rfl, Own.nil _ _, Own.nil _ _, Own.nil _ _, Own.nil _ _, (hs.pick [(0, 3), (1, 4), (2, 5), (3, 6)] rfl).dnil⟩
  · have hk := hk.lit 8 c5 rfl
    refine cnd_false hk rfl rfl ?_
    refine wp_skip ?_
    refine hK3 _ _ ?_
    apply wp_seq_k; intro K7 hK7
    apply wp_region_lit
    refine sm _ rfl hk rfl rfl rfl fun a hk => ?_
    obtain ⟨y8, h9, H⟩ := bind_some H
    refine sc rfl en121 hk rfl rfl rfl (spec_NewOram_t _ A0_ p0_ l0 _ v0_ (hs.hasD (k := 1) rfl) _ h9) ?_
    rintro _ w ⟨A10, p11, k12, A14, p15, k16, A18, p19, k20, rfl, o13, o17, o21, hG⟩ a hk
    have hs := hs.call0k hG [7, 8, 9] rfl
    refine sm _ rfl hk rfl rfl rfl fun a hk => ?_
    refine sv (.agg #[.slice A10 y8.1.Pos.length p11, .slice A14 y8.1.Stash.length p15, .slice A18 y8.1.Buckets.length p19]) hk rfl rfl rfl fun a hk => ?_
    refine sv (.int .i64 y8.2) hk rfl rfl rfl fun a hk => ?_
    refine salx 10 hs rfl hk rfl rfl ze88 rfl fun b22 w a hk hs => ?_
    refine ssw 10 hs rfl rfl hk rfl rfl rfl rfl sz88 (by simp [Value.oneCell']) rfl fun w a hk hs => ?_
    refine sa _ rfl hk rfl rfl rfl fun a hk => ?_
    show wpList _ _ _ [] _ _
    refine wpList_nil ?_
    refine hK7 _ _ ?_
    apply wp_seq_k; intro K23 hK23
    apply wp_seq_k; intro K24 hK24
    apply wp_region_lit
    refine sm _ rfl hk rfl rfl rfl fun a hk => ?_
    refine sv (.bool (y8.2 != 0)) hk rfl rfl rfl fun a hk => ?_
    show wpList _ _ _ [] _ _
    refine wpList_nil ?_
    refine hK24 _ _ ?_
    rcases cond_some H with ⟨c25, H⟩ | ⟨c25, H⟩
    · have hk := hk.lit 16 c25 rfl
      refine cnd_true hk rfl rfl ?_
      apply wp_seq_k; intro K26 hK26
      apply wp_region_lit
      refine sbd (pv := []) rfl hk rfl rfl rfl bd95_2 fun a hk => ?_
      refine sm _ rfl hk rfl rfl rfl fun a hk => ?_
      refine ssw 2 hs rfl rfl hk rfl rfl rfl rfl sz95 (by simp [Value.oneCell']) rfl fun w a hk hs => ?_
      refine sa _ rfl hk rfl rfl rfl fun a hk => ?_
      show wpList _ _ _ [] _ _
      refine wpList_nil ?_
      refine hK26 _ _ ?_
      refine wp_ret ?_
      obtain rfl := Option.some.inj H
      have hs := hs.addNil 11
      have hs := hs.addNil 12
      have hs := hs.addNil 13
      have hs := hs.addNil 14
      exact fin hk _ [(.agg #[.slice none 0 0, .slice none 0 0, .slice none 0 0, .slice none 0 0]), (.int .i64 y8.2)] rfl ⟨⟨_, rfl, run_loadN ag95 sz95 (box_cells hs (k := 2) rfl)⟩, ⟨rfl, trivial⟩⟩ ⟨none, 0, [], none, 0, [], none, 0, [], none, 0, [], rfl, Own.nil _ _, Own.nil _ _, Own.nil _ _, Own.nil _ _, (hs.pick [(0, 11), (1, 12), (2, 13), (3, 14)] rfl).dnil⟩
    · have hk := hk.lit 16 c25 rfl
      refine cnd_false hk rfl rfl ?_
      refine wp_skip ?_
      refine hK23 _ _ ?_
      apply wp_seq_k; intro K27 hK27
      refine wp_region_tree (.q 1 (.alt 0 (.alt 2 (.alt 3 (.last 4) .stop) .stop) .stop)) mo (by kernel_rfl) (hs.pick [(10, 10), (9, 9), (8, 8), (7, 7)] rfl) fun _ => ?_
      have hs := hs.drew
      refine tqst (.agg #[.slice A10 y8.1.Pos.length p11, .slice A14 y8.1.Stash.length p15, .slice A18 y8.1.Buckets.length p19]) hk rfl rfl rfl rfl (fun w hs => sln [.slice A10 y8.1.Pos.length p11, .slice A14 y8.1.Stash.length p15, .slice A18 y8.1.Buckets.length p19] rfl hk rfl rfl rfl ag88 sz88 (box_cells hs (k := 10) rfl) fun a hk => qe hk) fun a hk => ?_
      refine tsst hk rfl rfl (fun K_r28_0 hK_r28_0 w hF => ?_) wt_stop
      have hs := hs.f hF
      rcases ite_some H with ⟨c29, H⟩ | ⟨_, H⟩
      rotate_left
      · cases H
      refine smk 16 (Lay.int .i64) hs rfl hk rfl rfl rfl rfl un27 mk3 lz3 rfl rfl c29.1 c29.2 fun b30 k31 w a hk o32 hs => ?_
      have lh33 : (List.replicate ((11 : Int)).toNat (0 : Int)).length = ((11 : Int)).toNat := List.length_replicate
      refine se (hs.pick [(10, 10), (9, 9), (8, 8), (7, 7)] rfl) hk (hK_r28_0 _ _ ?_)
      refine tsst hk rfl rfl (fun K_r28_2 hK_r28_2 w hF => ?_) wt_stop
      have hs := hs.f hF
      refine sbd (pv := [(0, (.slice (some ⟨b30, 0, none⟩) (((11 : Int)).toNat) (((11 : Int)).toNat))), (1, (.agg #[.slice A10 y8.1.Pos.length p11, .slice A14 y8.1.Stash.length p15, .slice A18 y8.1.Buckets.length p19]))]) rfl hk rfl rfl rfl (bd95_3 (some ⟨b30, 0, none⟩) (((11 : Int)).toNat) (((11 : Int)).toNat) A10 y8.1.Pos.length p11 A14 y8.1.Stash.length p15 A18 y8.1.Buckets.length p19) fun a hk => ?_
      refine se (hs.pick [(10, 10), (9, 9), (8, 8), (7, 7)] rfl) hk (hK_r28_2 _ _ ?_)
      refine tsst hk rfl rfl (fun K_r28_3 hK_r28_3 w hF => ?_) wt_stop
      have hs := hs.f hF
      refine ssw 2 hs rfl rfl hk rfl rfl rfl rfl sz95 (by simp [Value.oneCell']) rfl fun w a hk hs => ?_
      refine se (hs.pick [(10, 10), (9, 9), (8, 8), (7, 7)] rfl) hk (hK_r28_3 _ _ ?_)
      refine tlst hk rfl rfl fun K_r28_4 hK_r28_4 w hF => ?_
      have hs := hs.f hF
      refine sa _ rfl hk rfl rfl rfl fun a hk => ?_
      refine se trivial hk (hK_r28_4 _ _ fun w hF => ?_)
      have hs := hs.f hF
      refine hK27 _ _ ?_
      refine wp_ret ?_
      obtain rfl := Option.some.inj H
      exact fin hk _ [(.agg #[.slice (some ⟨b30, 0, none⟩) (((11 : Int)).toNat) (((11 : Int)).toNat), .slice A10 y8.1.Pos.length p11, .slice A14 y8.1.Stash.length p15, .slice A18 y8.1.Buckets.length p19]), (.int .i64 0)] rfl ⟨⟨_, rfl, run_loadN ag95 sz95 (box_cells hs (k := 2) rfl)⟩, ⟨rfl, trivial⟩⟩ ⟨(some ⟨b30, 0, none⟩), (((11 : Int)).toNat), _, A10, p11, _, A14, p15, _, A18, p19, _, (by first | (rw [lh33]; done) | (rw [lh33]; rfl)), o32, o13, o17, o21, (hs.pick [(0, 16), (1, 7), (2, 8), (3, 9)] rfl).dnil⟩

noncomputable def laws_toIntS.s0 (l0 : List Int) (u12 : List Int) (u16 : Int) : Option (((List Int) × Int) ⊕ Ex ((List Int)) ((List Int))) :=
  (bif (decide (u16 < (l0.length : Int))) then (if 0 ≤ u16 ∧ u16 < (l0.length : Int) then (if 0 ≤ u16 ∧ u16 < ((((l0.length : Int)).toNat) : Int) then (some (.inl ((u12.set u16.toNat (l0.getD u16.toNat 0)), (w64 (u16 + 1))))) else none) else none) else (some (.inr (.out u12))))
noncomputable def laws_toIntS.f (l0 : List Int) : Option ((List Int)) :=
  (if 0 ≤ (l0.length : Int) ∧ (l0.length : Int) ≤ 1073741824 then ((loopO (fun s => laws_toIntS.s0 l0 s.1 s.2) ((List.replicate ((l0.length : Int)).toNat (0 : Int)), 0)).bind fun o => match o with | .out u17 => (some u17) | .ret r => (some r)) else none)
set_option maxRecDepth 100000 in
set_option maxHeartbeats 0 in
theorem laws_toIntS_t (w0 : World) (A0_ : Option Addr) (p0_ : Nat) (l0 : List Int) (k0_ : Chunk) (v0_ : View (Lay.int .i64) A0_ p0_ l0 k0_) (w0_ : Has w0 k0_) (r : (List Int)) (H : laws_toIntS.f l0 = some r) :
    Calls Try.prog 58 #[.slice A0_ l0.length p0_] w0 (Ret (fun v w => ∃ (A0 : Option Addr) (p0 : Nat) (k0 : Chunk), v = .slice A0 r.length p0 ∧ Own (Lay.int .i64) 3 A0 p0 r k0 ∧ Sat [] w0 w [] [(0, k0)])) := by
  have hs : Sat [] w0 w0 [(1, k0_)] [] := Sat.init w0 [(1, k0_)] [] (by simp only [List.mem_cons, List.not_mem_nil, or_false]; rintro x (rfl) <;> assumption) (by simp) List.nodup_nil (by simp [blks])
  unfold laws_toIntS.f at H
  refine enter Try.func58 rfl Try.ntmps58 rfl fun a hk => ?_
  apply wp_seq_k; intro K1 hK1
  apply wp_region_lit
  refine sa _ rfl hk rfl rfl rfl fun a hk => ?_
  show wpList _ _ _ [] _ _
  refine wpList_nil ?_
  refine hK1 _ _ ?_
  apply wp_seq_k; intro K2 hK2
  apply wp_region_lit
  refine sm _ rfl hk rfl rfl rfl fun a hk => ?_
  refine sle rfl hk rfl rfl rfl un27 fun a hk => ?_
  rcases ite_some H with ⟨c3, H⟩ | ⟨_, H⟩
  rotate_left
  · cases H
  refine smk 2 (Lay.int .i64) hs rfl hk rfl rfl rfl rfl un27 mk3 lz3 rfl rfl c3.1 c3.2 fun b4 k5 w a hk o6 hs => ?_
  have lh7 : (List.replicate ((l0.length : Int)).toNat (0 : Int)).length = ((l0.length : Int)).toNat := List.length_replicate
  refine sa _ rfl hk rfl rfl rfl fun a hk => ?_
  show wpList _ _ _ [] _ _
  refine wpList_nil ?_
  refine hK2 _ _ ?_
  apply wp_seq_k; intro K8 hK8
  apply wp_seq_k; intro K9 hK9
  apply wp_region_lit
  refine sa _ rfl hk rfl rfl rfl fun a hk => ?_
  show wpList _ _ _ [] _ _
  refine wpList_nil ?_
  refine hK9 _ _ ?_
  obtain ⟨o21, h22, HL23⟩ := bind_some H
  clear H
  obtain ⟨R24, hR24⟩ : ∃ R : Act → World → Prop, R = fun a w => ∃ (u17 : List Int) (k18 : Chunk), o21 = .out u17 ∧ Kn [(3, (.slice (some ⟨b4, 0, none⟩) (((l0.length : Int)).toNat) (((l0.length : Int)).toNat)))] 22 a ∧ Sat [] w0 w [(1, k0_)] [(2, k18)] ∧ Own (Lay.int .i64) 3 (some ⟨b4, 0, none⟩) (((l0.length : Int)).toNat) u17 k18 ∧ u17.length = (((l0.length : Int)).toNat) := ⟨_, rfl⟩
  refine wp_cutq R24 ?_ ?_
  · refine wp_block ?_
    obtain ⟨fu26, h22⟩ := loopO_some h22
    obtain ⟨I25, hI25⟩ : ∃ I : Nat → Act → World → Prop, I = fun fu a w => ∃ (u12 : List Int) (u16 : Int) (k13 : Chunk), loopN (fun s => laws_toIntS.s0 l0 s.1 s.2) fu (u12, u16) = some o21 ∧ Kn [(0, (.slice A0_ l0.length p0_)), (3, (.slice (some ⟨b4, 0, none⟩) (((l0.length : Int)).toNat) (((l0.length : Int)).toNat))), (4, (.int .i64 u16))] 22 a ∧ Sat [] w0 w [(1, k0_)] [(2, k13)] ∧ Own (Lay.int .i64) 3 (some ⟨b4, 0, none⟩) (((l0.length : Int)).toNat) u12 k13 ∧ u12.length = (((l0.length : Int)).toNat) := ⟨_, rfl⟩
    refine wp_loop_ghost I25 fu26 ?_ ?_
    · rw [hI25]
      exact ⟨(List.replicate ((l0.length : Int)).toNat (0 : Int)), 0, _, h22, (hk.c 0 rfl (hk.c 3 rfl (hk.c 4 rfl hk.k))), (hs.pick [(2, 2)] rfl), o6, lh7⟩
    · clear h22 hk hs
      intro fu26 a w hI0
      rw [hI25] at hI0
      obtain ⟨u12, u16, k13, hi, hk, hs, o14, lh15⟩ := hI0
      obtain ⟨x27, H, h28⟩ := loop_round hi
      try dsimp only at H
      unfold laws_toIntS.s0 at H
      apply wp_seq_k; intro K29 hK29
      apply wp_seq_k; intro K30 hK30
      apply wp_region_lit
      refine sm _ rfl hk rfl rfl rfl fun a hk => ?_
      refine sm _ rfl hk rfl rfl rfl fun a hk => ?_
      refine sle rfl hk rfl rfl rfl un27 fun a hk => ?_
      refine sv (.bool (decide (u16 < (l0.length : Int)))) hk rfl rfl rfl fun a hk => ?_
      show wpList _ _ _ [] _ _
      refine wpList_nil ?_
      refine hK30 _ _ ?_
      rcases cond_some H with ⟨c31, H⟩ | ⟨c31, H⟩
      · have hk := hk.lit 11 c31 rfl
        refine cnd_true hk rfl rfl ?_
        refine wp_skip ?_
        refine hK29 _ _ ?_
        apply wp_seq_k; intro K32 hK32
        refine wp_block ?_
        apply wp_region_lit
        refine sm _ rfl hk rfl rfl rfl fun a hk => ?_
        refine sm _ rfl hk rfl rfl rfl fun a hk => ?_
        refine sm _ rfl hk rfl rfl rfl fun a hk => ?_
        refine sm _ rfl hk rfl rfl rfl fun a hk => ?_
        rcases ite_some H with ⟨c33, H⟩ | ⟨_, H⟩
        rotate_left
        · cases H
        obtain ⟨b34, q35, hAc33⟩ := (v0_).some_ u16 c33.1 c33.2
        refine si rfl hk rfl rfl rfl rfl un27 sz3 c33.1 c33.2 hAc33 fun a hk => ?_
        obtain ⟨_, rfl, e36⟩ := (v0_).at_ 0 u16 c33.1 c33.2
        refine sl (v := (.int .i64 (l0.getD u16.toNat 0))) rfl hk rfl rfl rfl ag3 ((e36 0 _ rfl).cell (hs.hasD (k := 1) rfl)) fun a hk => ?_
        rcases ite_some H with ⟨c37, H⟩ | ⟨_, H⟩
        rotate_left
        · cases H
        obtain ⟨b38, q39, hAc37⟩ := (o14.view).some_ u16 c37.1 (by rw [lh15]; exact c37.2)
        refine si rfl hk rfl rfl rfl rfl un27 sz3 c37.1 c37.2 hAc37 fun a hk => ?_
        refine so (j := 0) 2 0 (l0.getD u16.toNat 0) hs rfl o14 c37.1 (by rw [lh15]; exact c37.2) rfl hk rfl rfl rfl rfl rfl sz3 (by simp [Value.cells, Value.oneCell']) (Nat.le_of_ble_eq_true rfl) (fun _ _ h => ⟨by rw [h.1]; rfl, h.2⟩) fun k40 w a hk o41 hs => ?_
        have lh42 : (u12.set u16.toNat (l0.getD u16.toNat 0)).length = (((l0.length : Int)).toNat) := by rw [List.length_set]; exact lh15
        show wpList _ _ _ [] _ _
        refine wpList_nil ?_
        refine hK32 _ _ ?_
        apply wp_region_lit
        refine sm _ rfl hk rfl rfl rfl fun a hk => ?_
        refine sv (.int .i64 (w64 (u16 + 1))) hk rfl rfl rfl fun a hk => ?_
        refine sa _ rfl hk rfl rfl rfl fun a hk => ?_
        show wpList _ _ _ [] _ _
        refine wpList_nil ?_
        obtain rfl := Option.some.inj H
        obtain ⟨m43, hmm43, h28⟩ := h28
        show ∃ n', n' < _ ∧ I25 n' _ _
        refine ⟨m43, hmm43, ?_⟩
        rw [hI25]
        exact ⟨(u12.set u16.toNat (l0.getD u16.toNat 0)), (w64 (u16 + 1)), _, h28, (hk.c 0 rfl (hk.c 3 rfl (hk.c 4 rfl hk.k))), (hs.pick [(2, 2)] rfl), o41, lh42⟩
      · have hk := hk.lit 11 c31 rfl
        refine cnd_false hk rfl rfl ?_
        refine wp_exit ?_
        obtain rfl := Option.some.inj H
        show R24 _ _
        rw [hR24]
        exact ⟨u12, _, h28.symm, (hk.c 3 rfl hk.k), (hs.pick [(2, 2)] rfl), o14, lh15⟩
  · intro a w hR0
    rw [hR24] at hR0
    obtain ⟨u17, k18, rfl, hk, hs, o19, lh20⟩ := hR0
    have H := HL23
    try dsimp only at H
    refine hK8 _ _ ?_
    apply wp_seq_k; intro K44 hK44
    apply wp_region_lit
    refine sm _ rfl hk rfl rfl rfl fun a hk => ?_
    refine sa _ rfl hk rfl rfl rfl fun a hk => ?_
    show wpList _ _ _ [] _ _
    refine wpList_nil ?_
    refine hK44 _ _ ?_
    refine wp_ret ?_
    obtain rfl := Option.some.inj H
    exact fin hk _ [(.slice (some ⟨b4, 0, none⟩) (((l0.length : Int)).toNat) (((l0.length : Int)).toNat))] rfl ⟨rfl, trivial⟩ ⟨(some ⟨b4, 0, none⟩), (((l0.length : Int)).toNat), _, (by first | (rw [lh20]; done) | (rw [lh20]; rfl)), o19, (hs.pick [(0, 2)] rfl).dnil⟩

noncomputable def impl_within.f (x0 : Int) (x1 : Int) (x2 : Int) : Option (Bool) :=
  (((bif (decide (x1 ≤ x0)) then (some (decide (x0 ≤ x2))) else (some false)) : Option (Bool)).bind fun u4 => (some u4))
set_option maxRecDepth 100000 in
set_option maxHeartbeats 0 in
theorem impl_within_t (w0 : World) (x0 : Int) (x1 : Int) (x2 : Int) (r : Bool) (H : impl_within.f x0 x1 x2 = some r) :
    Calls Try.prog 102 #[.int .i64 x0, .int .i64 x1, .int .i64 x2] w0 (Ret (fun v w => v = .bool r ∧ Sat [] w0 w [] [])) := by
  have hs : Sat [] w0 w0 [] [] := Sat.init w0 [] [] (by simp) (by simp) List.nodup_nil (by simp [blks])
  unfold impl_within.f at H
  refine enter Try.func102 rfl Try.ntmps102 rfl fun a hk => ?_
  apply wp_seq_k; intro K1 hK1
  apply wp_region_lit
  refine sa _ rfl hk rfl rfl rfl fun a hk => ?_
  show wpList _ _ _ [] _ _
  refine wpList_nil ?_
  refine hK1 _ _ ?_
  apply wp_seq_k; intro K2 hK2
  obtain ⟨o5, h6, HL7⟩ := bind_some H
  clear H
  obtain ⟨R8, hR8⟩ : ∃ R : Act → World → Prop, R = fun a w => ∃ (u4 : Bool), u4 = o5 ∧ Kn [(6, (.bool u4))] 15 a ∧ Sat [] w0 w [] [] := ⟨_, rfl⟩
  refine wp_cutq R8 ?_ ?_
  · have H := h6
    apply wp_region_lit
    refine sm _ rfl hk rfl rfl rfl fun a hk => ?_
    refine sm _ rfl hk rfl rfl rfl fun a hk => ?_
    refine sv (.bool (decide (x1 ≤ x0))) hk rfl rfl rfl fun a hk => ?_
    refine sm _ rfl hk rfl rfl rfl fun a hk => ?_
    rcases cond_some H with ⟨c9, H⟩ | ⟨c9, H⟩
    · have hk := hk.lit 10 c9 rfl
      refine sm _ rfl hk rfl rfl rfl fun a hk => ?_
      refine sm _ rfl hk rfl rfl rfl fun a hk => ?_
      refine sv (.bool (decide (x0 ≤ x2))) hk rfl rfl rfl fun a hk => ?_
      refine sv (.bool (decide (x0 ≤ x2))) hk rfl rfl rfl fun a hk => ?_
      refine sa _ rfl hk rfl rfl rfl fun a hk => ?_
      show wpList _ _ _ [] _ _
      refine wpList_nil ?_
      obtain rfl := Option.some.inj H
      show R8 _ _
      rw [hR8]
      exact ⟨(decide (x0 ≤ x2)), rfl, (hk.c 6 rfl hk.k), (hs.pick [] rfl)⟩
    · have hk := hk.lit 10 c9 rfl
      refine sk hk rfl rfl rfl fun a hk => ?_
      refine sk hk rfl rfl rfl fun a hk => ?_
      refine sk hk rfl rfl rfl fun a hk => ?_
      refine sv (.bool false) hk rfl rfl rfl fun a hk => ?_
      refine sa _ rfl hk rfl rfl rfl fun a hk => ?_
      show wpList _ _ _ [] _ _
      refine wpList_nil ?_
      obtain rfl := Option.some.inj H
      show R8 _ _
      rw [hR8]
      exact ⟨false, rfl, (hk.c 6 rfl hk.k), (hs.pick [] rfl)⟩
  · intro a w hR0
    rw [hR8] at hR0
    obtain ⟨u4, rfl, hk, hs⟩ := hR0
    have H := HL7
    try dsimp only at H
    refine hK2 _ _ ?_
    refine wp_ret ?_
    obtain rfl := Option.some.inj H
    exact fin hk _ [(.bool u4)] rfl ⟨rfl, trivial⟩ ⟨rfl, (hs.pick [] rfl).dnil⟩

noncomputable def impl_isLeaf.f (x0 : Int) : Option (Bool) :=
  ((impl_within.f x0 0 7).bind fun y3 => (some y3))
set_option maxRecDepth 100000 in
set_option maxHeartbeats 0 in
theorem impl_isLeaf_t (w0 : World) (x0 : Int) (r : Bool) (H : impl_isLeaf.f x0 = some r) :
    Calls Try.prog 109 #[.int .i64 x0] w0 (Ret (fun v w => v = .bool r ∧ Sat [] w0 w [] [])) := by
  have hs : Sat [] w0 w0 [] [] := Sat.init w0 [] [] (by simp) (by simp) List.nodup_nil (by simp [blks])
  unfold impl_isLeaf.f at H
  refine enter Try.func109 rfl Try.ntmps109 rfl fun a hk => ?_
  apply wp_seq_k; intro K1 hK1
  apply wp_region_lit
  refine sa _ rfl hk rfl rfl rfl fun a hk => ?_
  show wpList _ _ _ [] _ _
  refine wpList_nil ?_
  refine hK1 _ _ ?_
  apply wp_seq_k; intro K2 hK2
  apply wp_region_lit
  refine sm _ rfl hk rfl rfl rfl fun a hk => ?_
  obtain ⟨y3, h4, H⟩ := bind_some H
  refine sc rfl en102 hk rfl rfl rfl (impl_within_t _ x0 0 7 _ h4) ?_
  rintro _ w ⟨rfl, hG⟩ a hk
  have hs := hs.call0 hG
  refine sa _ rfl hk rfl rfl rfl fun a hk => ?_
  show wpList _ _ _ [] _ _
  refine wpList_nil ?_
  refine hK2 _ _ ?_
  refine wp_ret ?_
  obtain rfl := Option.some.inj H
  exact fin hk _ [(.bool y3)] rfl ⟨rfl, trivial⟩ ⟨rfl, (hs.pick [] rfl).dnil⟩

noncomputable def slices_IndexFunc_int_int.s0 (l0 : List Int) (q1 : Int → Option (Bool)) (u6 : Int) : Option ((Int) ⊕ Ex (Unit) (Int)) :=
  (bif (decide (u6 < (l0.length : Int))) then (if 0 ≤ u6 ∧ u6 < (l0.length : Int) then ((q1 (l0.getD u6.toNat 0)).bind fun y25 => (bif y25 then (some (.inr (.ret u6))) else (some (.inl (w64 (u6 + 1)))))) else none) else (some (.inr (.out ()))))
noncomputable def slices_IndexFunc_int_int.f (l0 : List Int) (q1 : Int → Option (Bool)) : Option (Int) :=
  ((loopO (fun s => slices_IndexFunc_int_int.s0 l0 q1 s) 0).bind fun o => match o with | .out _ => (some (-1)) | .ret r => (some r))
set_option maxRecDepth 100000 in
set_option maxHeartbeats 0 in
theorem slices_IndexFunc_int_int_t (w0 : World) (A0_ : Option Addr) (p0_ : Nat) (l0 : List Int) (k0_ : Chunk) (v0_ : View (Lay.int .i64) A0_ p0_ l0 k0_) (w0_ : Has w0 k0_) (f1_ : FuncId) (c1_ : List Value) (e1_ : Enters Try.prog f1_) (q1 : Int → Option (Bool)) (k1_ : Chunk) (t1_ : ∀ w, Has w k1_ → ∀ (z0 : Int) (r : Bool), q1 z0 = some r → Calls Try.prog f1_ (([.int .i64 z0] : List Value) ++ c1_).toArray w (Ret (fun v w2 => v = .bool r ∧ Sat [] w w2 [] []))) (w1_ : Has w0 k1_) (r : Int) (H : slices_IndexFunc_int_int.f l0 q1 = some r) :
    Calls Try.prog 185 #[.slice A0_ l0.length p0_, .func (.func f1_) #[] c1_.toArray] w0 (Ret (fun v w => v = .int .i64 r ∧ Sat [] w0 w [] [])) := by
  have hs : Sat [] w0 w0 [(1, k0_), (2, k1_)] [] := Sat.init w0 [(1, k0_), (2, k1_)] [] (by simp only [List.mem_cons, List.not_mem_nil, or_false]; rintro x (rfl | rfl) <;> assumption) (by simp) List.nodup_nil (by simp [blks])
  unfold slices_IndexFunc_int_int.f at H
  refine enter Try.func185 rfl Try.ntmps185 rfl fun a hk => ?_
  apply wp_seq_k; intro K1 hK1
  apply wp_region_lit
  refine sa _ rfl hk rfl rfl rfl fun a hk => ?_
  show wpList _ _ _ [] _ _
  refine wpList_nil ?_
  refine hK1 _ _ ?_
  apply wp_seq_k; intro K2 hK2
  apply wp_seq_k; intro K3 hK3
  apply wp_region_lit
  refine sm _ rfl hk rfl rfl rfl fun a hk => ?_
  refine sle rfl hk rfl rfl rfl un27 fun a hk => ?_
  refine sm _ rfl hk rfl rfl rfl fun a hk => ?_
  show wpList _ _ _ [] _ _
  refine wpList_nil ?_
  refine hK3 _ _ ?_
  obtain ⟨o7, h8, HL9⟩ := bind_some H
  clear H
  obtain ⟨R10, hR10⟩ : ∃ R : Act → World → Prop, R = fun a w => o7 = .out () ∧ Kn [] 19 a ∧ Sat [] w0 w [(1, k0_), (2, k1_)] [] := ⟨_, rfl⟩
  refine wp_cutq R10 ?_ ?_
  · refine wp_block ?_
    obtain ⟨fu12, h8⟩ := loopO_some h8
    obtain ⟨I11, hI11⟩ : ∃ I : Nat → Act → World → Prop, I = fun fu a w => ∃ (u6 : Int), loopN (fun s => slices_IndexFunc_int_int.s0 l0 q1 s) fu u6 = some o7 ∧ Kn [(0, (.slice A0_ l0.length p0_)), (1, (.func (.func f1_) #[] c1_.toArray)), (7, (.int .i64 (l0.length : Int))), (8, (.int .i64 u6))] 19 a ∧ Sat [] w0 w [(1, k0_), (2, k1_)] [] := ⟨_, rfl⟩
    refine wp_loop_ghost I11 fu12 ?_ ?_
    · rw [hI11]
      exact ⟨0, h8, (hk.c 0 rfl (hk.c 1 rfl (hk.c 7 rfl (hk.c 8 rfl hk.k)))), (hs.pick [] rfl)⟩
    · clear h8 hk hs
      intro fu12 a w hI0
      rw [hI11] at hI0
      obtain ⟨u6, hi, hk, hs⟩ := hI0
      obtain ⟨x13, H, h14⟩ := loop_round hi
      try dsimp only at H
      unfold slices_IndexFunc_int_int.s0 at H
      apply wp_seq_k; intro K15 hK15
      apply wp_region_lit
      refine sv (.bool (decide (u6 < (l0.length : Int)))) hk rfl rfl rfl fun a hk => ?_
      show wpList _ _ _ [] _ _
      refine wpList_nil ?_
      refine hK15 _ _ ?_
      apply wp_seq_k; intro K16 hK16
      rcases cond_some H with ⟨c17, H⟩ | ⟨c17, H⟩
      · have hk := hk.lit 9 c17 rfl
        refine cnd_true hk rfl rfl ?_
        refine wp_skip ?_
        refine hK16 _ _ ?_
        apply wp_seq_k; intro K18 hK18
        refine wp_block ?_
        apply wp_seq_k; intro K19 hK19
        apply wp_region_lit
        refine sm _ rfl hk rfl rfl rfl fun a hk => ?_
        refine sa _ rfl hk rfl rfl rfl fun a hk => ?_
        show wpList _ _ _ [] _ _
        refine wpList_nil ?_
        refine hK19 _ _ ?_
        apply wp_seq_k; intro K20 hK20
        apply wp_region_lit
        refine sm _ rfl hk rfl rfl rfl fun a hk => ?_
        refine sm _ rfl hk rfl rfl rfl fun a hk => ?_
        refine sm _ rfl hk rfl rfl rfl fun a hk => ?_
        rcases ite_some H with ⟨c21, H⟩ | ⟨_, H⟩
        rotate_left
        · cases H
        obtain ⟨b22, q23, hAc21⟩ := (v0_).some_ u6 c21.1 c21.2
        refine si rfl hk rfl rfl rfl rfl un27 sz3 c21.1 c21.2 hAc21 fun a hk => ?_
        obtain ⟨_, rfl, e24⟩ := (v0_).at_ 0 u6 c21.1 c21.2
        refine sl (v := (.int .i64 (l0.getD u6.toNat 0))) rfl hk rfl rfl rfl ag3 ((e24 0 _ rfl).cell (hs.hasD (k := 1) rfl)) fun a hk => ?_
        obtain ⟨y25, h26, H⟩ := bind_some H
        refine scv (vs := ([(.int .i64 (l0.getD u6.toNat 0))] : List Value) ++ c1_) rfl rfl e1_ hk rfl rfl rfl (t1_ _ (hs.hasD (k := 2) rfl) (l0.getD u6.toNat 0) _ h26) ?_
        rintro _ w ⟨rfl, hG⟩ a hk
        have hs := hs.call0 hG
        show wpList _ _ _ [] _ _
        refine wpList_nil ?_
        refine hK20 _ _ ?_
        rcases cond_some H with ⟨c27, H⟩ | ⟨c27, H⟩
        · have hk := hk.lit 16 c27 rfl
          refine cnd_true hk rfl rfl ?_
          apply wp_seq_k; intro K28 hK28
          apply wp_region_lit
          refine sm _ rfl hk rfl rfl rfl fun a hk => ?_
          refine sa _ rfl hk rfl rfl rfl fun a hk => ?_
          show wpList _ _ _ [] _ _
          refine wpList_nil ?_
          refine hK28 _ _ ?_
          refine wp_ret ?_
          obtain rfl := Option.some.inj H
          have ho7 := h14
          try dsimp only at ho7
          subst ho7
          have H := HL9
          try dsimp only at H
          obtain rfl := Option.some.inj H
          exact fin hk _ [(.int .i64 u6)] rfl ⟨rfl, trivial⟩ ⟨rfl, (hs.pick [] rfl).dnil⟩
        · have hk := hk.lit 16 c27 rfl
          refine cnd_false hk rfl rfl ?_
          refine wp_skip ?_
          refine hK18 _ _ ?_
          apply wp_region_lit
          refine sv (.int .i64 (w64 (u6 + 1))) hk rfl rfl rfl fun a hk => ?_
          refine sm _ rfl hk rfl rfl rfl fun a hk => ?_
          show wpList _ _ _ [] _ _
          refine wpList_nil ?_
          obtain rfl := Option.some.inj H
          obtain ⟨m29, hmm29, h14⟩ := h14
          show ∃ n', n' < _ ∧ I11 n' _ _
          refine ⟨m29, hmm29, ?_⟩
          rw [hI11]
          exact ⟨(w64 (u6 + 1)), h14, (hk.c 0 rfl (hk.c 1 rfl (hk.c 7 rfl (hk.c 8 rfl hk.k)))), (hs.pick [] rfl)⟩
      · have hk := hk.lit 9 c17 rfl
        refine cnd_false hk rfl rfl ?_
        refine wp_exit ?_
        obtain rfl := Option.some.inj H
        show R10 _ _
        rw [hR10]
        exact ⟨h14.symm, hk.k, (hs.pick [] rfl)⟩
  · intro a w hR0
    rw [hR10] at hR0
    obtain ⟨rfl, hk, hs⟩ := hR0
    have H := HL9
    try dsimp only at H
    refine hK2 _ _ ?_
    apply wp_seq_k; intro K30 hK30
    apply wp_region_lit
    refine sa _ rfl hk rfl rfl rfl fun a hk => ?_
    show wpList _ _ _ [] _ _
    refine wpList_nil ?_
    refine hK30 _ _ ?_
    refine wp_ret ?_
    obtain rfl := Option.some.inj H
    exact fin hk _ [(.int .i64 (-1))] rfl ⟨rfl, trivial⟩ ⟨rfl, (hs.pick [] rfl).dnil⟩

noncomputable def slices_ContainsFunc_int_int.f (l0 : List Int) (q1 : Int → Option (Bool)) : Option (Bool) :=
  ((slices_IndexFunc_int_int.f l0 q1).bind fun y3 => (some (decide (y3 ≥ 0))))
set_option maxRecDepth 100000 in
set_option maxHeartbeats 0 in
theorem slices_ContainsFunc_int_int_t (w0 : World) (A0_ : Option Addr) (p0_ : Nat) (l0 : List Int) (k0_ : Chunk) (v0_ : View (Lay.int .i64) A0_ p0_ l0 k0_) (w0_ : Has w0 k0_) (f1_ : FuncId) (c1_ : List Value) (e1_ : Enters Try.prog f1_) (q1 : Int → Option (Bool)) (k1_ : Chunk) (t1_ : ∀ w, Has w k1_ → ∀ (z0 : Int) (r : Bool), q1 z0 = some r → Calls Try.prog f1_ (([.int .i64 z0] : List Value) ++ c1_).toArray w (Ret (fun v w2 => v = .bool r ∧ Sat [] w w2 [] []))) (w1_ : Has w0 k1_) (r : Bool) (H : slices_ContainsFunc_int_int.f l0 q1 = some r) :
    Calls Try.prog 172 #[.slice A0_ l0.length p0_, .func (.func f1_) #[] c1_.toArray] w0 (Ret (fun v w => v = .bool r ∧ Sat [] w0 w [] [])) := by
  have hs : Sat [] w0 w0 [(1, k0_), (2, k1_)] [] := Sat.init w0 [(1, k0_), (2, k1_)] [] (by simp only [List.mem_cons, List.not_mem_nil, or_false]; rintro x (rfl | rfl) <;> assumption) (by simp) List.nodup_nil (by simp [blks])
  unfold slices_ContainsFunc_int_int.f at H
  refine enter Try.func172 rfl Try.ntmps172 rfl fun a hk => ?_
  apply wp_seq_k; intro K1 hK1
  apply wp_region_lit
  refine sa _ rfl hk rfl rfl rfl fun a hk => ?_
  show wpList _ _ _ [] _ _
  refine wpList_nil ?_
  refine hK1 _ _ ?_
  apply wp_seq_k; intro K2 hK2
  apply wp_region_lit
  refine sm _ rfl hk rfl rfl rfl fun a hk => ?_
  refine sm _ rfl hk rfl rfl rfl fun a hk => ?_
  obtain ⟨y3, h4, H⟩ := bind_some H
  refine sc rfl en185 hk rfl rfl rfl (slices_IndexFunc_int_int_t _ A0_ p0_ l0 _ v0_ (hs.hasD (k := 1) rfl) f1_ c1_ e1_ q1 k1_ t1_ (hs.hasD (k := 2) rfl) _ h4) ?_
  rintro _ w ⟨rfl, hG⟩ a hk
  have hs := hs.call0 hG
  refine sv (.bool (decide (y3 ≥ 0))) hk rfl rfl rfl fun a hk => ?_
  refine sa _ rfl hk rfl rfl rfl fun a hk => ?_
  show wpList _ _ _ [] _ _
  refine wpList_nil ?_
  refine hK2 _ _ ?_
  refine wp_ret ?_
  obtain rfl := Option.some.inj H
  exact fin hk _ [(.bool (decide (y3 ≥ 0)))] rfl ⟨rfl, trivial⟩ ⟨rfl, (hs.pick [] rfl).dnil⟩

noncomputable def impl_areAll_int__c1.f (x0 : Int) (q1 : Int → Option (Bool)) : Option (Bool) :=
  ((q1 x0).bind fun y3 => (some (!y3)))
set_option maxRecDepth 100000 in
set_option maxHeartbeats 0 in
theorem impl_areAll_int__c1_t (w0 : World) (x0 : Int) (b1_ : Nat) (f1_ : FuncId) (c1_ : List Value) (e1_ : Enters Try.prog f1_) (q1 : Int → Option (Bool)) (k1_ : Chunk) (t1_ : ∀ w, Has w k1_ → ∀ (z0 : Int) (r : Bool), q1 z0 = some r → Calls Try.prog f1_ (([.int .i64 z0] : List Value) ++ c1_).toArray w (Ret (fun v w2 => v = .bool r ∧ Sat [] w w2 [] []))) (w1_ : Has w0 k1_) (h1_ : Has w0 [(b1_, .cells #[.func (.func f1_) #[] c1_.toArray] 117 (0, 0))]) (r : Bool) (H : impl_areAll_int__c1.f x0 q1 = some r) :
    Calls Try.prog 173 #[.int .i64 x0, .pointer (some ⟨b1_, 0, none⟩)] w0 (Ret (fun v w => v = .bool r ∧ Sat [] w0 w [] [])) := by
  have hs : Sat [] w0 w0 [(2, k1_), (1, [(b1_, .cells #[.func (.func f1_) #[] c1_.toArray] 117 (0, 0))])] [] := Sat.init w0 [(2, k1_), (1, [(b1_, .cells #[.func (.func f1_) #[] c1_.toArray] 117 (0, 0))])] [] (by simp only [List.mem_cons, List.not_mem_nil, or_false]; rintro x (rfl | rfl) <;> assumption) (by simp) List.nodup_nil (by simp [blks])
  unfold impl_areAll_int__c1.f at H
  refine enter Try.func173 rfl Try.ntmps173 rfl fun a hk => ?_
  apply wp_seq_k; intro K1 hK1
  apply wp_region_lit
  refine sa _ rfl hk rfl rfl rfl fun a hk => ?_
  show wpList _ _ _ [] _ _
  refine wpList_nil ?_
  refine hK1 _ _ ?_
  apply wp_seq_k; intro K2 hK2
  apply wp_region_lit
  refine sl rfl hk rfl rfl rfl ag117 (box_cellD hs (k := 1) rfl rfl) fun a hk => ?_
  refine sm _ rfl hk rfl rfl rfl fun a hk => ?_
  obtain ⟨y3, h4, H⟩ := bind_some H
  refine scv (vs := ([(.int .i64 x0)] : List Value) ++ c1_) rfl rfl e1_ hk rfl rfl rfl (t1_ _ (hs.hasD (k := 2) rfl) x0 _ h4) ?_
  rintro _ w ⟨rfl, hG⟩ a hk
  have hs := hs.call0 hG
  refine sv (.bool (!y3)) hk rfl rfl rfl fun a hk => ?_
  refine sa _ rfl hk rfl rfl rfl fun a hk => ?_
  show wpList _ _ _ [] _ _
  refine wpList_nil ?_
  refine hK2 _ _ ?_
  refine wp_ret ?_
  obtain rfl := Option.some.inj H
  exact fin hk _ [(.bool (!y3))] rfl ⟨rfl, trivial⟩ ⟨rfl, (hs.pick [] rfl).dnil⟩

noncomputable def impl_areAll_int.f (l0 : List Int) (q1 : Int → Option (Bool)) : Option (Bool) :=
  ((slices_ContainsFunc_int_int.f l0 (fun z0 => impl_areAll_int__c1.f z0 q1)).bind fun y4 => (some (!y4)))
set_option maxRecDepth 100000 in
set_option maxHeartbeats 0 in
theorem impl_areAll_int_t (w0 : World) (A0_ : Option Addr) (p0_ : Nat) (l0 : List Int) (k0_ : Chunk) (v0_ : View (Lay.int .i64) A0_ p0_ l0 k0_) (w0_ : Has w0 k0_) (f1_ : FuncId) (c1_ : List Value) (e1_ : Enters Try.prog f1_) (q1 : Int → Option (Bool)) (k1_ : Chunk) (t1_ : ∀ w, Has w k1_ → ∀ (z0 : Int) (r : Bool), q1 z0 = some r → Calls Try.prog f1_ (([.int .i64 z0] : List Value) ++ c1_).toArray w (Ret (fun v w2 => v = .bool r ∧ Sat [] w w2 [] []))) (w1_ : Has w0 k1_) (r : Bool) (H : impl_areAll_int.f l0 q1 = some r) :
    Calls Try.prog 147 #[.slice A0_ l0.length p0_, .func (.func f1_) #[] c1_.toArray] w0 (Ret (fun v w => v = .bool r ∧ Sat [] w0 w [] [])) := by
  have hs : Sat [] w0 w0 [(1, k0_), (2, k1_)] [] := Sat.init w0 [(1, k0_), (2, k1_)] [] (by simp only [List.mem_cons, List.not_mem_nil, or_false]; rintro x (rfl | rfl) <;> assumption) (by simp) List.nodup_nil (by simp [blks])
  unfold impl_areAll_int.f at H
  refine enter Try.func147 rfl Try.ntmps147 rfl fun a hk => ?_
  apply wp_seq_k; intro K1 hK1
  apply wp_region_lit
  refine sbx 3 hs rfl hk rfl rfl rfl rfl fun b2 w a hk hs => ?_
  refine sa _ rfl hk rfl rfl rfl fun a hk => ?_
  show wpList _ _ _ [] _ _
  refine wpList_nil ?_
  refine hK1 _ _ ?_
  apply wp_seq_k; intro K3 hK3
  apply wp_region_lit
  refine sm _ rfl hk rfl rfl rfl fun a hk => ?_
  refine smf (cs := [.pointer (some ⟨b2, 0, none⟩)]) rfl hk rfl rfl rfl fun a hk => ?_
  obtain ⟨y4, h5, H⟩ := bind_some H
  refine sc rfl en172 hk rfl rfl rfl (slices_ContainsFunc_int_int_t _ A0_ p0_ l0 _ v0_ (hs.hasD (k := 1) rfl) 173 [.pointer (some ⟨b2, 0, none⟩)] en173 (fun z0 => impl_areAll_int__c1.f z0 q1) ([(b2, .cells #[.func (.func f1_) #[] c1_.toArray] 117 (0, 0))] ++ k1_) (fun w hz z0 r h => impl_areAll_int__c1_t w z0 _ f1_ c1_ e1_ q1 k1_ t1_ (Has.right hz) (Has.left hz) r h) (Has.app (hs.hasG (k := 3) rfl) (hs.hasD (k := 2) rfl)) _ h5) ?_
  rintro _ w ⟨rfl, hG⟩ a hk
  have hs := hs.call0 hG
  refine sv (.bool (!y4)) hk rfl rfl rfl fun a hk => ?_
  refine sa _ rfl hk rfl rfl rfl fun a hk => ?_
  show wpList _ _ _ [] _ _
  refine wpList_nil ?_
  refine hK3 _ _ ?_
  refine wp_ret ?_
  obtain rfl := Option.some.inj H
  exact fin hk _ [(.bool (!y4))] rfl ⟨rfl, trivial⟩ ⟨rfl, (hs.pick [] rfl).dnil⟩

noncomputable def impl_leavesOf.f (l0 : List Int) : Option (Int) :=
  (bif (decide ((l0.length : Int) > 4096)) then (some 2) else (bif ((l0.length : Int) != 12) then (some 8) else ((impl_areAll_int.f l0 impl_isLeaf.f).bind fun y10 => (bif (!y10) then (some 4) else (some 0)))))
set_option maxRecDepth 100000 in
set_option maxHeartbeats 0 in
theorem impl_leavesOf_t (w0 : World) (A0_ : Option Addr) (p0_ : Nat) (l0 : List Int) (k0_ : Chunk) (v0_ : View (Lay.int .i64) A0_ p0_ l0 k0_) (w0_ : Has w0 k0_) (r : Int) (H : impl_leavesOf.f l0 = some r) :
    Calls Try.prog 112 #[.slice A0_ l0.length p0_] w0 (Ret (fun v w => v = .int .i64 r ∧ Sat [] w0 w [] [])) := by
  have hs : Sat [] w0 w0 [(1, k0_)] [] := Sat.init w0 [(1, k0_)] [] (by simp only [List.mem_cons, List.not_mem_nil, or_false]; rintro x (rfl) <;> assumption) (by simp) List.nodup_nil (by simp [blks])
  unfold impl_leavesOf.f at H
  refine enter Try.func112 rfl Try.ntmps112 rfl fun a hk => ?_
  apply wp_seq_k; intro K1 hK1
  apply wp_region_lit
  refine sa _ rfl hk rfl rfl rfl fun a hk => ?_
  show wpList _ _ _ [] _ _
  refine wpList_nil ?_
  refine hK1 _ _ ?_
  apply wp_seq_k; intro K2 hK2
  refine wp_block ?_
  apply wp_seq_k; intro K3 hK3
  apply wp_region_lit
  refine sm _ rfl hk rfl rfl rfl fun a hk => ?_
  refine sle rfl hk rfl rfl rfl un27 fun a hk => ?_
  refine sv (.bool (decide ((l0.length : Int) > 4096))) hk rfl rfl rfl fun a hk => ?_
  refine sa _ rfl hk rfl rfl rfl fun a hk => ?_
  show wpList _ _ _ [] _ _
  refine wpList_nil ?_
  refine hK3 _ _ ?_
  rcases cond_some H with ⟨c4, H⟩ | ⟨c4, H⟩
  · have hk := hk.lit 3 c4 rfl
    refine cnd_true hk rfl rfl ?_
    apply wp_seq_k; intro K5 hK5
    apply wp_region_lit
    refine sa _ rfl hk rfl rfl rfl fun a hk => ?_
    show wpList _ _ _ [] _ _
    refine wpList_nil ?_
    refine hK5 _ _ ?_
    refine wp_ret ?_
    obtain rfl := Option.some.inj H
    exact fin hk _ [(.int .i64 2)] rfl ⟨rfl, trivial⟩ ⟨rfl, (hs.pick [] rfl).dnil⟩
  · have hk := hk.lit 3 c4 rfl
    refine cnd_false hk rfl rfl ?_
    apply wp_seq_k; intro K6 hK6
    apply wp_region_lit
    refine sm _ rfl hk rfl rfl rfl fun a hk => ?_
    refine sle rfl hk rfl rfl rfl un27 fun a hk => ?_
    refine sv (.bool ((l0.length : Int) != 12)) hk rfl rfl rfl fun a hk => ?_
    refine sa _ rfl hk rfl rfl rfl fun a hk => ?_
    show wpList _ _ _ [] _ _
    refine wpList_nil ?_
    refine hK6 _ _ ?_
    rcases cond_some H with ⟨c7, H⟩ | ⟨c7, H⟩
    · have hk := hk.lit 7 c7 rfl
      refine cnd_true hk rfl rfl ?_
      apply wp_seq_k; intro K8 hK8
      apply wp_region_lit
      refine sa _ rfl hk rfl rfl rfl fun a hk => ?_
      show wpList _ _ _ [] _ _
      refine wpList_nil ?_
      refine hK8 _ _ ?_
      refine wp_ret ?_
      obtain rfl := Option.some.inj H
      exact fin hk _ [(.int .i64 8)] rfl ⟨rfl, trivial⟩ ⟨rfl, (hs.pick [] rfl).dnil⟩
    · have hk := hk.lit 7 c7 rfl
      refine cnd_false hk rfl rfl ?_
      apply wp_seq_k; intro K9 hK9
      apply wp_region_lit
      refine sm _ rfl hk rfl rfl rfl fun a hk => ?_
      obtain ⟨y10, h11, H⟩ := bind_some H
      refine sc rfl en147 hk rfl rfl rfl (impl_areAll_int_t _ A0_ p0_ l0 _ v0_ (hs.hasD (k := 1) rfl) 109 [] en109 impl_isLeaf.f [] (fun w _ z0 r h => impl_isLeaf_t w z0 r h) (Has.nil _) _ h11) ?_
      rintro _ w ⟨rfl, hG⟩ a hk
      have hs := hs.call0 hG
      refine sv (.bool (!y10)) hk rfl rfl rfl fun a hk => ?_
      refine sa _ rfl hk rfl rfl rfl fun a hk => ?_
      show wpList _ _ _ [] _ _
      refine wpList_nil ?_
      refine hK9 _ _ ?_
      rcases cond_some H with ⟨c12, H⟩ | ⟨c12, H⟩
      · have hk := hk.lit 11 c12 rfl
        refine cnd_true hk rfl rfl ?_
        apply wp_seq_k; intro K13 hK13
        apply wp_region_lit
        refine sa _ rfl hk rfl rfl rfl fun a hk => ?_
        show wpList _ _ _ [] _ _
        refine wpList_nil ?_
        refine hK13 _ _ ?_
        refine wp_ret ?_
        obtain rfl := Option.some.inj H
        exact fin hk _ [(.int .i64 4)] rfl ⟨rfl, trivial⟩ ⟨rfl, (hs.pick [] rfl).dnil⟩
      · have hk := hk.lit 11 c12 rfl
        refine cnd_false hk rfl rfl ?_
        refine wp_skip ?_
        refine hK2 _ _ ?_
        apply wp_seq_k; intro K14 hK14
        apply wp_region_lit
        refine sa _ rfl hk rfl rfl rfl fun a hk => ?_
        show wpList _ _ _ [] _ _
        refine wpList_nil ?_
        refine hK14 _ _ ?_
        refine wp_ret ?_
        obtain rfl := Option.some.inj H
        exact fin hk _ [(.int .i64 0)] rfl ⟨rfl, trivial⟩ ⟨rfl, (hs.pick [] rfl).dnil⟩

noncomputable def slices_Clone_int_int.f (l0 : List Int) : Option (List Int) :=
  (if l0.length ≤ 1073741824 then (some l0) else none)
set_option maxRecDepth 100000 in
set_option maxHeartbeats 0 in
theorem slices_Clone_int_int_t (w0 : World) (A0_ : Option Addr) (p0_ : Nat) (l0 : List Int) (k0_ : Chunk) (v0_ : View (Lay.int .i64) A0_ p0_ l0 k0_) (w0_ : Has w0 k0_) (r : List Int) (H : slices_Clone_int_int.f l0 = some r) :
    Calls Try.prog 113 #[.slice A0_ l0.length p0_] w0 (Ret (fun v w => ∃ (A0 : Option Addr) (p0 : Nat) (k0 : Chunk), v = .slice A0 r.length p0 ∧ Own (Lay.int .i64) 3 A0 p0 r k0 ∧ Sat [] w0 w [] [(0, k0)])) := by
  have hs : Sat [] w0 w0 [(1, k0_)] [] := Sat.init w0 [(1, k0_)] [] (by simp only [List.mem_cons, List.not_mem_nil, or_false]; rintro x (rfl) <;> assumption) (by simp) List.nodup_nil (by simp [blks])
  unfold slices_Clone_int_int.f at H
  rcases ite_some H with ⟨c, H⟩ | ⟨_, H⟩
  rotate_left
  · cases H
  obtain rfl := Option.some.inj H
  refine enter Try.func113 rfl Try.ntmps113 rfl fun a hk => ?_
  apply wp_seq_k; intro K1 hK1
  apply wp_region_lit
  refine sa _ rfl hk rfl rfl rfl fun a hk => ?_
  refine wpList_nil ?_
  refine hK1 _ _ ?_
  apply wp_seq_k; intro K3 hK3
  apply wp_seq_k; intro K2 hK2
  apply wp_region_lit
  refine sm _ rfl hk rfl rfl rfl fun a hk => ?_
  refine snl rfl hk rfl rfl rfl un27 fun a hk => ?_
  refine wpList_nil ?_
  refine hK2 _ _ ?_
  cases A0_ with
  | none =>
    obtain rfl := v0_.none_nil
    refine cnd_true hk rfl rfl ?_
    apply wp_seq_k; intro K4 hK4
    apply wp_region_lit
    refine sa _ rfl hk rfl rfl rfl fun a hk => ?_
    refine wpList_nil ?_
    refine hK4 _ _ ?_
    refine wp_ret ?_
    have hs := hs.addNil 9
    exact fin hk _ [(.slice none 0 0)] rfl ⟨rfl, trivial⟩ ⟨none, 0, [], rfl, Own.nil _ _, (hs.pick [(0, 9)] rfl).dnil⟩
  | some A0_ =>
    refine cnd_false hk rfl rfl ?_
    refine wp_skip ?_
    refine hK3 _ _ ?_
    apply wp_seq_k; intro K5 hK5
    apply wp_region_lit
    refine sbs0 2 (Lay.int .i64) hs rfl hk rfl rfl un27 sz3 fun b k w a hk o hs => ?_
    refine sm _ rfl hk rfl rfl rfl fun a hk => ?_
    refine sap 2 (xs := ([] : List Int)) (ys := l0) (flat_flat : ((Lay.int .i64)).Flat) hs rfl o v0_ (hs.hasD (k := 1) rfl) rfl hk rfl rfl rfl rfl rfl rfl un27 mk3 rfl rfl rfl (by simpa using c) fun A p k w a hk o hs => ?_
    refine sa _ rfl hk rfl rfl rfl fun a hk => ?_
    refine wpList_nil ?_
    refine hK5 _ _ ?_
    refine wp_ret ?_
    exact fin hk _ [(.slice A ([] ++ l0).length p)] rfl ⟨rfl, trivial⟩ ⟨A, p, _, rfl, o, (hs.pick [(0, 2)] rfl).dnil⟩

noncomputable def impl_NewOram.f (l0 : List Int) : Option (S_Oram × Int) :=
  ((impl_leavesOf.f l0).bind fun y5 => (bif (y5 != 0) then (some ((⟨([] : List Int), ([] : List S_Block), ([] : List (List S_Block))⟩ : S_Oram), y5)) else ((slices_Clone_int_int.f l0).bind fun y_r11_1_1 => (if 0 ≤ (15 : Int) ∧ (15 : Int) ≤ 1073741824 then (some ((⟨y_r11_1_1, ([] : List S_Block), (List.replicate ((15 : Int)).toNat ([] : List S_Block))⟩ : S_Oram), 0)) else none))))
set_option maxRecDepth 100000 in
set_option maxHeartbeats 0 in
theorem impl_NewOram_t (w0 : World) (A0_ : Option Addr) (p0_ : Nat) (l0 : List Int) (k0_ : Chunk) (v0_ : View (Lay.int .i64) A0_ p0_ l0 k0_) (w0_ : Has w0 k0_) (r : S_Oram × Int) (H : impl_NewOram.f l0 = some r) :
    Calls Try.prog 53 #[.slice A0_ l0.length p0_] w0 (Ret (fun v w => ∃ (A0 : Option Addr) (p0 : Nat) (k0 : Chunk), ∃ (A1 : Option Addr) (p1 : Nat) (k1 : Chunk), ∃ (A2 : Option Addr) (p2 : Nat) (k2 : Chunk), v = .tuple #[.agg #[.slice A0 r.1.Pos.length p0, .slice A1 r.1.Stash.length p1, .slice A2 r.1.Buckets.length p2], .int .i64 r.2] ∧ Own (Lay.int .i64) 3 A0 p0 r.1.Pos k0 ∧ Own L_Block 146 A1 p1 r.1.Stash k1 ∧ Own (Lay.sl L_Block 146) 85 A2 p2 r.1.Buckets k2 ∧ Sat [] w0 w [] [(0, k0), (1, k1), (2, k2)])) := by
  have hs : Sat [] w0 w0 [(1, k0_)] [] := Sat.init w0 [(1, k0_)] [] (by simp only [List.mem_cons, List.not_mem_nil, or_false]; rintro x (rfl) <;> assumption) (by simp) List.nodup_nil (by simp [blks])
  unfold impl_NewOram.f at H
  refine enter Try.func53 rfl Try.ntmps53 rfl fun a hk => ?_
  apply wp_seq_k; intro K1 hK1
  apply wp_region_lit
  refine salx 2 hs rfl hk rfl rfl ze88 rfl fun b2 w a hk hs => ?_
  refine sa _ rfl hk rfl rfl rfl fun a hk => ?_
  show wpList _ _ _ [] _ _
  refine wpList_nil ?_
  refine hK1 _ _ ?_
  apply wp_seq_k; intro K3 hK3
  apply wp_seq_k; intro K4 hK4
  apply wp_region_lit
  refine sm _ rfl hk rfl rfl rfl fun a hk => ?_
  obtain ⟨y5, h6, H⟩ := bind_some H
  refine sc rfl en112 hk rfl rfl rfl (impl_leavesOf_t _ A0_ p0_ l0 _ v0_ (hs.hasD (k := 1) rfl) _ h6) ?_
  rintro _ w ⟨rfl, hG⟩ a hk
  have hs := hs.call0 hG
  refine sa _ rfl hk rfl rfl rfl fun a hk => ?_
  show wpList _ _ _ [] _ _
  refine wpList_nil ?_
  refine hK4 _ _ ?_
  apply wp_seq_k; intro K7 hK7
  apply wp_region_lit
  refine sm _ rfl hk rfl rfl rfl fun a hk => ?_
  refine sv (.bool (y5 != 0)) hk rfl rfl rfl fun a hk => ?_
  show wpList _ _ _ [] _ _
  refine wpList_nil ?_
  refine hK7 _ _ ?_
  rcases cond_some H with ⟨c8, H⟩ | ⟨c8, H⟩
  · have hk := hk.lit 8 c8 rfl
    refine cnd_true hk rfl rfl ?_
    apply wp_seq_k; intro K9 hK9
    apply wp_region_lit
    refine sbd (pv := []) rfl hk rfl rfl rfl bd88_1 fun a hk => ?_
    refine sm _ rfl hk rfl rfl rfl fun a hk => ?_
    refine ssw 2 hs rfl rfl hk rfl rfl rfl rfl sz88 (by simp [Value.oneCell']) rfl fun w a hk hs => ?_
    refine sa _ rfl hk rfl rfl rfl fun a hk => ?_
    show wpList _ _ _ [] _ _
    refine wpList_nil ?_
    refine hK9 _ _ ?_
    refine wp_ret ?_
    obtain rfl := Option.some.inj H
    have hs := hs.addNil 3
    have hs := hs.addNil 4
    have hs := hs.addNil 5
    exact fin hk _ [(.agg #[.slice none 0 0, .slice none 0 0, .slice none 0 0]), (.int .i64 y5)] rfl ⟨⟨_, rfl, run_loadN ag88 sz88 (box_cells hs (k := 2) rfl)⟩, ⟨rfl, trivial⟩⟩ ⟨none, 0, [], none, 0, [], none, 0, [], rfl, Own.nil _ _, Own.nil _ _, Own.nil _ _, (hs.pick [(0, 3), (1, 4), (2, 5)] rfl).dnil⟩
  · have hk := hk.lit 8 c8 rfl
    refine cnd_false hk rfl rfl ?_
    refine wp_skip ?_
    refine hK3 _ _ ?_
    apply wp_seq_k; intro K10 hK10
    obtain ⟨y_r11_1_1, h_r11_1_2, H⟩ := bind_some H
    rcases ite_some H with ⟨c_r11_2_1, H⟩ | ⟨_, H⟩
    rotate_left
    · cases H
    obtain ⟨R12, hR12⟩ : ∃ R : Act → World → Prop, R = fun a w => ∃ (A_r11_1_3 : Option Addr) (p_r11_1_4 : Nat) (b_r11_2_2 : Nat) (k_r11_1_5 : Chunk) (k_r11_2_3 : Chunk), Kn [(2, (.pointer (some ⟨b2, 0, none⟩))), (3, (.int .i64 0))] 15 a ∧ Sat [] w0 w [(1, k0_)] [(2, [(b2, .cells #[.slice A_r11_1_3 y_r11_1_1.length p_r11_1_4, .slice none 0 0, .slice (some ⟨b_r11_2_2, 0, none⟩) (((15 : Int)).toNat) (((15 : Int)).toNat)] 88 (0, 0))]), (106021, k_r11_1_5), (106041, k_r11_2_3)] ∧ Own (Lay.int .i64) 3 A_r11_1_3 p_r11_1_4 y_r11_1_1 k_r11_1_5 ∧ Own (Lay.sl L_Block 146) 85 (some ⟨b_r11_2_2, 0, none⟩) (((15 : Int)).toNat) (List.replicate ((15 : Int)).toNat ([] : List S_Block)) k_r11_2_3 ∧ (List.replicate ((15 : Int)).toNat ([] : List S_Block)).length = (((15 : Int)).toNat) := ⟨_, rfl⟩
    refine wp_cutq R12 ?_ ?_
    · skip
      refine wp_region_tree (.q 0 (.alt 1 (.alt 2 (.alt 3 (.alt 4 (.last 5) .stop) .stop) .stop) (.alt 2 (.alt 1 (.alt 3 (.alt 4 (.last 5) .stop) .stop) .stop) .stop))) mo (by kernel_rfl) (hs.pick [] rfl) fun _ => ?_
      have hs := hs.drew
      refine tqst (.slice A0_ l0.length p0_) hk rfl rfl rfl rfl (fun w hs => sm _ rfl hk rfl rfl rfl fun a hk => qe hk) fun a hk => ?_
      refine tsst hk rfl rfl (fun K_r11_1 hK_r11_1 w hF => ?_) ?_
      · skip
        have hs := hs.f hF
        refine sc rfl en113 hk rfl rfl rfl (slices_Clone_int_int_t _ A0_ p0_ l0 _ v0_ (hs.hasD (k := 1) rfl) _ h_r11_1_2) ?_
        rintro _ w ⟨A_r11_1_3, p_r11_1_4, k_r11_1_5, rfl, o_r11_1_6, hG⟩ a hk
        have hs := hs.call0k hG [106021] rfl
        refine se (hs.pick [] rfl) hk (hK_r11_1 _ _ ?_)
        refine tsst hk rfl rfl (fun K_r11_2 hK_r11_2 w hF => ?_) wt_stop
        have hs := hs.f hF
        refine smk 106041 (Lay.sl L_Block 146) hs rfl hk rfl rfl rfl rfl un86 mk85 lz85 rfl rfl c_r11_2_1.1 c_r11_2_1.2 fun b_r11_2_2 k_r11_2_3 w a hk o_r11_2_4 hs => ?_
        have lh_r11_2_5 : (List.replicate ((15 : Int)).toNat ([] : List S_Block)).length = ((15 : Int)).toNat := List.length_replicate
        refine se (hs.pick [] rfl) hk (hK_r11_2 _ _ ?_)
        refine tsst hk rfl rfl (fun K_r11_3 hK_r11_3 w hF => ?_) wt_stop
        have hs := hs.f hF
        refine sbd (pv := [(0, (.slice A_r11_1_3 y_r11_1_1.length p_r11_1_4)), (1, (.slice none 0 0)), (2, (.slice (some ⟨b_r11_2_2, 0, none⟩) (((15 : Int)).toNat) (((15 : Int)).toNat)))]) rfl hk rfl rfl rfl (bd88_0 A_r11_1_3 y_r11_1_1.length p_r11_1_4 none 0 0 (some ⟨b_r11_2_2, 0, none⟩) (((15 : Int)).toNat) (((15 : Int)).toNat)) fun a hk => ?_
        refine se (hs.pick [] rfl) hk (hK_r11_3 _ _ ?_)
        refine tsst hk rfl rfl (fun K_r11_4 hK_r11_4 w hF => ?_) wt_stop
        have hs := hs.f hF
        refine ssw 2 hs rfl rfl hk rfl rfl rfl rfl sz88 (by simp [Value.oneCell']) rfl fun w a hk hs => ?_
        refine se (hs.pick [] rfl) hk (hK_r11_4 _ _ ?_)
        refine tlst hk rfl rfl fun K_r11_5 hK_r11_5 w hF => ?_
        have hs := hs.f hF
        refine sa _ rfl hk rfl rfl rfl fun a hk => ?_
        refine se trivial hk (hK_r11_5 _ _ fun w hF => ?_)
        have hs := hs.f hF
        show R12 _ _
        rw [hR12]
        exact ⟨A_r11_1_3, p_r11_1_4, b_r11_2_2, k_r11_1_5, k_r11_2_3, (hk.c 2 rfl (hk.c 3 rfl hk.k)), (hs.pick [(2, 2), (106021, 106021), (106041, 106041)] rfl), o_r11_1_6, o_r11_2_4, lh_r11_2_5⟩
      refine tsst hk rfl rfl (fun K_r11_2 hK_r11_2 w hF => ?_) wt_stop
      have hs := hs.f hF
      refine smk 106041 (Lay.sl L_Block 146) hs rfl hk rfl rfl rfl rfl un86 mk85 lz85 rfl rfl c_r11_2_1.1 c_r11_2_1.2 fun b_r11_2_2 k_r11_2_3 w a hk o_r11_2_4 hs => ?_
      have lh_r11_2_5 : (List.replicate ((15 : Int)).toNat ([] : List S_Block)).length = ((15 : Int)).toNat := List.length_replicate
      refine se (hs.pick [] rfl) hk (hK_r11_2 _ _ ?_)
      refine tsst hk rfl rfl (fun K_r11_1 hK_r11_1 w hF => ?_) wt_stop
      have hs := hs.f hF
      refine sc rfl en113 hk rfl rfl rfl (slices_Clone_int_int_t _ A0_ p0_ l0 _ v0_ (hs.hasD (k := 1) rfl) _ h_r11_1_2) ?_
      rintro _ w ⟨A_r11_1_3, p_r11_1_4, k_r11_1_5, rfl, o_r11_1_6, hG⟩ a hk
      have hs := hs.call0k hG [106021] rfl
      refine se (hs.pick [] rfl) hk (hK_r11_1 _ _ ?_)
      refine tsst hk rfl rfl (fun K_r11_3 hK_r11_3 w hF => ?_) wt_stop
      have hs := hs.f hF
      refine sbd (pv := [(0, (.slice A_r11_1_3 y_r11_1_1.length p_r11_1_4)), (1, (.slice none 0 0)), (2, (.slice (some ⟨b_r11_2_2, 0, none⟩) (((15 : Int)).toNat) (((15 : Int)).toNat)))]) rfl hk rfl rfl rfl (bd88_0 A_r11_1_3 y_r11_1_1.length p_r11_1_4 none 0 0 (some ⟨b_r11_2_2, 0, none⟩) (((15 : Int)).toNat) (((15 : Int)).toNat)) fun a hk => ?_
      refine se (hs.pick [] rfl) hk (hK_r11_3 _ _ ?_)
      refine tsst hk rfl rfl (fun K_r11_4 hK_r11_4 w hF => ?_) wt_stop
      have hs := hs.f hF
      refine ssw 2 hs rfl rfl hk rfl rfl rfl rfl sz88 (by simp [Value.oneCell']) rfl fun w a hk hs => ?_
      refine se (hs.pick [] rfl) hk (hK_r11_4 _ _ ?_)
      refine tlst hk rfl rfl fun K_r11_5 hK_r11_5 w hF => ?_
      have hs := hs.f hF
      refine sa _ rfl hk rfl rfl rfl fun a hk => ?_
      refine se trivial hk (hK_r11_5 _ _ fun w hF => ?_)
      have hs := hs.f hF
      show R12 _ _
      rw [hR12]
      exact ⟨A_r11_1_3, p_r11_1_4, b_r11_2_2, k_r11_1_5, k_r11_2_3, (hk.c 2 rfl (hk.c 3 rfl hk.k)), (hs.pick [(2, 2), (106021, 106021), (106041, 106041)] rfl), o_r11_1_6, o_r11_2_4, lh_r11_2_5⟩
    · intro a w hR0
      rw [hR12] at hR0
      obtain ⟨A_r11_1_3, p_r11_1_4, b_r11_2_2, k_r11_1_5, k_r11_2_3, hk, hs, o_r11_1_6, o_r11_2_4, lh_r11_2_5⟩ := hR0
      refine hK10 _ _ ?_
      refine wp_ret ?_
      obtain rfl := Option.some.inj H
      have hs := hs.addNil 7
      exact fin hk _ [(.agg #[.slice A_r11_1_3 y_r11_1_1.length p_r11_1_4, .slice none 0 0, .slice (some ⟨b_r11_2_2, 0, none⟩) (((15 : Int)).toNat) (((15 : Int)).toNat)]), (.int .i64 0)] rfl ⟨⟨_, rfl, run_loadN ag88 sz88 (box_cells hs (k := 2) rfl)⟩, ⟨rfl, trivial⟩⟩ ⟨A_r11_1_3, p_r11_1_4, _, none, 0, [], (some ⟨b_r11_2_2, 0, none⟩), (((15 : Int)).toNat), _, (by first | (rw [lh_r11_2_5]; done) | (rw [lh_r11_2_5]; rfl)), o_r11_1_6, Own.nil _ _, o_r11_2_4, (hs.pick [(0, 106021), (1, 7), (2, 106041)] rfl).dnil⟩

noncomputable def impl_NewEnc.f (l0 : List Int) : Option (S_Enc × Int) :=
  ((impl_NewOram.f l0).bind fun y4 => (bif (y4.2 != 0) then (some ((⟨([] : List Int), (⟨([] : List Int), ([] : List S_Block), ([] : List (List S_Block))⟩ : S_Oram)⟩ : S_Enc), y4.2)) else (if 0 ≤ (11 : Int) ∧ (11 : Int) ≤ 1073741824 then (some ((⟨(List.replicate ((11 : Int)).toNat (0 : Int)), y4.1⟩ : S_Enc), 0)) else none)))
set_option maxRecDepth 100000 in
set_option maxHeartbeats 0 in
theorem impl_NewEnc_t (w0 : World) (A0_ : Option Addr) (p0_ : Nat) (l0 : List Int) (k0_ : Chunk) (v0_ : View (Lay.int .i64) A0_ p0_ l0 k0_) (w0_ : Has w0 k0_) (r : S_Enc × Int) (H : impl_NewEnc.f l0 = some r) :
    Calls Try.prog 59 #[.slice A0_ l0.length p0_] w0 (Ret (fun v w => ∃ (A0 : Option Addr) (p0 : Nat) (k0 : Chunk), ∃ (A1 : Option Addr) (p1 : Nat) (k1 : Chunk), ∃ (A2 : Option Addr) (p2 : Nat) (k2 : Chunk), ∃ (A3 : Option Addr) (p3 : Nat) (k3 : Chunk), v = .tuple #[.agg #[.slice A0 r.1.Keys.length p0, .slice A1 r.1.Oram.Pos.length p1, .slice A2 r.1.Oram.Stash.length p2, .slice A3 r.1.Oram.Buckets.length p3], .int .i64 r.2] ∧ Own (Lay.int .i64) 3 A0 p0 r.1.Keys k0 ∧ Own (Lay.int .i64) 3 A1 p1 r.1.Oram.Pos k1 ∧ Own L_Block 146 A2 p2 r.1.Oram.Stash k2 ∧ Own (Lay.sl L_Block 146) 85 A3 p3 r.1.Oram.Buckets k3 ∧ Sat [] w0 w [] [(0, k0), (1, k1), (2, k2), (3, k3)])) := by
  have hs : Sat [] w0 w0 [(1, k0_)] [] := Sat.init w0 [(1, k0_)] [] (by simp only [List.mem_cons, List.not_mem_nil, or_false]; rintro x (rfl) <;> assumption) (by simp) List.nodup_nil (by simp [blks])
  unfold impl_NewEnc.f at H
  refine enter Try.func59 rfl Try.ntmps59 rfl fun a hk => ?_
  apply wp_seq_k; intro K1 hK1
  apply wp_region_lit
  refine salx 2 hs rfl hk rfl rfl ze95 rfl fun b2 w a hk hs => ?_
  refine sa _ rfl hk rfl rfl rfl fun a hk => ?_
  show wpList _ _ _ [] _ _
  refine wpList_nil ?_
  refine hK1 _ _ ?_
  apply wp_seq_k; intro K3 hK3
  apply wp_region_lit
  refine sm _ rfl hk rfl rfl rfl fun a hk => ?_
  obtain ⟨y4, h5, H⟩ := bind_some H
  refine sc rfl en53 hk rfl rfl rfl (impl_NewOram_t _ A0_ p0_ l0 _ v0_ (hs.hasD (k := 1) rfl) _ h5) ?_
  rintro _ w ⟨A6, p7, k8, A10, p11, k12, A14, p15, k16, rfl, o9, o13, o17, hG⟩ a hk
  have hs := hs.call0k hG [3, 4, 5] rfl
  refine sm _ rfl hk rfl rfl rfl fun a hk => ?_
  refine sv (.agg #[.slice A6 y4.1.Pos.length p7, .slice A10 y4.1.Stash.length p11, .slice A14 y4.1.Buckets.length p15]) hk rfl rfl rfl fun a hk => ?_
  refine sv (.int .i64 y4.2) hk rfl rfl rfl fun a hk => ?_
  refine salx 6 hs rfl hk rfl rfl ze88 rfl fun b18 w a hk hs => ?_
  refine ssw 6 hs rfl rfl hk rfl rfl rfl rfl sz88 (by simp [Value.oneCell']) rfl fun w a hk hs => ?_
  refine sa _ rfl hk rfl rfl rfl fun a hk => ?_
  show wpList _ _ _ [] _ _
  refine wpList_nil ?_
  refine hK3 _ _ ?_
  apply wp_seq_k; intro K19 hK19
  apply wp_seq_k; intro K20 hK20
  apply wp_region_lit
  refine sm _ rfl hk rfl rfl rfl fun a hk => ?_
  refine sv (.bool (y4.2 != 0)) hk rfl rfl rfl fun a hk => ?_
  show wpList _ _ _ [] _ _
  refine wpList_nil ?_
  refine hK20 _ _ ?_
  rcases cond_some H with ⟨c21, H⟩ | ⟨c21, H⟩
  · have hk := hk.lit 12 c21 rfl
    refine cnd_true hk rfl rfl ?_
    apply wp_seq_k; intro K22 hK22
    apply wp_region_lit
    refine sbd (pv := []) rfl hk rfl rfl rfl bd95_2 fun a hk => ?_
    refine sm _ rfl hk rfl rfl rfl fun a hk => ?_
    refine ssw 2 hs rfl rfl hk rfl rfl rfl rfl sz95 (by simp [Value.oneCell']) rfl fun w a hk hs => ?_
    refine sa _ rfl hk rfl rfl rfl fun a hk => ?_
    show wpList _ _ _ [] _ _
    refine wpList_nil ?_
    refine hK22 _ _ ?_
    refine wp_ret ?_
    obtain rfl := Option.some.inj H
    have hs := hs.addNil 7
    have hs := hs.addNil 8
    have hs := hs.addNil 9
    have hs := hs.addNil 10
    exact fin hk _ [(.agg #[.slice none 0 0, .slice none 0 0, .slice none 0 0, .slice none 0 0]), (.int .i64 y4.2)] rfl ⟨⟨_, rfl, run_loadN ag95 sz95 (box_cells hs (k := 2) rfl)⟩, ⟨rfl, trivial⟩⟩ ⟨none, 0, [], none, 0, [], none, 0, [], none, 0, [], rfl, Own.nil _ _, Own.nil _ _, Own.nil _ _, Own.nil _ _, (hs.pick [(0, 7), (1, 8), (2, 9), (3, 10)] rfl).dnil⟩
  · have hk := hk.lit 12 c21 rfl
    refine cnd_false hk rfl rfl ?_
    refine wp_skip ?_
    refine hK19 _ _ ?_
    apply wp_seq_k; intro K23 hK23
    refine wp_region_tree (.q 1 (.alt 0 (.alt 2 (.alt 3 (.last 4) .stop) .stop) .stop)) mo (by kernel_rfl) (hs.pick [(6, 6), (5, 5), (4, 4), (3, 3)] rfl) fun _ => ?_
    have hs := hs.drew
    refine tqst (.agg #[.slice A6 y4.1.Pos.length p7, .slice A10 y4.1.Stash.length p11, .slice A14 y4.1.Buckets.length p15]) hk rfl rfl rfl rfl (fun w hs => sln [.slice A6 y4.1.Pos.length p7, .slice A10 y4.1.Stash.length p11, .slice A14 y4.1.Buckets.length p15] rfl hk rfl rfl rfl ag88 sz88 (box_cells hs (k := 6) rfl) fun a hk => qe hk) fun a hk => ?_
    refine tsst hk rfl rfl (fun K_r24_0 hK_r24_0 w hF => ?_) wt_stop
    have hs := hs.f hF
    rcases ite_some H with ⟨c25, H⟩ | ⟨_, H⟩
    rotate_left
    · cases H
    refine smk 12 (Lay.int .i64) hs rfl hk rfl rfl rfl rfl un27 mk3 lz3 rfl rfl c25.1 c25.2 fun b26 k27 w a hk o28 hs => ?_
    have lh29 : (List.replicate ((11 : Int)).toNat (0 : Int)).length = ((11 : Int)).toNat := List.length_replicate
    refine se (hs.pick [(6, 6), (5, 5), (4, 4), (3, 3)] rfl) hk (hK_r24_0 _ _ ?_)
    refine tsst hk rfl rfl (fun K_r24_2 hK_r24_2 w hF => ?_) wt_stop
    have hs := hs.f hF
    refine sbd (pv := [(0, (.slice (some ⟨b26, 0, none⟩) (((11 : Int)).toNat) (((11 : Int)).toNat))), (1, (.agg #[.slice A6 y4.1.Pos.length p7, .slice A10 y4.1.Stash.length p11, .slice A14 y4.1.Buckets.length p15]))]) rfl hk rfl rfl rfl (bd95_3 (some ⟨b26, 0, none⟩) (((11 : Int)).toNat) (((11 : Int)).toNat) A6 y4.1.Pos.length p7 A10 y4.1.Stash.length p11 A14 y4.1.Buckets.length p15) fun a hk => ?_
    refine se (hs.pick [(6, 6), (5, 5), (4, 4), (3, 3)] rfl) hk (hK_r24_2 _ _ ?_)
    refine tsst hk rfl rfl (fun K_r24_3 hK_r24_3 w hF => ?_) wt_stop
    have hs := hs.f hF
    refine ssw 2 hs rfl rfl hk rfl rfl rfl rfl sz95 (by simp [Value.oneCell']) rfl fun w a hk hs => ?_
    refine se (hs.pick [(6, 6), (5, 5), (4, 4), (3, 3)] rfl) hk (hK_r24_3 _ _ ?_)
    refine tlst hk rfl rfl fun K_r24_4 hK_r24_4 w hF => ?_
    have hs := hs.f hF
    refine sa _ rfl hk rfl rfl rfl fun a hk => ?_
    refine se trivial hk (hK_r24_4 _ _ fun w hF => ?_)
    have hs := hs.f hF
    refine hK23 _ _ ?_
    refine wp_ret ?_
    obtain rfl := Option.some.inj H
    exact fin hk _ [(.agg #[.slice (some ⟨b26, 0, none⟩) (((11 : Int)).toNat) (((11 : Int)).toNat), .slice A6 y4.1.Pos.length p7, .slice A10 y4.1.Stash.length p11, .slice A14 y4.1.Buckets.length p15]), (.int .i64 0)] rfl ⟨⟨_, rfl, run_loadN ag95 sz95 (box_cells hs (k := 2) rfl)⟩, ⟨rfl, trivial⟩⟩ ⟨(some ⟨b26, 0, none⟩), (((11 : Int)).toNat), _, A6, p7, _, A10, p11, _, A14, p15, _, (by first | (rw [lh29]; done) | (rw [lh29]; rfl)), o28, o9, o13, o17, (hs.pick [(0, 12), (1, 3), (2, 4), (3, 5)] rfl).dnil⟩

noncomputable def laws_eqBlock.f (x0 : S_Block) (x1 : S_Block) : Option (Bool) :=
  (bif (x0.Id != x1.Id) then (some false) else (bif (x0.Leaf != x1.Leaf) then (some false) else (bif (x0.Value != x1.Value) then (some false) else (some true))))
set_option maxRecDepth 100000 in
set_option maxHeartbeats 0 in
theorem laws_eqBlock_t (w0 : World) (x0 : S_Block) (x1 : S_Block) (r : Bool) (H : laws_eqBlock.f x0 x1 = some r) :
    Calls Try.prog 182 #[.agg #[.int .i64 x0.Id, .int .i64 x0.Leaf, .int .i64 x0.Value], .agg #[.int .i64 x1.Id, .int .i64 x1.Leaf, .int .i64 x1.Value]] w0 (Ret (fun v w => v = .bool r ∧ Sat [] w0 w [] [])) := by
  have hs : Sat [] w0 w0 [] [] := Sat.init w0 [] [] (by simp) (by simp) List.nodup_nil (by simp [blks])
  unfold laws_eqBlock.f at H
  refine enter Try.func182 rfl Try.ntmps182 rfl fun a hk => ?_
  apply wp_seq_k; intro K1 hK1
  apply wp_region_lit
  refine sbx 1 hs rfl hk rfl rfl rfl rfl fun b2 w a hk hs => ?_
  refine sbx 2 hs rfl hk rfl rfl rfl rfl fun b3 w a hk hs => ?_
  refine sa _ rfl hk rfl rfl rfl fun a hk => ?_
  show wpList _ _ _ [] _ _
  refine wpList_nil ?_
  refine hK1 _ _ ?_
  apply wp_seq_k; intro K4 hK4
  apply wp_seq_k; intro K5 hK5
  apply wp_region_lit
  refine sf ⟨b2, 0, none⟩ rfl hk rfl rfl rfl fd146_0 rfl fun a hk => ?_
  refine sl rfl hk rfl rfl rfl ag3 (box_cell hs (k := 1) rfl rfl) fun a hk => ?_
  refine sf ⟨b3, 0, none⟩ rfl hk rfl rfl rfl fd146_0 rfl fun a hk => ?_
  refine sl rfl hk rfl rfl rfl ag3 (box_cell hs (k := 2) rfl rfl) fun a hk => ?_
  refine sv (.bool (x0.Id != x1.Id)) hk rfl rfl rfl fun a hk => ?_
  show wpList _ _ _ [] _ _
  refine wpList_nil ?_
  refine hK5 _ _ ?_
  rcases cond_some H with ⟨c6, H⟩ | ⟨c6, H⟩
  · have hk := hk.lit 9 c6 rfl
    refine cnd_true hk rfl rfl ?_
    apply wp_seq_k; intro K7 hK7
    apply wp_region_lit
    refine sa _ rfl hk rfl rfl rfl fun a hk => ?_
    show wpList _ _ _ [] _ _
    refine wpList_nil ?_
    refine hK7 _ _ ?_
    refine wp_ret ?_
    obtain rfl := Option.some.inj H
    exact fin hk _ [(.bool false)] rfl ⟨rfl, trivial⟩ ⟨rfl, (hs.pick [] rfl).dnil⟩
  · have hk := hk.lit 9 c6 rfl
    refine cnd_false hk rfl rfl ?_
    refine wp_skip ?_
    refine hK4 _ _ ?_
    apply wp_seq_k; intro K8 hK8
    apply wp_seq_k; intro K9 hK9
    apply wp_region_lit
    refine sf ⟨b2, 1, none⟩ rfl hk rfl rfl rfl fd146_1 rfl fun a hk => ?_
    refine sl rfl hk rfl rfl rfl ag3 (box_cell hs (k := 1) rfl rfl) fun a hk => ?_
    refine sf ⟨b3, 1, none⟩ rfl hk rfl rfl rfl fd146_1 rfl fun a hk => ?_
    refine sl rfl hk rfl rfl rfl ag3 (box_cell hs (k := 2) rfl rfl) fun a hk => ?_
    refine sv (.bool (x0.Leaf != x1.Leaf)) hk rfl rfl rfl fun a hk => ?_
    show wpList _ _ _ [] _ _
    refine wpList_nil ?_
    refine hK9 _ _ ?_
    rcases cond_some H with ⟨c10, H⟩ | ⟨c10, H⟩
    · have hk := hk.lit 14 c10 rfl
      refine cnd_true hk rfl rfl ?_
      apply wp_seq_k; intro K11 hK11
      apply wp_region_lit
      refine sa _ rfl hk rfl rfl rfl fun a hk => ?_
      show wpList _ _ _ [] _ _
      refine wpList_nil ?_
      refine hK11 _ _ ?_
      refine wp_ret ?_
      obtain rfl := Option.some.inj H
      exact fin hk _ [(.bool false)] rfl ⟨rfl, trivial⟩ ⟨rfl, (hs.pick [] rfl).dnil⟩
    · have hk := hk.lit 14 c10 rfl
      refine cnd_false hk rfl rfl ?_
      refine wp_skip ?_
      refine hK8 _ _ ?_
      apply wp_seq_k; intro K12 hK12
      apply wp_seq_k; intro K13 hK13
      apply wp_region_lit
      refine sf ⟨b2, 2, none⟩ rfl hk rfl rfl rfl fd146_2 rfl fun a hk => ?_
      refine sl rfl hk rfl rfl rfl ag3 (box_cell hs (k := 1) rfl rfl) fun a hk => ?_
      refine sf ⟨b3, 2, none⟩ rfl hk rfl rfl rfl fd146_2 rfl fun a hk => ?_
      refine sl rfl hk rfl rfl rfl ag3 (box_cell hs (k := 2) rfl rfl) fun a hk => ?_
      refine sv (.bool (x0.Value != x1.Value)) hk rfl rfl rfl fun a hk => ?_
      show wpList _ _ _ [] _ _
      refine wpList_nil ?_
      refine hK13 _ _ ?_
      rcases cond_some H with ⟨c14, H⟩ | ⟨c14, H⟩
      · have hk := hk.lit 19 c14 rfl
        refine cnd_true hk rfl rfl ?_
        apply wp_seq_k; intro K15 hK15
        apply wp_region_lit
        refine sa _ rfl hk rfl rfl rfl fun a hk => ?_
        show wpList _ _ _ [] _ _
        refine wpList_nil ?_
        refine hK15 _ _ ?_
        refine wp_ret ?_
        obtain rfl := Option.some.inj H
        exact fin hk _ [(.bool false)] rfl ⟨rfl, trivial⟩ ⟨rfl, (hs.pick [] rfl).dnil⟩
      · have hk := hk.lit 19 c14 rfl
        refine cnd_false hk rfl rfl ?_
        refine wp_skip ?_
        refine hK12 _ _ ?_
        apply wp_seq_k; intro K16 hK16
        apply wp_region_lit
        refine sa _ rfl hk rfl rfl rfl fun a hk => ?_
        show wpList _ _ _ [] _ _
        refine wpList_nil ?_
        refine hK16 _ _ ?_
        refine wp_ret ?_
        obtain rfl := Option.some.inj H
        exact fin hk _ [(.bool true)] rfl ⟨rfl, trivial⟩ ⟨rfl, (hs.pick [] rfl).dnil⟩

noncomputable def laws_eqBlockS.s0 (l0 : List S_Block) (l1 : List S_Block) (u10 : Int) : Option ((Int) ⊕ Ex (Unit) (Bool)) :=
  (bif (decide (u10 < (l0.length : Int))) then (if 0 ≤ u10 ∧ u10 < (l0.length : Int) then (if 0 ≤ u10 ∧ u10 < (l1.length : Int) then ((laws_eqBlock.f (l0.getD u10.toNat z_Block) (l1.getD u10.toNat z_Block)).bind fun y33 => (bif (!y33) then (some (.inr (.ret false))) else (some (.inl (w64 (u10 + 1)))))) else none) else none) else (some (.inr (.out ()))))
noncomputable def laws_eqBlockS.f (l0 : List S_Block) (l1 : List S_Block) : Option (Bool) :=
  (bif ((l0.length : Int) != (l1.length : Int)) then (some false) else ((loopO (fun s => laws_eqBlockS.s0 l0 l1 s) 0).bind fun o => match o with | .out _ => (some true) | .ret r => (some r)))
set_option maxRecDepth 100000 in
set_option maxHeartbeats 0 in
theorem laws_eqBlockS_t (w0 : World) (A0_ : Option Addr) (p0_ : Nat) (l0 : List S_Block) (k0_ : Chunk) (v0_ : View L_Block A0_ p0_ l0 k0_) (w0_ : Has w0 k0_) (A1_ : Option Addr) (p1_ : Nat) (l1 : List S_Block) (k1_ : Chunk) (v1_ : View L_Block A1_ p1_ l1 k1_) (w1_ : Has w0 k1_) (r : Bool) (H : laws_eqBlockS.f l0 l1 = some r) :
    Calls Try.prog 161 #[.slice A0_ l0.length p0_, .slice A1_ l1.length p1_] w0 (Ret (fun v w => v = .bool r ∧ Sat [] w0 w [] [])) := by
  have hs : Sat [] w0 w0 [(1, k0_), (2, k1_)] [] := Sat.init w0 [(1, k0_), (2, k1_)] [] (by simp only [List.mem_cons, List.not_mem_nil, or_false]; rintro x (rfl | rfl) <;> assumption) (by simp) List.nodup_nil (by simp [blks])
  unfold laws_eqBlockS.f at H
  refine enter Try.func161 rfl Try.ntmps161 rfl fun a hk => ?_
  apply wp_seq_k; intro K1 hK1
  apply wp_region_lit
  refine sa _ rfl hk rfl rfl rfl fun a hk => ?_
  show wpList _ _ _ [] _ _
  refine wpList_nil ?_
  refine hK1 _ _ ?_
  apply wp_seq_k; intro K2 hK2
  apply wp_seq_k; intro K3 hK3
  apply wp_region_lit
  refine sm _ rfl hk rfl rfl rfl fun a hk => ?_
  refine sle rfl hk rfl rfl rfl un85 fun a hk => ?_
  refine sm _ rfl hk rfl rfl rfl fun a hk => ?_
  refine sle rfl hk rfl rfl rfl un85 fun a hk => ?_
  refine sv (.bool ((l0.length : Int) != (l1.length : Int))) hk rfl rfl rfl fun a hk => ?_
  show wpList _ _ _ [] _ _
  refine wpList_nil ?_
  refine hK3 _ _ ?_
  rcases cond_some H with ⟨c4, H⟩ | ⟨c4, H⟩
  · have hk := hk.lit 10 c4 rfl
    refine cnd_true hk rfl rfl ?_
    apply wp_seq_k; intro K5 hK5
    apply wp_region_lit
    refine sa _ rfl hk rfl rfl rfl fun a hk => ?_
    show wpList _ _ _ [] _ _
    refine wpList_nil ?_
    refine hK5 _ _ ?_
    refine wp_ret ?_
    obtain rfl := Option.some.inj H
    exact fin hk _ [(.bool false)] rfl ⟨rfl, trivial⟩ ⟨rfl, (hs.pick [] rfl).dnil⟩
  · have hk := hk.lit 10 c4 rfl
    refine cnd_false hk rfl rfl ?_
    refine wp_skip ?_
    refine hK2 _ _ ?_
    apply wp_seq_k; intro K6 hK6
    apply wp_seq_k; intro K7 hK7
    apply wp_region_lit
    refine sa _ rfl hk rfl rfl rfl fun a hk => ?_
    show wpList _ _ _ [] _ _
    refine wpList_nil ?_
    refine hK7 _ _ ?_
    obtain ⟨o11, h12, HL13⟩ := bind_some H
    clear H
    obtain ⟨R14, hR14⟩ : ∃ R : Act → World → Prop, R = fun a w => o11 = .out () ∧ Kn [] 27 a ∧ Sat [] w0 w [(1, k0_), (2, k1_)] [] := ⟨_, rfl⟩
    refine wp_cutq R14 ?_ ?_
    · refine wp_block ?_
      obtain ⟨fu16, h12⟩ := loopO_some h12
      obtain ⟨I15, hI15⟩ : ∃ I : Nat → Act → World → Prop, I = fun fu a w => ∃ (u10 : Int), loopN (fun s => laws_eqBlockS.s0 l0 l1 s) fu u10 = some o11 ∧ Kn [(0, (.slice A0_ l0.length p0_)), (1, (.slice A1_ l1.length p1_)), (5, (.int .i64 u10))] 27 a ∧ Sat [] w0 w [(1, k0_), (2, k1_)] [] := ⟨_, rfl⟩
      refine wp_loop_ghost I15 fu16 ?_ ?_
      · rw [hI15]
        exact ⟨0, h12, (hk.c 0 rfl (hk.c 1 rfl (hk.c 5 rfl hk.k))), (hs.pick [] rfl)⟩
      · clear h12 hk hs
        intro fu16 a w hI0
        rw [hI15] at hI0
        obtain ⟨u10, hi, hk, hs⟩ := hI0
        obtain ⟨x17, H, h18⟩ := loop_round hi
        try dsimp only at H
        unfold laws_eqBlockS.s0 at H
        apply wp_seq_k; intro K19 hK19
        apply wp_seq_k; intro K20 hK20
        apply wp_region_lit
        refine sm _ rfl hk rfl rfl rfl fun a hk => ?_
        refine sm _ rfl hk rfl rfl rfl fun a hk => ?_
        refine sle rfl hk rfl rfl rfl un85 fun a hk => ?_
        refine sv (.bool (decide (u10 < (l0.length : Int)))) hk rfl rfl rfl fun a hk => ?_
        show wpList _ _ _ [] _ _
        refine wpList_nil ?_
        refine hK20 _ _ ?_
        rcases cond_some H with ⟨c21, H⟩ | ⟨c21, H⟩
        · have hk := hk.lit 14 c21 rfl
          refine cnd_true hk rfl rfl ?_
          refine wp_skip ?_
          refine hK19 _ _ ?_
          apply wp_seq_k; intro K22 hK22
          refine wp_block ?_
          apply wp_seq_k; intro K23 hK23
          refine wp_region_tree (.q 0 (.q 1 (.q 2 (.q 3 (.q 4 (.alt 5 (.alt 6 (.alt 7 (.alt 8 (.alt 9 .done .stop) .stop) .stop) .stop) .stop)))))) mo (by kernel_rfl) (hs.pick [] rfl) fun _ => ?_
          have hs := hs.drew
          refine tqst (.slice A0_ l0.length p0_) hk rfl rfl rfl rfl (fun w hs => sm _ rfl hk rfl rfl rfl fun a hk => qe hk) fun a hk => ?_
          refine tqst (.int .i64 u10) hk rfl rfl rfl rfl (fun w hs => sm _ rfl hk rfl rfl rfl fun a hk => qe hk) fun a hk => ?_
          rcases ite_some H with ⟨c25, H⟩ | ⟨_, H⟩
          rotate_left
          · cases H
          obtain ⟨b26, q27, hAc25⟩ := (v0_).some_ u10 c25.1 c25.2
          refine tqst (.pointer (some (padd A0_ (u10.toNat * 3)))) hk rfl rfl rfl rfl (fun w hs => si rfl hk rfl rfl rfl rfl un85 sz146 c25.1 c25.2 hAc25 fun a hk => qe hk) fun a hk => ?_
          obtain ⟨_, rfl, e28⟩ := (v0_).at_ z_Block u10 c25.1 c25.2
          refine tqst (.agg #[.int .i64 ((l0.getD u10.toNat z_Block).Id), .int .i64 ((l0.getD u10.toNat z_Block).Leaf), .int .i64 ((l0.getD u10.toNat z_Block).Value)]) hk rfl rfl rfl rfl (fun w hs => sln [.int .i64 ((l0.getD u10.toNat z_Block).Id), .int .i64 ((l0.getD u10.toNat z_Block).Leaf), .int .i64 ((l0.getD u10.toNat z_Block).Value)] rfl hk rfl rfl rfl ag146 sz146 (cells_at e28 (hs.hasD (k := 1) rfl)) fun a hk => qe hk) fun a hk => ?_
          refine tqst (.slice A1_ l1.length p1_) hk rfl rfl rfl rfl (fun w hs => sm _ rfl hk rfl rfl rfl fun a hk => qe hk) fun a hk => ?_
          refine tsst hk rfl rfl (fun K_r24_5 hK_r24_5 w hF => ?_) wt_stop
          have hs := hs.f hF
          refine sm _ rfl hk rfl rfl rfl fun a hk => ?_
          refine se (hs.pick [] rfl) hk (hK_r24_5 _ _ ?_)
          refine tsst hk rfl rfl (fun K_r24_6 hK_r24_6 w hF => ?_) wt_stop
          have hs := hs.f hF
          rcases ite_some H with ⟨c29, H⟩ | ⟨_, H⟩
          rotate_left
          · cases H
          obtain ⟨b30, q31, hAc29⟩ := (v1_).some_ u10 c29.1 c29.2
          refine si rfl hk rfl rfl rfl rfl un85 sz146 c29.1 c29.2 hAc29 fun a hk => ?_
          refine se (hs.pick [] rfl) hk (hK_r24_6 _ _ ?_)
          refine tsst hk rfl rfl (fun K_r24_7 hK_r24_7 w hF => ?_) wt_stop
          have hs := hs.f hF
          obtain ⟨_, rfl, e32⟩ := (v1_).at_ z_Block u10 c29.1 c29.2
          refine sln [.int .i64 ((l1.getD u10.toNat z_Block).Id), .int .i64 ((l1.getD u10.toNat z_Block).Leaf), .int .i64 ((l1.getD u10.toNat z_Block).Value)] rfl hk rfl rfl rfl ag146 sz146 (cells_at e32 (hs.hasD (k := 2) rfl)) fun a hk => ?_
          refine se (hs.pick [] rfl) hk (hK_r24_7 _ _ ?_)
          refine tsst hk rfl rfl (fun K_r24_8 hK_r24_8 w hF => ?_) wt_stop
          have hs := hs.f hF
          obtain ⟨y33, h34, H⟩ := bind_some H
          refine sc rfl en182 hk rfl rfl rfl (laws_eqBlock_t _ (l0.getD u10.toNat z_Block) (l1.getD u10.toNat z_Block) _ h34) ?_
          rintro _ w ⟨rfl, hG⟩ a hk
          have hs := hs.call0 hG
          refine se (hs.pick [] rfl) hk (hK_r24_8 _ _ ?_)
          refine tsst hk rfl rfl (fun K_r24_9 hK_r24_9 w hF => ?_) wt_stop
          have hs := hs.f hF
          refine sv (.bool (!y33)) hk rfl rfl rfl fun a hk => ?_
          refine se (hs.pick [] rfl) hk (hK_r24_9 _ _ ?_)
          refine wtl_nil fun w hF _ => ?_
          have hs := hs.f hF
          refine hK23 _ _ ?_
          rcases cond_some H with ⟨c35, H⟩ | ⟨c35, H⟩
          · have hk := hk.lit 26 c35 rfl
            refine cnd_true hk rfl rfl ?_
            apply wp_seq_k; intro K36 hK36
            apply wp_region_lit
            refine sa _ rfl hk rfl rfl rfl fun a hk => ?_
            show wpList _ _ _ [] _ _
            refine wpList_nil ?_
            refine hK36 _ _ ?_
            refine wp_ret ?_
            obtain rfl := Option.some.inj H
            have ho11 := h18
            try dsimp only at ho11
            subst ho11
            have H := HL13
            try dsimp only at H
            obtain rfl := Option.some.inj H
            exact fin hk _ [(.bool false)] rfl ⟨rfl, trivial⟩ ⟨rfl, (hs.pick [] rfl).dnil⟩
          · have hk := hk.lit 26 c35 rfl
            refine cnd_false hk rfl rfl ?_
            refine wp_skip ?_
            refine hK22 _ _ ?_
            apply wp_region_lit
            refine sm _ rfl hk rfl rfl rfl fun a hk => ?_
            refine sv (.int .i64 (w64 (u10 + 1))) hk rfl rfl rfl fun a hk => ?_
            refine sa _ rfl hk rfl rfl rfl fun a hk => ?_
            show wpList _ _ _ [] _ _
            refine wpList_nil ?_
            obtain rfl := Option.some.inj H
            obtain ⟨m37, hmm37, h18⟩ := h18
            show ∃ n', n' < _ ∧ I15 n' _ _
            refine ⟨m37, hmm37, ?_⟩
            rw [hI15]
            exact ⟨(w64 (u10 + 1)), h18, (hk.c 0 rfl (hk.c 1 rfl (hk.c 5 rfl hk.k))), (hs.pick [] rfl)⟩
        · have hk := hk.lit 14 c21 rfl
          refine cnd_false hk rfl rfl ?_
          refine wp_exit ?_
          obtain rfl := Option.some.inj H
          show R14 _ _
          rw [hR14]
          exact ⟨h18.symm, hk.k, (hs.pick [] rfl)⟩
    · intro a w hR0
      rw [hR14] at hR0
      obtain ⟨rfl, hk, hs⟩ := hR0
      have H := HL13
      try dsimp only at H
      refine hK6 _ _ ?_
      apply wp_seq_k; intro K38 hK38
      apply wp_region_lit
      refine sa _ rfl hk rfl rfl rfl fun a hk => ?_
      show wpList _ _ _ [] _ _
      refine wpList_nil ?_
      refine hK38 _ _ ?_
      refine wp_ret ?_
      obtain rfl := Option.some.inj H
      exact fin hk _ [(.bool true)] rfl ⟨rfl, trivial⟩ ⟨rfl, (hs.pick [] rfl).dnil⟩

noncomputable def laws_eqBlockSS.s0 (l0 : List (List S_Block)) (l1 : List (List S_Block)) (u10 : Int) : Option ((Int) ⊕ Ex (Unit) (Bool)) :=
  (bif (decide (u10 < (l0.length : Int))) then (if 0 ≤ u10 ∧ u10 < (l0.length : Int) then (if 0 ≤ u10 ∧ u10 < (l1.length : Int) then ((laws_eqBlockS.f (l0.getD u10.toNat []) (l1.getD u10.toNat [])).bind fun y39 => (bif (!y39) then (some (.inr (.ret false))) else (some (.inl (w64 (u10 + 1)))))) else none) else none) else (some (.inr (.out ()))))
noncomputable def laws_eqBlockSS.f (l0 : List (List S_Block)) (l1 : List (List S_Block)) : Option (Bool) :=
  (bif ((l0.length : Int) != (l1.length : Int)) then (some false) else ((loopO (fun s => laws_eqBlockSS.s0 l0 l1 s) 0).bind fun o => match o with | .out _ => (some true) | .ret r => (some r)))
set_option maxRecDepth 100000 in
set_option maxHeartbeats 0 in
theorem laws_eqBlockSS_t (w0 : World) (A0_ : Option Addr) (p0_ : Nat) (l0 : List (List S_Block)) (k0_ : Chunk) (v0_ : View (Lay.sl L_Block 146) A0_ p0_ l0 k0_) (w0_ : Has w0 k0_) (A1_ : Option Addr) (p1_ : Nat) (l1 : List (List S_Block)) (k1_ : Chunk) (v1_ : View (Lay.sl L_Block 146) A1_ p1_ l1 k1_) (w1_ : Has w0 k1_) (r : Bool) (H : laws_eqBlockSS.f l0 l1 = some r) :
    Calls Try.prog 162 #[.slice A0_ l0.length p0_, .slice A1_ l1.length p1_] w0 (Ret (fun v w => v = .bool r ∧ Sat [] w0 w [] [])) := by
  have hs : Sat [] w0 w0 [(1, k0_), (2, k1_)] [] := Sat.init w0 [(1, k0_), (2, k1_)] [] (by simp only [List.mem_cons, List.not_mem_nil, or_false]; rintro x (rfl | rfl) <;> assumption) (by simp) List.nodup_nil (by simp [blks])
  unfold laws_eqBlockSS.f at H
  refine enter Try.func162 rfl Try.ntmps162 rfl fun a hk => ?_
  apply wp_seq_k; intro K1 hK1
  apply wp_region_lit
  refine sa _ rfl hk rfl rfl rfl fun a hk => ?_
  show wpList _ _ _ [] _ _
  refine wpList_nil ?_
  refine hK1 _ _ ?_
  apply wp_seq_k; intro K2 hK2
  apply wp_seq_k; intro K3 hK3
  apply wp_region_lit
  refine sm _ rfl hk rfl rfl rfl fun a hk => ?_
  refine sle rfl hk rfl rfl rfl un86 fun a hk => ?_
  refine sm _ rfl hk rfl rfl rfl fun a hk => ?_
  refine sle rfl hk rfl rfl rfl un86 fun a hk => ?_
  refine sv (.bool ((l0.length : Int) != (l1.length : Int))) hk rfl rfl rfl fun a hk => ?_
  show wpList _ _ _ [] _ _
  refine wpList_nil ?_
  refine hK3 _ _ ?_
  rcases cond_some H with ⟨c4, H⟩ | ⟨c4, H⟩
  · have hk := hk.lit 10 c4 rfl
    refine cnd_true hk rfl rfl ?_
    apply wp_seq_k; intro K5 hK5
    apply wp_region_lit
    refine sa _ rfl hk rfl rfl rfl fun a hk => ?_
    show wpList _ _ _ [] _ _
    refine wpList_nil ?_
    refine hK5 _ _ ?_
    refine wp_ret ?_
    obtain rfl := Option.some.inj H
    exact fin hk _ [(.bool false)] rfl ⟨rfl, trivial⟩ ⟨rfl, (hs.pick [] rfl).dnil⟩
  · have hk := hk.lit 10 c4 rfl
    refine cnd_false hk rfl rfl ?_
    refine wp_skip ?_
    refine hK2 _ _ ?_
    apply wp_seq_k; intro K6 hK6
    apply wp_seq_k; intro K7 hK7
    apply wp_region_lit
    refine sa _ rfl hk rfl rfl rfl fun a hk => ?_
    show wpList _ _ _ [] _ _
    refine wpList_nil ?_
    refine hK7 _ _ ?_
    obtain ⟨o11, h12, HL13⟩ := bind_some H
    clear H
    obtain ⟨R14, hR14⟩ : ∃ R : Act → World → Prop, R = fun a w => o11 = .out () ∧ Kn [] 27 a ∧ Sat [] w0 w [(1, k0_), (2, k1_)] [] := ⟨_, rfl⟩
    refine wp_cutq R14 ?_ ?_
    · refine wp_block ?_
      obtain ⟨fu16, h12⟩ := loopO_some h12
      obtain ⟨I15, hI15⟩ : ∃ I : Nat → Act → World → Prop, I = fun fu a w => ∃ (u10 : Int), loopN (fun s => laws_eqBlockSS.s0 l0 l1 s) fu u10 = some o11 ∧ Kn [(0, (.slice A0_ l0.length p0_)), (1, (.slice A1_ l1.length p1_)), (5, (.int .i64 u10))] 27 a ∧ Sat [] w0 w [(1, k0_), (2, k1_)] [] := ⟨_, rfl⟩
      refine wp_loop_ghost I15 fu16 ?_ ?_
      · rw [hI15]
        exact ⟨0, h12, (hk.c 0 rfl (hk.c 1 rfl (hk.c 5 rfl hk.k))), (hs.pick [] rfl)⟩
      · clear h12 hk hs
        intro fu16 a w hI0
        rw [hI15] at hI0
        obtain ⟨u10, hi, hk, hs⟩ := hI0
        obtain ⟨x17, H, h18⟩ := loop_round hi
        try dsimp only at H
        unfold laws_eqBlockSS.s0 at H
        apply wp_seq_k; intro K19 hK19
        apply wp_seq_k; intro K20 hK20
        apply wp_region_lit
        refine sm _ rfl hk rfl rfl rfl fun a hk => ?_
        refine sm _ rfl hk rfl rfl rfl fun a hk => ?_
        refine sle rfl hk rfl rfl rfl un86 fun a hk => ?_
        refine sv (.bool (decide (u10 < (l0.length : Int)))) hk rfl rfl rfl fun a hk => ?_
        show wpList _ _ _ [] _ _
        refine wpList_nil ?_
        refine hK20 _ _ ?_
        rcases cond_some H with ⟨c21, H⟩ | ⟨c21, H⟩
        · have hk := hk.lit 14 c21 rfl
          refine cnd_true hk rfl rfl ?_
          refine wp_skip ?_
          refine hK19 _ _ ?_
          apply wp_seq_k; intro K22 hK22
          refine wp_block ?_
          apply wp_seq_k; intro K23 hK23
          refine wp_region_tree (.q 0 (.q 1 (.q 2 (.q 3 (.q 4 (.alt 5 (.alt 6 (.alt 7 (.alt 8 (.alt 9 .done .stop) .stop) .stop) .stop) .stop)))))) mo (by kernel_rfl) (hs.pick [] rfl) fun _ => ?_
          have hs := hs.drew
          refine tqst (.slice A0_ l0.length p0_) hk rfl rfl rfl rfl (fun w hs => sm _ rfl hk rfl rfl rfl fun a hk => qe hk) fun a hk => ?_
          refine tqst (.int .i64 u10) hk rfl rfl rfl rfl (fun w hs => sm _ rfl hk rfl rfl rfl fun a hk => qe hk) fun a hk => ?_
          rcases ite_some H with ⟨c25, H⟩ | ⟨_, H⟩
          rotate_left
          · cases H
          obtain ⟨b26, q27, hAc25⟩ := (v0_).some_ u10 c25.1 c25.2
          refine tqst (.pointer (some (padd A0_ (u10.toNat * 1)))) hk rfl rfl rfl rfl (fun w hs => si rfl hk rfl rfl rfl rfl un86 sz85 c25.1 c25.2 hAc25 fun a hk => qe hk) fun a hk => ?_
          obtain ⟨_, ⟨_, rfl, A29, p30, rfl, v31⟩, e28⟩ := (v0_).at_ [] u10 c25.1 c25.2
          refine tqst (.slice A29 (l0.getD u10.toNat []).length p30) hk rfl rfl rfl rfl (fun w hs => sl (v := (.slice A29 (l0.getD u10.toNat []).length p30)) rfl hk rfl rfl rfl ag85 ((e28 0 _ rfl).cell (hs.hasD (k := 1) rfl)) fun a hk => qe hk) fun a hk => ?_
          refine tqst (.slice A1_ l1.length p1_) hk rfl rfl rfl rfl (fun w hs => sm _ rfl hk rfl rfl rfl fun a hk => qe hk) fun a hk => ?_
          refine tsst hk rfl rfl (fun K_r24_5 hK_r24_5 w hF => ?_) wt_stop
          have hs := hs.f hF
          refine sm _ rfl hk rfl rfl rfl fun a hk => ?_
          refine se (hs.pick [] rfl) hk (hK_r24_5 _ _ ?_)
          refine tsst hk rfl rfl (fun K_r24_6 hK_r24_6 w hF => ?_) wt_stop
          have hs := hs.f hF
          rcases ite_some H with ⟨c32, H⟩ | ⟨_, H⟩
          rotate_left
          · cases H
          obtain ⟨b33, q34, hAc32⟩ := (v1_).some_ u10 c32.1 c32.2
          refine si rfl hk rfl rfl rfl rfl un86 sz85 c32.1 c32.2 hAc32 fun a hk => ?_
          refine se (hs.pick [] rfl) hk (hK_r24_6 _ _ ?_)
          refine tsst hk rfl rfl (fun K_r24_7 hK_r24_7 w hF => ?_) wt_stop
          have hs := hs.f hF
          obtain ⟨_, ⟨_, rfl, A36, p37, rfl, v38⟩, e35⟩ := (v1_).at_ [] u10 c32.1 c32.2
          refine sl (v := (.slice A36 (l1.getD u10.toNat []).length p37)) rfl hk rfl rfl rfl ag85 ((e35 0 _ rfl).cell (hs.hasD (k := 2) rfl)) fun a hk => ?_
          refine se (hs.pick [] rfl) hk (hK_r24_7 _ _ ?_)
          refine tsst hk rfl rfl (fun K_r24_8 hK_r24_8 w hF => ?_) wt_stop
          have hs := hs.f hF
          obtain ⟨y39, h40, H⟩ := bind_some H
          refine sc rfl en161 hk rfl rfl rfl (laws_eqBlockS_t _ A29 p30 (l0.getD u10.toNat []) _ v31 (hs.hasD (k := 1) rfl) A36 p37 (l1.getD u10.toNat []) _ v38 (hs.hasD (k := 2) rfl) _ h40) ?_
          rintro _ w ⟨rfl, hG⟩ a hk
          have hs := hs.call0 hG
          refine se (hs.pick [] rfl) hk (hK_r24_8 _ _ ?_)
          refine tsst hk rfl rfl (fun K_r24_9 hK_r24_9 w hF => ?_) wt_stop
          have hs := hs.f hF
          refine sv (.bool (!y39)) hk rfl rfl rfl fun a hk => ?_
          refine se (hs.pick [] rfl) hk (hK_r24_9 _ _ ?_)
          refine wtl_nil fun w hF _ => ?_
          have hs := hs.f hF
          refine hK23 _ _ ?_
          rcases cond_some H with ⟨c41, H⟩ | ⟨c41, H⟩
          · have hk := hk.lit 26 c41 rfl
            refine cnd_true hk rfl rfl ?_
            apply wp_seq_k; intro K42 hK42
            apply wp_region_lit
            refine sa _ rfl hk rfl rfl rfl fun a hk => ?_
            show wpList _ _ _ [] _ _
            refine wpList_nil ?_
            refine hK42 _ _ ?_
            refine wp_ret ?_
            obtain rfl := Option.some.inj H
            have ho11 := h18
            try dsimp only at ho11
            subst ho11
            have H := HL13
            try dsimp only at H
            obtain rfl := Option.some.inj H
            exact fin hk _ [(.bool false)] rfl ⟨rfl, trivial⟩ ⟨rfl, (hs.pick [] rfl).dnil⟩
          · have hk := hk.lit 26 c41 rfl
            refine cnd_false hk rfl rfl ?_
            refine wp_skip ?_
            refine hK22 _ _ ?_
            apply wp_region_lit
            refine sm _ rfl hk rfl rfl rfl fun a hk => ?_
            refine sv (.int .i64 (w64 (u10 + 1))) hk rfl rfl rfl fun a hk => ?_
            refine sa _ rfl hk rfl rfl rfl fun a hk => ?_
            show wpList _ _ _ [] _ _
            refine wpList_nil ?_
            obtain rfl := Option.some.inj H
            obtain ⟨m43, hmm43, h18⟩ := h18
            show ∃ n', n' < _ ∧ I15 n' _ _
            refine ⟨m43, hmm43, ?_⟩
            rw [hI15]
            exact ⟨(w64 (u10 + 1)), h18, (hk.c 0 rfl (hk.c 1 rfl (hk.c 5 rfl hk.k))), (hs.pick [] rfl)⟩
        · have hk := hk.lit 14 c21 rfl
          refine cnd_false hk rfl rfl ?_
          refine wp_exit ?_
          obtain rfl := Option.some.inj H
          show R14 _ _
          rw [hR14]
          exact ⟨h18.symm, hk.k, (hs.pick [] rfl)⟩
    · intro a w hR0
      rw [hR14] at hR0
      obtain ⟨rfl, hk, hs⟩ := hR0
      have H := HL13
      try dsimp only at H
      refine hK6 _ _ ?_
      apply wp_seq_k; intro K44 hK44
      apply wp_region_lit
      refine sa _ rfl hk rfl rfl rfl fun a hk => ?_
      show wpList _ _ _ [] _ _
      refine wpList_nil ?_
      refine hK44 _ _ ?_
      refine wp_ret ?_
      obtain rfl := Option.some.inj H
      exact fin hk _ [(.bool true)] rfl ⟨rfl, trivial⟩ ⟨rfl, (hs.pick [] rfl).dnil⟩

noncomputable def laws_eqOram.f (x0 : S_Oram) (x1 : S_Oram) : Option (Bool) :=
  ((laws_eqIntS.f x0.Pos x1.Pos).bind fun y6 => (bif (!y6) then (some false) else ((laws_eqBlockS.f x0.Stash x1.Stash).bind fun y12 => (bif (!y12) then (some false) else ((laws_eqBlockSS.f x0.Buckets x1.Buckets).bind fun y18 => (bif (!y18) then (some false) else (some true)))))))
set_option maxRecDepth 100000 in
set_option maxHeartbeats 0 in
theorem laws_eqOram_t (w0 : World) (x0 : S_Oram) (A0_0 : Option Addr) (p0_0 : Nat) (k0_0 : Chunk) (v0_0 : View (Lay.int .i64) A0_0 p0_0 x0.Pos k0_0) (w0_0 : Has w0 k0_0) (A0_1 : Option Addr) (p0_1 : Nat) (k0_1 : Chunk) (v0_1 : View L_Block A0_1 p0_1 x0.Stash k0_1) (w0_1 : Has w0 k0_1) (A0_2 : Option Addr) (p0_2 : Nat) (k0_2 : Chunk) (v0_2 : View (Lay.sl L_Block 146) A0_2 p0_2 x0.Buckets k0_2) (w0_2 : Has w0 k0_2) (x1 : S_Oram) (A1_0 : Option Addr) (p1_0 : Nat) (k1_0 : Chunk) (v1_0 : View (Lay.int .i64) A1_0 p1_0 x1.Pos k1_0) (w1_0 : Has w0 k1_0) (A1_1 : Option Addr) (p1_1 : Nat) (k1_1 : Chunk) (v1_1 : View L_Block A1_1 p1_1 x1.Stash k1_1) (w1_1 : Has w0 k1_1) (A1_2 : Option Addr) (p1_2 : Nat) (k1_2 : Chunk) (v1_2 : View (Lay.sl L_Block 146) A1_2 p1_2 x1.Buckets k1_2) (w1_2 : Has w0 k1_2) (r : Bool) (H : laws_eqOram.f x0 x1 = some r) :
    Calls Try.prog 122 #[.agg #[.slice A0_0 x0.Pos.length p0_0, .slice A0_1 x0.Stash.length p0_1, .slice A0_2 x0.Buckets.length p0_2], .agg #[.slice A1_0 x1.Pos.length p1_0, .slice A1_1 x1.Stash.length p1_1, .slice A1_2 x1.Buckets.length p1_2]] w0 (Ret (fun v w => v = .bool r ∧ Sat [] w0 w [] [])) := by
  have hs : Sat [] w0 w0 [(1, k0_0), (2, k0_1), (3, k0_2), (4, k1_0), (5, k1_1), (6, k1_2)] [] := Sat.init w0 [(1, k0_0), (2, k0_1), (3, k0_2), (4, k1_0), (5, k1_1), (6, k1_2)] [] (by simp only [List.mem_cons, List.not_mem_nil, or_false]; rintro x (rfl | rfl | rfl | rfl | rfl | rfl) <;> assumption) (by simp) List.nodup_nil (by simp [blks])
  unfold laws_eqOram.f at H
  refine enter Try.func122 rfl Try.ntmps122 rfl fun a hk => ?_
  apply wp_seq_k; intro K1 hK1
  apply wp_region_lit
  refine sbx 7 hs rfl hk rfl rfl rfl rfl fun b2 w a hk hs => ?_
  refine sbx 8 hs rfl hk rfl rfl rfl rfl fun b3 w a hk hs => ?_
  refine sa _ rfl hk rfl rfl rfl fun a hk => ?_
  show wpList _ _ _ [] _ _
  refine wpList_nil ?_
  refine hK1 _ _ ?_
  apply wp_seq_k; intro K4 hK4
  apply wp_seq_k; intro K5 hK5
  apply wp_region_lit
  refine sf ⟨b2, 0, none⟩ rfl hk rfl rfl rfl fd88_0 rfl fun a hk => ?_
  refine sl rfl hk rfl rfl rfl ag27 (box_cell hs (k := 7) rfl rfl) fun a hk => ?_
  refine sf ⟨b3, 0, none⟩ rfl hk rfl rfl rfl fd88_0 rfl fun a hk => ?_
  refine sl rfl hk rfl rfl rfl ag27 (box_cell hs (k := 8) rfl rfl) fun a hk => ?_
  obtain ⟨y6, h7, H⟩ := bind_some H
  refine sc rfl en17 hk rfl rfl rfl (laws_eqIntS_t _ A0_0 p0_0 x0.Pos _ v0_0 (hs.hasD (k := 1) rfl) A1_0 p1_0 x1.Pos _ v1_0 (hs.hasD (k := 4) rfl) _ h7) ?_
  rintro _ w ⟨rfl, hG⟩ a hk
  have hs := hs.call0 hG
  refine sv (.bool (!y6)) hk rfl rfl rfl fun a hk => ?_
  show wpList _ _ _ [] _ _
  refine wpList_nil ?_
  refine hK5 _ _ ?_
  rcases cond_some H with ⟨c8, H⟩ | ⟨c8, H⟩
  · have hk := hk.lit 10 c8 rfl
    refine cnd_true hk rfl rfl ?_
    apply wp_seq_k; intro K9 hK9
    apply wp_region_lit
    refine sa _ rfl hk rfl rfl rfl fun a hk => ?_
    show wpList _ _ _ [] _ _
    refine wpList_nil ?_
    refine hK9 _ _ ?_
    refine wp_ret ?_
    obtain rfl := Option.some.inj H
    exact fin hk _ [(.bool false)] rfl ⟨rfl, trivial⟩ ⟨rfl, (hs.pick [] rfl).dnil⟩
  · have hk := hk.lit 10 c8 rfl
    refine cnd_false hk rfl rfl ?_
    refine wp_skip ?_
    refine hK4 _ _ ?_
    apply wp_seq_k; intro K10 hK10
    apply wp_seq_k; intro K11 hK11
    apply wp_region_lit
    refine sf ⟨b2, 1, none⟩ rfl hk rfl rfl rfl fd88_1 rfl fun a hk => ?_
    refine sl rfl hk rfl rfl rfl ag85 (box_cell hs (k := 7) rfl rfl) fun a hk => ?_
    refine sf ⟨b3, 1, none⟩ rfl hk rfl rfl rfl fd88_1 rfl fun a hk => ?_
    refine sl rfl hk rfl rfl rfl ag85 (box_cell hs (k := 8) rfl rfl) fun a hk => ?_
    obtain ⟨y12, h13, H⟩ := bind_some H
    refine sc rfl en161 hk rfl rfl rfl (laws_eqBlockS_t _ A0_1 p0_1 x0.Stash _ v0_1 (hs.hasD (k := 2) rfl) A1_1 p1_1 x1.Stash _ v1_1 (hs.hasD (k := 5) rfl) _ h13) ?_
    rintro _ w ⟨rfl, hG⟩ a hk
    have hs := hs.call0 hG
    refine sv (.bool (!y12)) hk rfl rfl rfl fun a hk => ?_
    show wpList _ _ _ [] _ _
    refine wpList_nil ?_
    refine hK11 _ _ ?_
    rcases cond_some H with ⟨c14, H⟩ | ⟨c14, H⟩
    · have hk := hk.lit 16 c14 rfl
      refine cnd_true hk rfl rfl ?_
      apply wp_seq_k; intro K15 hK15
      apply wp_region_lit
      refine sa _ rfl hk rfl rfl rfl fun a hk => ?_
      show wpList _ _ _ [] _ _
      refine wpList_nil ?_
      refine hK15 _ _ ?_
      refine wp_ret ?_
      obtain rfl := Option.some.inj H
      exact fin hk _ [(.bool false)] rfl ⟨rfl, trivial⟩ ⟨rfl, (hs.pick [] rfl).dnil⟩
    · have hk := hk.lit 16 c14 rfl
      refine cnd_false hk rfl rfl ?_
      refine wp_skip ?_
      refine hK10 _ _ ?_
      apply wp_seq_k; intro K16 hK16
      apply wp_seq_k; intro K17 hK17
      apply wp_region_lit
      refine sf ⟨b2, 2, none⟩ rfl hk rfl rfl rfl fd88_2 rfl fun a hk => ?_
      refine sl rfl hk rfl rfl rfl ag86 (box_cell hs (k := 7) rfl rfl) fun a hk => ?_
      refine sf ⟨b3, 2, none⟩ rfl hk rfl rfl rfl fd88_2 rfl fun a hk => ?_
      refine sl rfl hk rfl rfl rfl ag86 (box_cell hs (k := 8) rfl rfl) fun a hk => ?_
      obtain ⟨y18, h19, H⟩ := bind_some H
      refine sc rfl en162 hk rfl rfl rfl (laws_eqBlockSS_t _ A0_2 p0_2 x0.Buckets _ v0_2 (hs.hasD (k := 3) rfl) A1_2 p1_2 x1.Buckets _ v1_2 (hs.hasD (k := 6) rfl) _ h19) ?_
      rintro _ w ⟨rfl, hG⟩ a hk
      have hs := hs.call0 hG
      refine sv (.bool (!y18)) hk rfl rfl rfl fun a hk => ?_
      show wpList _ _ _ [] _ _
      refine wpList_nil ?_
      refine hK17 _ _ ?_
      rcases cond_some H with ⟨c20, H⟩ | ⟨c20, H⟩
      · have hk := hk.lit 22 c20 rfl
        refine cnd_true hk rfl rfl ?_
        apply wp_seq_k; intro K21 hK21
        apply wp_region_lit
        refine sa _ rfl hk rfl rfl rfl fun a hk => ?_
        show wpList _ _ _ [] _ _
        refine wpList_nil ?_
        refine hK21 _ _ ?_
        refine wp_ret ?_
        obtain rfl := Option.some.inj H
        exact fin hk _ [(.bool false)] rfl ⟨rfl, trivial⟩ ⟨rfl, (hs.pick [] rfl).dnil⟩
      · have hk := hk.lit 22 c20 rfl
        refine cnd_false hk rfl rfl ?_
        refine wp_skip ?_
        refine hK16 _ _ ?_
        apply wp_seq_k; intro K22 hK22
        apply wp_region_lit
        refine sa _ rfl hk rfl rfl rfl fun a hk => ?_
        show wpList _ _ _ [] _ _
        refine wpList_nil ?_
        refine hK22 _ _ ?_
        refine wp_ret ?_
        obtain rfl := Option.some.inj H
        exact fin hk _ [(.bool true)] rfl ⟨rfl, trivial⟩ ⟨rfl, (hs.pick [] rfl).dnil⟩

noncomputable def laws_eqEnc.f (x0 : S_Enc) (x1 : S_Enc) : Option (Bool) :=
  ((laws_eqIntS.f x0.Keys x1.Keys).bind fun y6 => (bif (!y6) then (some false) else ((laws_eqOram.f x0.Oram x1.Oram).bind fun y12 => (bif (!y12) then (some false) else (some true)))))
set_option maxRecDepth 100000 in
set_option maxHeartbeats 0 in
theorem laws_eqEnc_t (w0 : World) (x0 : S_Enc) (A0_0 : Option Addr) (p0_0 : Nat) (k0_0 : Chunk) (v0_0 : View (Lay.int .i64) A0_0 p0_0 x0.Keys k0_0) (w0_0 : Has w0 k0_0) (A0_1 : Option Addr) (p0_1 : Nat) (k0_1 : Chunk) (v0_1 : View (Lay.int .i64) A0_1 p0_1 x0.Oram.Pos k0_1) (w0_1 : Has w0 k0_1) (A0_2 : Option Addr) (p0_2 : Nat) (k0_2 : Chunk) (v0_2 : View L_Block A0_2 p0_2 x0.Oram.Stash k0_2) (w0_2 : Has w0 k0_2) (A0_3 : Option Addr) (p0_3 : Nat) (k0_3 : Chunk) (v0_3 : View (Lay.sl L_Block 146) A0_3 p0_3 x0.Oram.Buckets k0_3) (w0_3 : Has w0 k0_3) (x1 : S_Enc) (A1_0 : Option Addr) (p1_0 : Nat) (k1_0 : Chunk) (v1_0 : View (Lay.int .i64) A1_0 p1_0 x1.Keys k1_0) (w1_0 : Has w0 k1_0) (A1_1 : Option Addr) (p1_1 : Nat) (k1_1 : Chunk) (v1_1 : View (Lay.int .i64) A1_1 p1_1 x1.Oram.Pos k1_1) (w1_1 : Has w0 k1_1) (A1_2 : Option Addr) (p1_2 : Nat) (k1_2 : Chunk) (v1_2 : View L_Block A1_2 p1_2 x1.Oram.Stash k1_2) (w1_2 : Has w0 k1_2) (A1_3 : Option Addr) (p1_3 : Nat) (k1_3 : Chunk) (v1_3 : View (Lay.sl L_Block 146) A1_3 p1_3 x1.Oram.Buckets k1_3) (w1_3 : Has w0 k1_3) (r : Bool) (H : laws_eqEnc.f x0 x1 = some r) :
    Calls Try.prog 60 #[.agg #[.slice A0_0 x0.Keys.length p0_0, .slice A0_1 x0.Oram.Pos.length p0_1, .slice A0_2 x0.Oram.Stash.length p0_2, .slice A0_3 x0.Oram.Buckets.length p0_3], .agg #[.slice A1_0 x1.Keys.length p1_0, .slice A1_1 x1.Oram.Pos.length p1_1, .slice A1_2 x1.Oram.Stash.length p1_2, .slice A1_3 x1.Oram.Buckets.length p1_3]] w0 (Ret (fun v w => v = .bool r ∧ Sat [] w0 w [] [])) := by
  have hs : Sat [] w0 w0 [(1, k0_0), (2, k0_1), (3, k0_2), (4, k0_3), (5, k1_0), (6, k1_1), (7, k1_2), (8, k1_3)] [] := Sat.init w0 [(1, k0_0), (2, k0_1), (3, k0_2), (4, k0_3), (5, k1_0), (6, k1_1), (7, k1_2), (8, k1_3)] [] (by simp only [List.mem_cons, List.not_mem_nil, or_false]; rintro x (rfl | rfl | rfl | rfl | rfl | rfl | rfl | rfl) <;> assumption) (by simp) List.nodup_nil (by simp [blks])
  unfold laws_eqEnc.f at H
  refine enter Try.func60 rfl Try.ntmps60 rfl fun a hk => ?_
  apply wp_seq_k; intro K1 hK1
  apply wp_region_lit
  refine sbx 9 hs rfl hk rfl rfl rfl rfl fun b2 w a hk hs => ?_
  refine sbx 10 hs rfl hk rfl rfl rfl rfl fun b3 w a hk hs => ?_
  refine sa _ rfl hk rfl rfl rfl fun a hk => ?_
  show wpList _ _ _ [] _ _
  refine wpList_nil ?_
  refine hK1 _ _ ?_
  apply wp_seq_k; intro K4 hK4
  apply wp_seq_k; intro K5 hK5
  apply wp_region_lit
  refine sf ⟨b2, 0, none⟩ rfl hk rfl rfl rfl fd95_0 rfl fun a hk => ?_
  refine sl rfl hk rfl rfl rfl ag27 (box_cell hs (k := 9) rfl rfl) fun a hk => ?_
  refine sf ⟨b3, 0, none⟩ rfl hk rfl rfl rfl fd95_0 rfl fun a hk => ?_
  refine sl rfl hk rfl rfl rfl ag27 (box_cell hs (k := 10) rfl rfl) fun a hk => ?_
  obtain ⟨y6, h7, H⟩ := bind_some H
  refine sc rfl en17 hk rfl rfl rfl (laws_eqIntS_t _ A0_0 p0_0 x0.Keys _ v0_0 (hs.hasD (k := 1) rfl) A1_0 p1_0 x1.Keys _ v1_0 (hs.hasD (k := 5) rfl) _ h7) ?_
  rintro _ w ⟨rfl, hG⟩ a hk
  have hs := hs.call0 hG
  refine sv (.bool (!y6)) hk rfl rfl rfl fun a hk => ?_
  show wpList _ _ _ [] _ _
  refine wpList_nil ?_
  refine hK5 _ _ ?_
  rcases cond_some H with ⟨c8, H⟩ | ⟨c8, H⟩
  · have hk := hk.lit 10 c8 rfl
    refine cnd_true hk rfl rfl ?_
    apply wp_seq_k; intro K9 hK9
    apply wp_region_lit
    refine sa _ rfl hk rfl rfl rfl fun a hk => ?_
    show wpList _ _ _ [] _ _
    refine wpList_nil ?_
    refine hK9 _ _ ?_
    refine wp_ret ?_
    obtain rfl := Option.some.inj H
    exact fin hk _ [(.bool false)] rfl ⟨rfl, trivial⟩ ⟨rfl, (hs.pick [] rfl).dnil⟩
  · have hk := hk.lit 10 c8 rfl
    refine cnd_false hk rfl rfl ?_
    refine wp_skip ?_
    refine hK4 _ _ ?_
    apply wp_seq_k; intro K10 hK10
    apply wp_seq_k; intro K11 hK11
    apply wp_region_lit
    refine sf ⟨b2, 1, none⟩ rfl hk rfl rfl rfl fd95_1 rfl fun a hk => ?_
    refine sln [.slice A0_1 x0.Oram.Pos.length p0_1, .slice A0_2 x0.Oram.Stash.length p0_2, .slice A0_3 x0.Oram.Buckets.length p0_3] rfl hk rfl rfl rfl ag88 sz88 (box_part hs (k := 9) rfl rfl) fun a hk => ?_
    refine sf ⟨b3, 1, none⟩ rfl hk rfl rfl rfl fd95_1 rfl fun a hk => ?_
    refine sln [.slice A1_1 x1.Oram.Pos.length p1_1, .slice A1_2 x1.Oram.Stash.length p1_2, .slice A1_3 x1.Oram.Buckets.length p1_3] rfl hk rfl rfl rfl ag88 sz88 (box_part hs (k := 10) rfl rfl) fun a hk => ?_
    obtain ⟨y12, h13, H⟩ := bind_some H
    refine sc rfl en122 hk rfl rfl rfl (laws_eqOram_t _ x0.Oram A0_1 p0_1 _ v0_1 (hs.hasD (k := 2) rfl) A0_2 p0_2 _ v0_2 (hs.hasD (k := 3) rfl) A0_3 p0_3 _ v0_3 (hs.hasD (k := 4) rfl) x1.Oram A1_1 p1_1 _ v1_1 (hs.hasD (k := 6) rfl) A1_2 p1_2 _ v1_2 (hs.hasD (k := 7) rfl) A1_3 p1_3 _ v1_3 (hs.hasD (k := 8) rfl) _ h13) ?_
    rintro _ w ⟨rfl, hG⟩ a hk
    have hs := hs.call0 hG
    refine sv (.bool (!y12)) hk rfl rfl rfl fun a hk => ?_
    show wpList _ _ _ [] _ _
    refine wpList_nil ?_
    refine hK11 _ _ ?_
    rcases cond_some H with ⟨c14, H⟩ | ⟨c14, H⟩
    · have hk := hk.lit 16 c14 rfl
      refine cnd_true hk rfl rfl ?_
      apply wp_seq_k; intro K15 hK15
      apply wp_region_lit
      refine sa _ rfl hk rfl rfl rfl fun a hk => ?_
      show wpList _ _ _ [] _ _
      refine wpList_nil ?_
      refine hK15 _ _ ?_
      refine wp_ret ?_
      obtain rfl := Option.some.inj H
      exact fin hk _ [(.bool false)] rfl ⟨rfl, trivial⟩ ⟨rfl, (hs.pick [] rfl).dnil⟩
    · have hk := hk.lit 16 c14 rfl
      refine cnd_false hk rfl rfl ?_
      refine wp_skip ?_
      refine hK10 _ _ ?_
      apply wp_seq_k; intro K16 hK16
      apply wp_region_lit
      refine sa _ rfl hk rfl rfl rfl fun a hk => ?_
      show wpList _ _ _ [] _ _
      refine wpList_nil ?_
      refine hK16 _ _ ?_
      refine wp_ret ?_
      obtain rfl := Option.some.inj H
      exact fin hk _ [(.bool true)] rfl ⟨rfl, trivial⟩ ⟨rfl, (hs.pick [] rfl).dnil⟩

noncomputable def laws_markBlockS.s0 (l0 : List S_Block) (u6 : List S_Block) (u10 : Int) (u11 : Int) : Option (((List S_Block) × Int × Int) ⊕ Ex ((List S_Block) × Int) (Int × (List S_Block))) :=
  (bif (decide (u11 < (l0.length : Int))) then (if 0 ≤ u11 ∧ u11 < (l0.length : Int) then (if 0 ≤ u11 ∧ u11 < (l0.length : Int) then (if 0 ≤ u11 ∧ u11 < (l0.length : Int) then (some (.inl ((((u6.set u11.toNat (⟨u10, (u6.getD u11.toNat z_Block).Leaf, (u6.getD u11.toNat z_Block).Value⟩ : S_Block)).set u11.toNat (⟨((u6.set u11.toNat (⟨u10, (u6.getD u11.toNat z_Block).Leaf, (u6.getD u11.toNat z_Block).Value⟩ : S_Block)).getD u11.toNat z_Block).Id, (w64 (u10 + 1)), ((u6.set u11.toNat (⟨u10, (u6.getD u11.toNat z_Block).Leaf, (u6.getD u11.toNat z_Block).Value⟩ : S_Block)).getD u11.toNat z_Block).Value⟩ : S_Block)).set u11.toNat (⟨(((u6.set u11.toNat (⟨u10, (u6.getD u11.toNat z_Block).Leaf, (u6.getD u11.toNat z_Block).Value⟩ : S_Block)).set u11.toNat (⟨((u6.set u11.toNat (⟨u10, (u6.getD u11.toNat z_Block).Leaf, (u6.getD u11.toNat z_Block).Value⟩ : S_Block)).getD u11.toNat z_Block).Id, (w64 (u10 + 1)), ((u6.set u11.toNat (⟨u10, (u6.getD u11.toNat z_Block).Leaf, (u6.getD u11.toNat z_Block).Value⟩ : S_Block)).getD u11.toNat z_Block).Value⟩ : S_Block)).getD u11.toNat z_Block).Id, (((u6.set u11.toNat (⟨u10, (u6.getD u11.toNat z_Block).Leaf, (u6.getD u11.toNat z_Block).Value⟩ : S_Block)).set u11.toNat (⟨((u6.set u11.toNat (⟨u10, (u6.getD u11.toNat z_Block).Leaf, (u6.getD u11.toNat z_Block).Value⟩ : S_Block)).getD u11.toNat z_Block).Id, (w64 (u10 + 1)), ((u6.set u11.toNat (⟨u10, (u6.getD u11.toNat z_Block).Leaf, (u6.getD u11.toNat z_Block).Value⟩ : S_Block)).getD u11.toNat z_Block).Value⟩ : S_Block)).getD u11.toNat z_Block).Leaf, (w64 ((w64 (u10 + 1)) + 1))⟩ : S_Block)), (w64 ((w64 ((w64 (u10 + 1)) + 1)) + 1)), (w64 (u11 + 1))))) else none) else none) else none) else (some (.inr (.out (u6, u10)))))
noncomputable def laws_markBlockS.f (l0 : List S_Block) (x1 : Int) : Option (Int × (List S_Block)) :=
  ((loopO (fun s => laws_markBlockS.s0 l0 s.1 s.2.1 s.2.2) (l0, x1, 0)).bind fun o => match o with | .out (u12, u16) => (some (u16, u12)) | .ret r => (some r))
set_option maxRecDepth 100000 in
set_option maxHeartbeats 0 in
theorem laws_markBlockS_t (w0 : World) (A0_ : Option Addr) (p0_ : Nat) (l0 : List S_Block) (k0_ : Chunk) (v0_ : Own L_Block 146 A0_ p0_ l0 k0_) (x1 : Int) (hs0 : Sat (blks [(1, k0_)]) w0 w0 [] [(1, k0_)]) (r : Int × (List S_Block)) (H : laws_markBlockS.f l0 x1 = some r) :
    Calls Try.prog 163 #[.slice A0_ l0.length p0_, .int .i64 x1] w0 (Ret (fun v w => ∃ (k0 : Chunk), v = .int .i64 r.1 ∧ (Own L_Block 146 A0_ p0_ r.2 k0 ∧ r.2.length = l0.length) ∧ Sat (blks [(1, k0_)]) w0 w [] [(0, k0)])) := by
  have hs := hs0
  unfold laws_markBlockS.f at H
  refine enter Try.func163 rfl Try.ntmps163 rfl fun a hk => ?_
  apply wp_seq_k; intro K1 hK1
  apply wp_region_lit
  refine sa _ rfl hk rfl rfl rfl fun a hk => ?_
  show wpList _ _ _ [] _ _
  refine wpList_nil ?_
  refine hK1 _ _ ?_
  apply wp_seq_k; intro K2 hK2
  apply wp_seq_k; intro K3 hK3
  apply wp_region_lit
  refine sa _ rfl hk rfl rfl rfl fun a hk => ?_
  show wpList _ _ _ [] _ _
  refine wpList_nil ?_
  refine hK3 _ _ ?_
  obtain ⟨o17, h18, HL19⟩ := bind_some H
  clear H
  obtain ⟨R20, hR20⟩ : ∃ R : Act → World → Prop, R = fun a w => ∃ (u12 : List S_Block) (u16 : Int) (k13 : Chunk), o17 = .out (u12, u16) ∧ Kn [(0, (.slice A0_ l0.length p0_)), (1, (.int .i64 u16))] 34 a ∧ Sat (blks [(1, k0_)]) w0 w [] [(1, k13)] ∧ Own L_Block 146 A0_ p0_ u12 k13 ∧ u12.length = l0.length := ⟨_, rfl⟩
  refine wp_cutq R20 ?_ ?_
  · refine wp_block ?_
    obtain ⟨fu22, h18⟩ := loopO_some h18
    obtain ⟨I21, hI21⟩ : ∃ I : Nat → Act → World → Prop, I = fun fu a w => ∃ (u6 : List S_Block) (u10 : Int) (u11 : Int) (k7 : Chunk), loopN (fun s => laws_markBlockS.s0 l0 s.1 s.2.1 s.2.2) fu (u6, u10, u11) = some o17 ∧ Kn [(0, (.slice A0_ l0.length p0_)), (1, (.int .i64 u10)), (5, (.int .i64 u11))] 34 a ∧ Sat (blks [(1, k0_)]) w0 w [] [(1, k7)] ∧ Own L_Block 146 A0_ p0_ u6 k7 ∧ u6.length = l0.length := ⟨_, rfl⟩
    refine wp_loop_ghost I21 fu22 ?_ ?_
    · rw [hI21]
      exact ⟨l0, x1, 0, _, h18, (hk.c 0 rfl (hk.c 1 rfl (hk.c 5 rfl hk.k))), (hs.pick [(1, 1)] rfl), v0_, rfl⟩
    · clear h18 hk hs
      intro fu22 a w hI0
      rw [hI21] at hI0
      obtain ⟨u6, u10, u11, k7, hi, hk, hs, o8, lh9⟩ := hI0
      obtain ⟨x23, H, h24⟩ := loop_round hi
      try dsimp only at H
      unfold laws_markBlockS.s0 at H
      apply wp_seq_k; intro K25 hK25
      apply wp_seq_k; intro K26 hK26
      apply wp_region_lit
      refine sm _ rfl hk rfl rfl rfl fun a hk => ?_
      refine sm _ rfl hk rfl rfl rfl fun a hk => ?_
      refine sle rfl hk rfl rfl rfl un85 fun a hk => ?_
      refine sv (.bool (decide (u11 < (l0.length : Int)))) hk rfl rfl rfl fun a hk => ?_
      show wpList _ _ _ [] _ _
      refine wpList_nil ?_
      refine hK26 _ _ ?_
      rcases cond_some H with ⟨c27, H⟩ | ⟨c27, H⟩
      · have hk := hk.lit 9 c27 rfl
        refine cnd_true hk rfl rfl ?_
        refine wp_skip ?_
        refine hK25 _ _ ?_
        apply wp_seq_k; intro K28 hK28
        refine wp_block ?_
        apply wp_seq_k; intro K29 hK29
        apply wp_region_lit
        refine sm _ rfl hk rfl rfl rfl fun a hk => ?_
        refine sm _ rfl hk rfl rfl rfl fun a hk => ?_
        refine sm _ rfl hk rfl rfl rfl fun a hk => ?_
        rcases ite_some H with ⟨c30, H⟩ | ⟨_, H⟩
        rotate_left
        · cases H
        obtain ⟨b31, q32, hAc30⟩ := (o8.view).some_ u11 c30.1 (by rw [lh9]; exact c30.2)
        refine si rfl hk rfl rfl rfl rfl un85 sz146 c30.1 c30.2 hAc30 fun a hk => ?_
        refine sf (padd A0_ (u11.toNat * 3 + 0)) rfl hk rfl rfl rfl fd146_0 (padd_add _ _ _) fun a hk => ?_
        refine so (j := 0) 1 z_Block (⟨u10, (u6.getD u11.toNat z_Block).Leaf, (u6.getD u11.toNat z_Block).Value⟩ : S_Block) hs rfl o8 c30.1 (by rw [lh9]; exact c30.2) rfl hk rfl rfl rfl rfl rfl sz3 (by simp [Value.cells, Value.oneCell']) (Nat.le_of_ble_eq_true rfl) (fun _ _ h => ⟨by rw [h.1]; rfl, h.2⟩) fun k33 w a hk o34 hs => ?_
        have lh35 : (u6.set u11.toNat (⟨u10, (u6.getD u11.toNat z_Block).Leaf, (u6.getD u11.toNat z_Block).Value⟩ : S_Block)).length = l0.length := by rw [List.length_set]; exact lh9
        show wpList _ _ _ [] _ _
        refine wpList_nil ?_
        refine hK29 _ _ ?_
        apply wp_seq_k; intro K36 hK36
        apply wp_region_lit
        refine sm _ rfl hk rfl rfl rfl fun a hk => ?_
        refine sv (.int .i64 (w64 (u10 + 1))) hk rfl rfl rfl fun a hk => ?_
        refine sa _ rfl hk rfl rfl rfl fun a hk => ?_
        show wpList _ _ _ [] _ _
        refine wpList_nil ?_
        refine hK36 _ _ ?_
        apply wp_seq_k; intro K37 hK37
        apply wp_region_lit
        refine sm _ rfl hk rfl rfl rfl fun a hk => ?_
        refine sm _ rfl hk rfl rfl rfl fun a hk => ?_
        refine sm _ rfl hk rfl rfl rfl fun a hk => ?_
        rcases ite_some H with ⟨c38, H⟩ | ⟨_, H⟩
        rotate_left
        · cases H
        obtain ⟨b39, q40, hAc38⟩ := (o34.view).some_ u11 c38.1 (by rw [lh35]; exact c38.2)
        refine si rfl hk rfl rfl rfl rfl un85 sz146 c38.1 c38.2 hAc38 fun a hk => ?_
        refine sf (padd A0_ (u11.toNat * 3 + 1)) rfl hk rfl rfl rfl fd146_1 (padd_add _ _ _) fun a hk => ?_
        refine so (j := 1) 1 z_Block (⟨((u6.set u11.toNat (⟨u10, (u6.getD u11.toNat z_Block).Leaf, (u6.getD u11.toNat z_Block).Value⟩ : S_Block)).getD u11.toNat z_Block).Id, (w64 (u10 + 1)), ((u6.set u11.toNat (⟨u10, (u6.getD u11.toNat z_Block).Leaf, (u6.getD u11.toNat z_Block).Value⟩ : S_Block)).getD u11.toNat z_Block).Value⟩ : S_Block) hs rfl o34 c38.1 (by rw [lh35]; exact c38.2) rfl hk rfl rfl rfl rfl rfl sz3 (by simp [Value.cells, Value.oneCell']) (Nat.le_of_ble_eq_true rfl) (fun _ _ h => ⟨by rw [h.1]; rfl, h.2⟩) fun k41 w a hk o42 hs => ?_
        have lh43 : ((u6.set u11.toNat (⟨u10, (u6.getD u11.toNat z_Block).Leaf, (u6.getD u11.toNat z_Block).Value⟩ : S_Block)).set u11.toNat (⟨((u6.set u11.toNat (⟨u10, (u6.getD u11.toNat z_Block).Leaf, (u6.getD u11.toNat z_Block).Value⟩ : S_Block)).getD u11.toNat z_Block).Id, (w64 (u10 + 1)), ((u6.set u11.toNat (⟨u10, (u6.getD u11.toNat z_Block).Leaf, (u6.getD u11.toNat z_Block).Value⟩ : S_Block)).getD u11.toNat z_Block).Value⟩ : S_Block)).length = l0.length := by rw [List.length_set]; exact lh35
        show wpList _ _ _ [] _ _
        refine wpList_nil ?_
        refine hK37 _ _ ?_
        apply wp_seq_k; intro K44 hK44
        apply wp_region_lit
        refine sm _ rfl hk rfl rfl rfl fun a hk => ?_
        refine sv (.int .i64 (w64 ((w64 (u10 + 1)) + 1))) hk rfl rfl rfl fun a hk => ?_
        refine sa _ rfl hk rfl rfl rfl fun a hk => ?_
        show wpList _ _ _ [] _ _
        refine wpList_nil ?_
        refine hK44 _ _ ?_
        apply wp_seq_k; intro K45 hK45
        apply wp_region_lit
        refine sm _ rfl hk rfl rfl rfl fun a hk => ?_
        refine sm _ rfl hk rfl rfl rfl fun a hk => ?_
        refine sm _ rfl hk rfl rfl rfl fun a hk => ?_
        rcases ite_some H with ⟨c46, H⟩ | ⟨_, H⟩
        rotate_left
        · cases H
        obtain ⟨b47, q48, hAc46⟩ := (o42.view).some_ u11 c46.1 (by rw [lh43]; exact c46.2)
        refine si rfl hk rfl rfl rfl rfl un85 sz146 c46.1 c46.2 hAc46 fun a hk => ?_
        refine sf (padd A0_ (u11.toNat * 3 + 2)) rfl hk rfl rfl rfl fd146_2 (padd_add _ _ _) fun a hk => ?_
        refine so (j := 2) 1 z_Block (⟨(((u6.set u11.toNat (⟨u10, (u6.getD u11.toNat z_Block).Leaf, (u6.getD u11.toNat z_Block).Value⟩ : S_Block)).set u11.toNat (⟨((u6.set u11.toNat (⟨u10, (u6.getD u11.toNat z_Block).Leaf, (u6.getD u11.toNat z_Block).Value⟩ : S_Block)).getD u11.toNat z_Block).Id, (w64 (u10 + 1)), ((u6.set u11.toNat (⟨u10, (u6.getD u11.toNat z_Block).Leaf, (u6.getD u11.toNat z_Block).Value⟩ : S_Block)).getD u11.toNat z_Block).Value⟩ : S_Block)).getD u11.toNat z_Block).Id, (((u6.set u11.toNat (⟨u10, (u6.getD u11.toNat z_Block).Leaf, (u6.getD u11.toNat z_Block).Value⟩ : S_Block)).set u11.toNat (⟨((u6.set u11.toNat (⟨u10, (u6.getD u11.toNat z_Block).Leaf, (u6.getD u11.toNat z_Block).Value⟩ : S_Block)).getD u11.toNat z_Block).Id, (w64 (u10 + 1)), ((u6.set u11.toNat (⟨u10, (u6.getD u11.toNat z_Block).Leaf, (u6.getD u11.toNat z_Block).Value⟩ : S_Block)).getD u11.toNat z_Block).Value⟩ : S_Block)).getD u11.toNat z_Block).Leaf, (w64 ((w64 (u10 + 1)) + 1))⟩ : S_Block) hs rfl o42 c46.1 (by rw [lh43]; exact c46.2) rfl hk rfl rfl rfl rfl rfl sz3 (by simp [Value.cells, Value.oneCell']) (Nat.le_of_ble_eq_true rfl) (fun _ _ h => ⟨by rw [h.1]; rfl, h.2⟩) fun k49 w a hk o50 hs => ?_
        have lh51 : (((u6.set u11.toNat (⟨u10, (u6.getD u11.toNat z_Block).Leaf, (u6.getD u11.toNat z_Block).Value⟩ : S_Block)).set u11.toNat (⟨((u6.set u11.toNat (⟨u10, (u6.getD u11.toNat z_Block).Leaf, (u6.getD u11.toNat z_Block).Value⟩ : S_Block)).getD u11.toNat z_Block).Id, (w64 (u10 + 1)), ((u6.set u11.toNat (⟨u10, (u6.getD u11.toNat z_Block).Leaf, (u6.getD u11.toNat z_Block).Value⟩ : S_Block)).getD u11.toNat z_Block).Value⟩ : S_Block)).set u11.toNat (⟨(((u6.set u11.toNat (⟨u10, (u6.getD u11.toNat z_Block).Leaf, (u6.getD u11.toNat z_Block).Value⟩ : S_Block)).set u11.toNat (⟨((u6.set u11.toNat (⟨u10, (u6.getD u11.toNat z_Block).Leaf, (u6.getD u11.toNat z_Block).Value⟩ : S_Block)).getD u11.toNat z_Block).Id, (w64 (u10 + 1)), ((u6.set u11.toNat (⟨u10, (u6.getD u11.toNat z_Block).Leaf, (u6.getD u11.toNat z_Block).Value⟩ : S_Block)).getD u11.toNat z_Block).Value⟩ : S_Block)).getD u11.toNat z_Block).Id, (((u6.set u11.toNat (⟨u10, (u6.getD u11.toNat z_Block).Leaf, (u6.getD u11.toNat z_Block).Value⟩ : S_Block)).set u11.toNat (⟨((u6.set u11.toNat (⟨u10, (u6.getD u11.toNat z_Block).Leaf, (u6.getD u11.toNat z_Block).Value⟩ : S_Block)).getD u11.toNat z_Block).Id, (w64 (u10 + 1)), ((u6.set u11.toNat (⟨u10, (u6.getD u11.toNat z_Block).Leaf, (u6.getD u11.toNat z_Block).Value⟩ : S_Block)).getD u11.toNat z_Block).Value⟩ : S_Block)).getD u11.toNat z_Block).Leaf, (w64 ((w64 (u10 + 1)) + 1))⟩ : S_Block)).length = l0.length := by rw [List.length_set]; exact lh43
        show wpList _ _ _ [] _ _
        refine wpList_nil ?_
        refine hK45 _ _ ?_
        apply wp_region_lit
        refine sm _ rfl hk rfl rfl rfl fun a hk => ?_
        refine sv (.int .i64 (w64 ((w64 ((w64 (u10 + 1)) + 1)) + 1))) hk rfl rfl rfl fun a hk => ?_
        refine sa _ rfl hk rfl rfl rfl fun a hk => ?_
        show wpList _ _ _ [] _ _
        refine wpList_nil ?_
        refine hK28 _ _ ?_
        apply wp_region_lit
        refine sm _ rfl hk rfl rfl rfl fun a hk => ?_
        refine sv (.int .i64 (w64 (u11 + 1))) hk rfl rfl rfl fun a hk => ?_
        refine sa _ rfl hk rfl rfl rfl fun a hk => ?_
        show wpList _ _ _ [] _ _
        refine wpList_nil ?_
        obtain rfl := Option.some.inj H
        obtain ⟨m52, hmm52, h24⟩ := h24
        show ∃ n', n' < _ ∧ I21 n' _ _
        refine ⟨m52, hmm52, ?_⟩
        rw [hI21]
        exact ⟨(((u6.set u11.toNat (⟨u10, (u6.getD u11.toNat z_Block).Leaf, (u6.getD u11.toNat z_Block).Value⟩ : S_Block)).set u11.toNat (⟨((u6.set u11.toNat (⟨u10, (u6.getD u11.toNat z_Block).Leaf, (u6.getD u11.toNat z_Block).Value⟩ : S_Block)).getD u11.toNat z_Block).Id, (w64 (u10 + 1)), ((u6.set u11.toNat (⟨u10, (u6.getD u11.toNat z_Block).Leaf, (u6.getD u11.toNat z_Block).Value⟩ : S_Block)).getD u11.toNat z_Block).Value⟩ : S_Block)).set u11.toNat (⟨(((u6.set u11.toNat (⟨u10, (u6.getD u11.toNat z_Block).Leaf, (u6.getD u11.toNat z_Block).Value⟩ : S_Block)).set u11.toNat (⟨((u6.set u11.toNat (⟨u10, (u6.getD u11.toNat z_Block).Leaf, (u6.getD u11.toNat z_Block).Value⟩ : S_Block)).getD u11.toNat z_Block).Id, (w64 (u10 + 1)), ((u6.set u11.toNat (⟨u10, (u6.getD u11.toNat z_Block).Leaf, (u6.getD u11.toNat z_Block).Value⟩ : S_Block)).getD u11.toNat z_Block).Value⟩ : S_Block)).getD u11.toNat z_Block).Id, (((u6.set u11.toNat (⟨u10, (u6.getD u11.toNat z_Block).Leaf, (u6.getD u11.toNat z_Block).Value⟩ : S_Block)).set u11.toNat (⟨((u6.set u11.toNat (⟨u10, (u6.getD u11.toNat z_Block).Leaf, (u6.getD u11.toNat z_Block).Value⟩ : S_Block)).getD u11.toNat z_Block).Id, (w64 (u10 + 1)), ((u6.set u11.toNat (⟨u10, (u6.getD u11.toNat z_Block).Leaf, (u6.getD u11.toNat z_Block).Value⟩ : S_Block)).getD u11.toNat z_Block).Value⟩ : S_Block)).getD u11.toNat z_Block).Leaf, (w64 ((w64 (u10 + 1)) + 1))⟩ : S_Block)), (w64 ((w64 ((w64 (u10 + 1)) + 1)) + 1)), (w64 (u11 + 1)), _, h24, (hk.c 0 rfl (hk.c 1 rfl (hk.c 5 rfl hk.k))), (hs.pick [(1, 1)] rfl), o50, lh51⟩
      · have hk := hk.lit 9 c27 rfl
        refine cnd_false hk rfl rfl ?_
        refine wp_exit ?_
        obtain rfl := Option.some.inj H
        show R20 _ _
        rw [hR20]
        exact ⟨u6, u10, _, h24.symm, (hk.c 0 rfl (hk.c 1 rfl hk.k)), (hs.pick [(1, 1)] rfl), o8, lh9⟩
  · intro a w hR0
    rw [hR20] at hR0
    obtain ⟨u12, u16, k13, rfl, hk, hs, o14, lh15⟩ := hR0
    have H := HL19
    try dsimp only at H
    refine hK2 _ _ ?_
    apply wp_seq_k; intro K53 hK53
    apply wp_region_lit
    refine sm _ rfl hk rfl rfl rfl fun a hk => ?_
    refine sa _ rfl hk rfl rfl rfl fun a hk => ?_
    show wpList _ _ _ [] _ _
    refine wpList_nil ?_
    refine hK53 _ _ ?_
    refine wp_ret ?_
    obtain rfl := Option.some.inj H
    exact fin hk _ [(.int .i64 u16)] rfl ⟨rfl, trivial⟩ ⟨_, rfl, ⟨o14, lh15⟩, (hs.pick [(0, 1)] rfl).dnil⟩

noncomputable def laws_markBlockSS.s0 (l0 : List (List S_Block)) (u6 : List (List S_Block)) (u10 : Int) (u11 : Int) : Option (((List (List S_Block)) × Int × Int) ⊕ Ex ((List (List S_Block)) × Int) (Int × (List (List S_Block)))) :=
  (bif (decide (u11 < (l0.length : Int))) then (if 0 ≤ u11 ∧ u11 < (l0.length : Int) then ((laws_markBlockS.f (u6.getD u11.toNat []) u10).bind fun y41 => (some (.inl ((u6.set u11.toNat y41.2), y41.1, (w64 (u11 + 1)))))) else none) else (some (.inr (.out (u6, u10)))))
noncomputable def laws_markBlockSS.f (l0 : List (List S_Block)) (x1 : Int) : Option (Int × (List (List S_Block))) :=
  ((loopO (fun s => laws_markBlockSS.s0 l0 s.1 s.2.1 s.2.2) (l0, x1, 0)).bind fun o => match o with | .out (u12, u16) => (some (u16, u12)) | .ret r => (some r))
set_option maxRecDepth 100000 in
set_option maxHeartbeats 0 in
theorem laws_markBlockSS_t (w0 : World) (A0_ : Option Addr) (p0_ : Nat) (l0 : List (List S_Block)) (k0_ : Chunk) (v0_ : Own (Lay.sl L_Block 146) 85 A0_ p0_ l0 k0_) (x1 : Int) (hs0 : Sat (blks [(1, k0_)]) w0 w0 [] [(1, k0_)]) (r : Int × (List (List S_Block))) (H : laws_markBlockSS.f l0 x1 = some r) :
    Calls Try.prog 164 #[.slice A0_ l0.length p0_, .int .i64 x1] w0 (Ret (fun v w => ∃ (k0 : Chunk), v = .int .i64 r.1 ∧ (Own (Lay.sl L_Block 146) 85 A0_ p0_ r.2 k0 ∧ r.2.length = l0.length) ∧ Sat (blks [(1, k0_)]) w0 w [] [(0, k0)])) := by
  have hs := hs0
  unfold laws_markBlockSS.f at H
  refine enter Try.func164 rfl Try.ntmps164 rfl fun a hk => ?_
  apply wp_seq_k; intro K1 hK1
  apply wp_region_lit
  refine sa _ rfl hk rfl rfl rfl fun a hk => ?_
  show wpList _ _ _ [] _ _
  refine wpList_nil ?_
  refine hK1 _ _ ?_
  apply wp_seq_k; intro K2 hK2
  apply wp_seq_k; intro K3 hK3
  apply wp_region_lit
  refine sa _ rfl hk rfl rfl rfl fun a hk => ?_
  show wpList _ _ _ [] _ _
  refine wpList_nil ?_
  refine hK3 _ _ ?_
  obtain ⟨o17, h18, HL19⟩ := bind_some H
  clear H
  obtain ⟨R20, hR20⟩ : ∃ R : Act → World → Prop, R = fun a w => ∃ (u12 : List (List S_Block)) (u16 : Int) (k13 : Chunk), o17 = .out (u12, u16) ∧ Kn [(0, (.slice A0_ l0.length p0_)), (1, (.int .i64 u16))] 19 a ∧ Sat (blks [(1, k0_)]) w0 w [] [(1, k13)] ∧ Own (Lay.sl L_Block 146) 85 A0_ p0_ u12 k13 ∧ u12.length = l0.length := ⟨_, rfl⟩
  refine wp_cutq R20 ?_ ?_
  · refine wp_block ?_
    obtain ⟨fu22, h18⟩ := loopO_some h18
    obtain ⟨I21, hI21⟩ : ∃ I : Nat → Act → World → Prop, I = fun fu a w => ∃ (u6 : List (List S_Block)) (u10 : Int) (u11 : Int) (k7 : Chunk), loopN (fun s => laws_markBlockSS.s0 l0 s.1 s.2.1 s.2.2) fu (u6, u10, u11) = some o17 ∧ Kn [(0, (.slice A0_ l0.length p0_)), (1, (.int .i64 u10)), (5, (.int .i64 u11))] 19 a ∧ Sat (blks [(1, k0_)]) w0 w [] [(1, k7)] ∧ Own (Lay.sl L_Block 146) 85 A0_ p0_ u6 k7 ∧ u6.length = l0.length := ⟨_, rfl⟩
    refine wp_loop_ghost I21 fu22 ?_ ?_
    · rw [hI21]
      exact ⟨l0, x1, 0, _, h18, (hk.c 0 rfl (hk.c 1 rfl (hk.c 5 rfl hk.k))), (hs.pick [(1, 1)] rfl), v0_, rfl⟩
    · clear h18 hk hs
      intro fu22 a w hI0
      rw [hI21] at hI0
      obtain ⟨u6, u10, u11, k7, hi, hk, hs, o8, lh9⟩ := hI0
      obtain ⟨x23, H, h24⟩ := loop_round hi
      try dsimp only at H
      unfold laws_markBlockSS.s0 at H
      apply wp_seq_k; intro K25 hK25
      apply wp_seq_k; intro K26 hK26
      apply wp_region_lit
      refine sm _ rfl hk rfl rfl rfl fun a hk => ?_
      refine sm _ rfl hk rfl rfl rfl fun a hk => ?_
      refine sle rfl hk rfl rfl rfl un86 fun a hk => ?_
      refine sv (.bool (decide (u11 < (l0.length : Int)))) hk rfl rfl rfl fun a hk => ?_
      show wpList _ _ _ [] _ _
      refine wpList_nil ?_
      refine hK26 _ _ ?_
      rcases cond_some H with ⟨c27, H⟩ | ⟨c27, H⟩
      · have hk := hk.lit 9 c27 rfl
        refine cnd_true hk rfl rfl ?_
        refine wp_skip ?_
        refine hK25 _ _ ?_
        apply wp_seq_k; intro K28 hK28
        refine wp_block ?_
        apply wp_region_lit
        refine sm _ rfl hk rfl rfl rfl fun a hk => ?_
        refine sm _ rfl hk rfl rfl rfl fun a hk => ?_
        rcases ite_some H with ⟨c29, H⟩ | ⟨_, H⟩
        rotate_left
        · cases H
        obtain ⟨b30, q31, hAc29⟩ := (o8.view).some_ u11 c29.1 (by rw [lh9]; exact c29.2)
        refine si rfl hk rfl rfl rfl rfl un86 sz85 c29.1 c29.2 hAc29 fun a hk => ?_
        obtain ⟨_, ⟨_, rfl, A33, p34, rfl, v35⟩, e32⟩ := (o8.view).at_ [] u11 c29.1 (by rw [lh9]; exact c29.2)
        refine sl (v := (.slice A33 (u6.getD u11.toNat []).length p34)) rfl hk rfl rfl rfl ag85 ((e32 0 _ rfl).cell (hs.hasG (k := 1) rfl)) fun a hk => ?_
        refine sm _ rfl hk rfl rfl rfl fun a hk => ?_
        obtain ⟨k36, k37, o38, hs, hp39⟩ := Own.elemS 3 0 [] (fun ys40 => ys40) hs (k := 1) rfl o8 c29.1 (by rw [lh9]; exact c29.2) (e32 0 _ rfl) (fun es d h => el_sl h)
        obtain ⟨y41, h42, H⟩ := bind_some H
        refine sc rfl en163 hk rfl rfl rfl (laws_markBlockS_t _ A33 p34 (u6.getD u11.toNat []) _ o38 u10 ((hs.hand [(1, 3)] rfl).dpick [] rfl) _ h42) ?_
        rintro _ w ⟨k43, rfl, ⟨o44, lh45⟩, hG⟩ a hk
        have hs := hs.back [(1, 3)] rfl hG [3] rfl
        obtain ⟨k46, hp47, o48⟩ := hp39 y41.2 k43 lh45 o44
        have hs := hs.putb 1 3 rfl rfl hp47
        have lh49 : (u6.set u11.toNat y41.2).length = l0.length := by rw [List.length_set]; exact lh9
        refine sa _ rfl hk rfl rfl rfl fun a hk => ?_
        show wpList _ _ _ [] _ _
        refine wpList_nil ?_
        refine hK28 _ _ ?_
        apply wp_region_lit
        refine sm _ rfl hk rfl rfl rfl fun a hk => ?_
        refine sv (.int .i64 (w64 (u11 + 1))) hk rfl rfl rfl fun a hk => ?_
        refine sa _ rfl hk rfl rfl rfl fun a hk => ?_
        show wpList _ _ _ [] _ _
        refine wpList_nil ?_
        obtain rfl := Option.some.inj H
        obtain ⟨m50, hmm50, h24⟩ := h24
        show ∃ n', n' < _ ∧ I21 n' _ _
        refine ⟨m50, hmm50, ?_⟩
        rw [hI21]
        exact ⟨(u6.set u11.toNat y41.2), y41.1, (w64 (u11 + 1)), _, h24, (hk.c 0 rfl (hk.c 1 rfl (hk.c 5 rfl hk.k))), (hs.pick [(1, 1)] rfl), o48, lh49⟩
      · have hk := hk.lit 9 c27 rfl
        refine cnd_false hk rfl rfl ?_
        refine wp_exit ?_
        obtain rfl := Option.some.inj H
        show R20 _ _
        rw [hR20]
        exact ⟨u6, u10, _, h24.symm, (hk.c 0 rfl (hk.c 1 rfl hk.k)), (hs.pick [(1, 1)] rfl), o8, lh9⟩
  · intro a w hR0
    rw [hR20] at hR0
    obtain ⟨u12, u16, k13, rfl, hk, hs, o14, lh15⟩ := hR0
    have H := HL19
    try dsimp only at H
    refine hK2 _ _ ?_
    apply wp_seq_k; intro K51 hK51
    apply wp_region_lit
    refine sm _ rfl hk rfl rfl rfl fun a hk => ?_
    refine sa _ rfl hk rfl rfl rfl fun a hk => ?_
    show wpList _ _ _ [] _ _
    refine wpList_nil ?_
    refine hK51 _ _ ?_
    refine wp_ret ?_
    obtain rfl := Option.some.inj H
    exact fin hk _ [(.int .i64 u16)] rfl ⟨rfl, trivial⟩ ⟨_, rfl, ⟨o14, lh15⟩, (hs.pick [(0, 1)] rfl).dnil⟩

noncomputable def laws_markOram.f (x0 : S_Oram) (x1 : Int) : Option (Int × (List Int) × (List S_Block) × (List (List S_Block))) :=
  ((laws_markIntS.f x0.Pos x1).bind fun y4 => ((laws_markBlockS.f x0.Stash y4.1).bind fun y11 => ((laws_markBlockSS.f x0.Buckets y11.1).bind fun y18 => (some (y18.1, y4.2, y11.2, y18.2)))))
set_option maxRecDepth 100000 in
set_option maxHeartbeats 0 in
theorem laws_markOram_t (w0 : World) (x0 : S_Oram) (A0_0 : Option Addr) (p0_0 : Nat) (k0_0 : Chunk) (v0_0 : Own (Lay.int .i64) 3 A0_0 p0_0 x0.Pos k0_0) (A0_1 : Option Addr) (p0_1 : Nat) (k0_1 : Chunk) (v0_1 : Own L_Block 146 A0_1 p0_1 x0.Stash k0_1) (A0_2 : Option Addr) (p0_2 : Nat) (k0_2 : Chunk) (v0_2 : Own (Lay.sl L_Block 146) 85 A0_2 p0_2 x0.Buckets k0_2) (x1 : Int) (hs0 : Sat (blks [(1, k0_0), (2, k0_1), (3, k0_2)]) w0 w0 [] [(1, k0_0), (2, k0_1), (3, k0_2)]) (r : Int × (List Int) × (List S_Block) × (List (List S_Block))) (H : laws_markOram.f x0 x1 = some r) :
    Calls Try.prog 123 #[.agg #[.slice A0_0 x0.Pos.length p0_0, .slice A0_1 x0.Stash.length p0_1, .slice A0_2 x0.Buckets.length p0_2], .int .i64 x1] w0 (Ret (fun v w => ∃ (k0 : Chunk), ∃ (k1 : Chunk), ∃ (k2 : Chunk), v = .int .i64 r.1 ∧ (Own (Lay.int .i64) 3 A0_0 p0_0 r.2.1 k0 ∧ r.2.1.length = x0.Pos.length) ∧ (Own L_Block 146 A0_1 p0_1 r.2.2.1 k1 ∧ r.2.2.1.length = x0.Stash.length) ∧ (Own (Lay.sl L_Block 146) 85 A0_2 p0_2 r.2.2.2 k2 ∧ r.2.2.2.length = x0.Buckets.length) ∧ Sat (blks [(1, k0_0), (2, k0_1), (3, k0_2)]) w0 w [] [(0, k0), (1, k1), (2, k2)])) := by
  have hs := hs0
  unfold laws_markOram.f at H
  refine enter Try.func123 rfl Try.ntmps123 rfl fun a hk => ?_
  apply wp_seq_k; intro K1 hK1
  apply wp_region_lit
  refine sbx 4 hs rfl hk rfl rfl rfl rfl fun b2 w a hk hs => ?_
  refine sa _ rfl hk rfl rfl rfl fun a hk => ?_
  show wpList _ _ _ [] _ _
  refine wpList_nil ?_
  refine hK1 _ _ ?_
  apply wp_seq_k; intro K3 hK3
  apply wp_region_lit
  refine sf ⟨b2, 0, none⟩ rfl hk rfl rfl rfl fd88_0 rfl fun a hk => ?_
  refine sl rfl hk rfl rfl rfl ag27 (box_cell hs (k := 4) rfl rfl) fun a hk => ?_
  refine sm _ rfl hk rfl rfl rfl fun a hk => ?_
  obtain ⟨y4, h5, H⟩ := bind_some H
  refine sc rfl en19 hk rfl rfl rfl (laws_markIntS_t _ A0_0 p0_0 x0.Pos _ v0_0 x1 ((hs.hand [(1, 1)] rfl).dpick [] rfl) _ h5) ?_
  rintro _ w ⟨k6, rfl, ⟨o7, lh8⟩, hG⟩ a hk
  have hs := hs.back [(1, 1)] rfl hG [1] rfl
  have lh9 : y4.2.length = x0.Pos.length := lh8
  refine sa _ rfl hk rfl rfl rfl fun a hk => ?_
  show wpList _ _ _ [] _ _
  refine wpList_nil ?_
  refine hK3 _ _ ?_
  apply wp_seq_k; intro K10 hK10
  apply wp_region_lit
  refine sf ⟨b2, 1, none⟩ rfl hk rfl rfl rfl fd88_1 rfl fun a hk => ?_
  refine sl rfl hk rfl rfl rfl ag85 (box_cell hs (k := 4) rfl rfl) fun a hk => ?_
  refine sm _ rfl hk rfl rfl rfl fun a hk => ?_
  obtain ⟨y11, h12, H⟩ := bind_some H
  refine sc rfl en163 hk rfl rfl rfl (laws_markBlockS_t _ A0_1 p0_1 x0.Stash _ v0_1 y4.1 ((hs.hand [(1, 2)] rfl).dpick [] rfl) _ h12) ?_
  rintro _ w ⟨k13, rfl, ⟨o14, lh15⟩, hG⟩ a hk
  have hs := hs.back [(1, 2)] rfl hG [2] rfl
  have lh16 : y11.2.length = x0.Stash.length := lh15
  refine sa _ rfl hk rfl rfl rfl fun a hk => ?_
  show wpList _ _ _ [] _ _
  refine wpList_nil ?_
  refine hK10 _ _ ?_
  apply wp_seq_k; intro K17 hK17
  apply wp_region_lit
  refine sf ⟨b2, 2, none⟩ rfl hk rfl rfl rfl fd88_2 rfl fun a hk => ?_
  refine sl rfl hk rfl rfl rfl ag86 (box_cell hs (k := 4) rfl rfl) fun a hk => ?_
  refine sm _ rfl hk rfl rfl rfl fun a hk => ?_
  obtain ⟨y18, h19, H⟩ := bind_some H
  refine sc rfl en164 hk rfl rfl rfl (laws_markBlockSS_t _ A0_2 p0_2 x0.Buckets _ v0_2 y11.1 ((hs.hand [(1, 3)] rfl).dpick [] rfl) _ h19) ?_
  rintro _ w ⟨k20, rfl, ⟨o21, lh22⟩, hG⟩ a hk
  have hs := hs.back [(1, 3)] rfl hG [3] rfl
  have lh23 : y18.2.length = x0.Buckets.length := lh22
  refine sa _ rfl hk rfl rfl rfl fun a hk => ?_
  show wpList _ _ _ [] _ _
  refine wpList_nil ?_
  refine hK17 _ _ ?_
  apply wp_seq_k; intro K24 hK24
  apply wp_region_lit
  refine sm _ rfl hk rfl rfl rfl fun a hk => ?_
  refine sa _ rfl hk rfl rfl rfl fun a hk => ?_
  show wpList _ _ _ [] _ _
  refine wpList_nil ?_
  refine hK24 _ _ ?_
  refine wp_ret ?_
  obtain rfl := Option.some.inj H
  exact fin hk _ [(.int .i64 y18.1)] rfl ⟨rfl, trivial⟩ ⟨_, _, _, rfl, ⟨o7, lh9⟩, ⟨o14, lh16⟩, ⟨o21, lh23⟩, (hs.pick [(0, 1), (1, 2), (2, 3)] rfl).dnil⟩

noncomputable def laws_markEnc.f (x0 : S_Enc) (x1 : Int) : Option (Int × (List Int) × (List Int) × (List S_Block) × (List (List S_Block))) :=
  ((laws_markIntS.f x0.Keys x1).bind fun y4 => ((laws_markOram.f x0.Oram y4.1).bind fun y11 => (some (y11.1, y4.2, y11.2.1, y11.2.2.1, y11.2.2.2))))
set_option maxRecDepth 100000 in
set_option maxHeartbeats 0 in
theorem laws_markEnc_t (w0 : World) (x0 : S_Enc) (A0_0 : Option Addr) (p0_0 : Nat) (k0_0 : Chunk) (v0_0 : Own (Lay.int .i64) 3 A0_0 p0_0 x0.Keys k0_0) (A0_1 : Option Addr) (p0_1 : Nat) (k0_1 : Chunk) (v0_1 : Own (Lay.int .i64) 3 A0_1 p0_1 x0.Oram.Pos k0_1) (A0_2 : Option Addr) (p0_2 : Nat) (k0_2 : Chunk) (v0_2 : Own L_Block 146 A0_2 p0_2 x0.Oram.Stash k0_2) (A0_3 : Option Addr) (p0_3 : Nat) (k0_3 : Chunk) (v0_3 : Own (Lay.sl L_Block 146) 85 A0_3 p0_3 x0.Oram.Buckets k0_3) (x1 : Int) (hs0 : Sat (blks [(1, k0_0), (2, k0_1), (3, k0_2), (4, k0_3)]) w0 w0 [] [(1, k0_0), (2, k0_1), (3, k0_2), (4, k0_3)]) (r : Int × (List Int) × (List Int) × (List S_Block) × (List (List S_Block))) (H : laws_markEnc.f x0 x1 = some r) :
    Calls Try.prog 61 #[.agg #[.slice A0_0 x0.Keys.length p0_0, .slice A0_1 x0.Oram.Pos.length p0_1, .slice A0_2 x0.Oram.Stash.length p0_2, .slice A0_3 x0.Oram.Buckets.length p0_3], .int .i64 x1] w0 (Ret (fun v w => ∃ (k0 : Chunk), ∃ (k1 : Chunk), ∃ (k2 : Chunk), ∃ (k3 : Chunk), v = .int .i64 r.1 ∧ (Own (Lay.int .i64) 3 A0_0 p0_0 r.2.1 k0 ∧ r.2.1.length = x0.Keys.length) ∧ (Own (Lay.int .i64) 3 A0_1 p0_1 r.2.2.1 k1 ∧ r.2.2.1.length = x0.Oram.Pos.length) ∧ (Own L_Block 146 A0_2 p0_2 r.2.2.2.1 k2 ∧ r.2.2.2.1.length = x0.Oram.Stash.length) ∧ (Own (Lay.sl L_Block 146) 85 A0_3 p0_3 r.2.2.2.2 k3 ∧ r.2.2.2.2.length = x0.Oram.Buckets.length) ∧ Sat (blks [(1, k0_0), (2, k0_1), (3, k0_2), (4, k0_3)]) w0 w [] [(0, k0), (1, k1), (2, k2), (3, k3)])) := by
  have hs := hs0
  unfold laws_markEnc.f at H
  refine enter Try.func61 rfl Try.ntmps61 rfl fun a hk => ?_
  apply wp_seq_k; intro K1 hK1
  apply wp_region_lit
  refine sbx 5 hs rfl hk rfl rfl rfl rfl fun b2 w a hk hs => ?_
  refine sa _ rfl hk rfl rfl rfl fun a hk => ?_
  show wpList _ _ _ [] _ _
  refine wpList_nil ?_
  refine hK1 _ _ ?_
  apply wp_seq_k; intro K3 hK3
  apply wp_region_lit
  refine sf ⟨b2, 0, none⟩ rfl hk rfl rfl rfl fd95_0 rfl fun a hk => ?_
  refine sl rfl hk rfl rfl rfl ag27 (box_cell hs (k := 5) rfl rfl) fun a hk => ?_
  refine sm _ rfl hk rfl rfl rfl fun a hk => ?_
  obtain ⟨y4, h5, H⟩ := bind_some H
  refine sc rfl en19 hk rfl rfl rfl (laws_markIntS_t _ A0_0 p0_0 x0.Keys _ v0_0 x1 ((hs.hand [(1, 1)] rfl).dpick [] rfl) _ h5) ?_
  rintro _ w ⟨k6, rfl, ⟨o7, lh8⟩, hG⟩ a hk
  have hs := hs.back [(1, 1)] rfl hG [1] rfl
  have lh9 : y4.2.length = x0.Keys.length := lh8
  refine sa _ rfl hk rfl rfl rfl fun a hk => ?_
  show wpList _ _ _ [] _ _
  refine wpList_nil ?_
  refine hK3 _ _ ?_
  apply wp_seq_k; intro K10 hK10
  apply wp_region_lit
  refine sf ⟨b2, 1, none⟩ rfl hk rfl rfl rfl fd95_1 rfl fun a hk => ?_
  refine sln [.slice A0_1 x0.Oram.Pos.length p0_1, .slice A0_2 x0.Oram.Stash.length p0_2, .slice A0_3 x0.Oram.Buckets.length p0_3] rfl hk rfl rfl rfl ag88 sz88 (box_part hs (k := 5) rfl rfl) fun a hk => ?_
  refine sm _ rfl hk rfl rfl rfl fun a hk => ?_
  obtain ⟨y11, h12, H⟩ := bind_some H
  refine sc rfl en123 hk rfl rfl rfl (laws_markOram_t _ x0.Oram A0_1 p0_1 _ v0_1 A0_2 p0_2 _ v0_2 A0_3 p0_3 _ v0_3 y4.1 ((hs.hand [(1, 2), (2, 3), (3, 4)] rfl).dpick [] rfl) _ h12) ?_
  rintro _ w ⟨k13, k16, k19, rfl, ⟨o14, lh15⟩, ⟨o17, lh18⟩, ⟨o20, lh21⟩, hG⟩ a hk
  have hs := hs.back [(1, 2), (2, 3), (3, 4)] rfl hG [2, 3, 4] rfl
  have lh22 : y11.2.1.length = x0.Oram.Pos.length := lh15
  have lh23 : y11.2.2.1.length = x0.Oram.Stash.length := lh18
  have lh24 : y11.2.2.2.length = x0.Oram.Buckets.length := lh21
  refine sa _ rfl hk rfl rfl rfl fun a hk => ?_
  show wpList _ _ _ [] _ _
  refine wpList_nil ?_
  refine hK10 _ _ ?_
  apply wp_seq_k; intro K25 hK25
  apply wp_region_lit
  refine sm _ rfl hk rfl rfl rfl fun a hk => ?_
  refine sa _ rfl hk rfl rfl rfl fun a hk => ?_
  show wpList _ _ _ [] _ _
  refine wpList_nil ?_
  refine hK25 _ _ ?_
  refine wp_ret ?_
  obtain rfl := Option.some.inj H
  exact fin hk _ [(.int .i64 y11.1)] rfl ⟨rfl, trivial⟩ ⟨_, _, _, _, rfl, ⟨o7, lh9⟩, ⟨o14, lh22⟩, ⟨o17, lh23⟩, ⟨o20, lh24⟩, (hs.pick [(0, 1), (1, 2), (2, 3), (3, 4)] rfl).dnil⟩

noncomputable def laws_heldIntS.s0 (l0 : List Int) (u6 : Int) (u7 : Int) : Option ((Int × Int) ⊕ Ex (Int) (Int)) :=
  (bif (decide (u7 < (l0.length : Int))) then (if 0 ≤ u7 ∧ u7 < (l0.length : Int) then (bif ((l0.getD u7.toNat 0) != u6) then (some (.inr (.ret (-1)))) else (some (.inl ((w64 (u6 + 1)), (w64 (u7 + 1)))))) else none) else (some (.inr (.out u6))))
noncomputable def laws_heldIntS.f (l0 : List Int) (x1 : Int) : Option (Int) :=
  ((loopO (fun s => laws_heldIntS.s0 l0 s.1 s.2) (x1, 0)).bind fun o => match o with | .out u8 => (some u8) | .ret r => (some r))
set_option maxRecDepth 100000 in
set_option maxHeartbeats 0 in
theorem laws_heldIntS_t (w0 : World) (A0_ : Option Addr) (p0_ : Nat) (l0 : List Int) (k0_ : Chunk) (v0_ : View (Lay.int .i64) A0_ p0_ l0 k0_) (w0_ : Has w0 k0_) (x1 : Int) (r : Int) (H : laws_heldIntS.f l0 x1 = some r) :
    Calls Try.prog 21 #[.slice A0_ l0.length p0_, .int .i64 x1] w0 (Ret (fun v w => v = .int .i64 r ∧ Sat [] w0 w [] [])) := by
  have hs : Sat [] w0 w0 [(1, k0_)] [] := Sat.init w0 [(1, k0_)] [] (by simp only [List.mem_cons, List.not_mem_nil, or_false]; rintro x (rfl) <;> assumption) (by simp) List.nodup_nil (by simp [blks])
  unfold laws_heldIntS.f at H
  refine enter Try.func21 rfl Try.ntmps21 rfl fun a hk => ?_
  apply wp_seq_k; intro K1 hK1
  apply wp_region_lit
  refine sa _ rfl hk rfl rfl rfl fun a hk => ?_
  show wpList _ _ _ [] _ _
  refine wpList_nil ?_
  refine hK1 _ _ ?_
  apply wp_seq_k; intro K2 hK2
  apply wp_seq_k; intro K3 hK3
  apply wp_region_lit
  refine sa _ rfl hk rfl rfl rfl fun a hk => ?_
  show wpList _ _ _ [] _ _
  refine wpList_nil ?_
  refine hK3 _ _ ?_
  obtain ⟨o9, h10, HL11⟩ := bind_some H
  clear H
  obtain ⟨R12, hR12⟩ : ∃ R : Act → World → Prop, R = fun a w => ∃ (u8 : Int), o9 = .out u8 ∧ Kn [(1, (.int .i64 u8))] 21 a ∧ Sat [] w0 w [(1, k0_)] [] := ⟨_, rfl⟩
  refine wp_cutq R12 ?_ ?_
  · refine wp_block ?_
    obtain ⟨fu14, h10⟩ := loopO_some h10
    obtain ⟨I13, hI13⟩ : ∃ I : Nat → Act → World → Prop, I = fun fu a w => ∃ (u6 : Int) (u7 : Int), loopN (fun s => laws_heldIntS.s0 l0 s.1 s.2) fu (u6, u7) = some o9 ∧ Kn [(0, (.slice A0_ l0.length p0_)), (1, (.int .i64 u6)), (5, (.int .i64 u7))] 21 a ∧ Sat [] w0 w [(1, k0_)] [] := ⟨_, rfl⟩
    refine wp_loop_ghost I13 fu14 ?_ ?_
    · rw [hI13]
      exact ⟨x1, 0, h10, (hk.c 0 rfl (hk.c 1 rfl (hk.c 5 rfl hk.k))), (hs.pick [] rfl)⟩
    · clear h10 hk hs
      intro fu14 a w hI0
      rw [hI13] at hI0
      obtain ⟨u6, u7, hi, hk, hs⟩ := hI0
      obtain ⟨x15, H, h16⟩ := loop_round hi
      try dsimp only at H
      unfold laws_heldIntS.s0 at H
      apply wp_seq_k; intro K17 hK17
      apply wp_seq_k; intro K18 hK18
      apply wp_region_lit
      refine sm _ rfl hk rfl rfl rfl fun a hk => ?_
      refine sm _ rfl hk rfl rfl rfl fun a hk => ?_
      refine sle rfl hk rfl rfl rfl un27 fun a hk => ?_
      refine sv (.bool (decide (u7 < (l0.length : Int)))) hk rfl rfl rfl fun a hk => ?_
      show wpList _ _ _ [] _ _
      refine wpList_nil ?_
      refine hK18 _ _ ?_
      rcases cond_some H with ⟨c19, H⟩ | ⟨c19, H⟩
      · have hk := hk.lit 9 c19 rfl
        refine cnd_true hk rfl rfl ?_
        refine wp_skip ?_
        refine hK17 _ _ ?_
        apply wp_seq_k; intro K20 hK20
        refine wp_block ?_
        apply wp_seq_k; intro K21 hK21
        apply wp_seq_k; intro K22 hK22
        apply wp_region_lit
        refine sm _ rfl hk rfl rfl rfl fun a hk => ?_
        refine sm _ rfl hk rfl rfl rfl fun a hk => ?_
        rcases ite_some H with ⟨c23, H⟩ | ⟨_, H⟩
        rotate_left
        · cases H
        obtain ⟨b24, q25, hAc23⟩ := (v0_).some_ u7 c23.1 c23.2
        refine si rfl hk rfl rfl rfl rfl un27 sz3 c23.1 c23.2 hAc23 fun a hk => ?_
        obtain ⟨_, rfl, e26⟩ := (v0_).at_ 0 u7 c23.1 c23.2
        refine sl (v := (.int .i64 (l0.getD u7.toNat 0))) rfl hk rfl rfl rfl ag3 ((e26 0 _ rfl).cell (hs.hasD (k := 1) rfl)) fun a hk => ?_
        refine sm _ rfl hk rfl rfl rfl fun a hk => ?_
        refine sv (.bool ((l0.getD u7.toNat 0) != u6)) hk rfl rfl rfl fun a hk => ?_
        show wpList _ _ _ [] _ _
        refine wpList_nil ?_
        refine hK22 _ _ ?_
        rcases cond_some H with ⟨c27, H⟩ | ⟨c27, H⟩
        · have hk := hk.lit 17 c27 rfl
          refine cnd_true hk rfl rfl ?_
          apply wp_seq_k; intro K28 hK28
          apply wp_region_lit
          refine sa _ rfl hk rfl rfl rfl fun a hk => ?_
          show wpList _ _ _ [] _ _
          refine wpList_nil ?_
          refine hK28 _ _ ?_
          refine wp_ret ?_
          obtain rfl := Option.some.inj H
          have ho9 := h16
          try dsimp only at ho9
          subst ho9
          have H := HL11
          try dsimp only at H
          obtain rfl := Option.some.inj H
          exact fin hk _ [(.int .i64 (-1))] rfl ⟨rfl, trivial⟩ ⟨rfl, (hs.pick [] rfl).dnil⟩
        · have hk := hk.lit 17 c27 rfl
          refine cnd_false hk rfl rfl ?_
          refine wp_skip ?_
          refine hK21 _ _ ?_
          apply wp_region_lit
          refine sm _ rfl hk rfl rfl rfl fun a hk => ?_
          refine sv (.int .i64 (w64 (u6 + 1))) hk rfl rfl rfl fun a hk => ?_
          refine sa _ rfl hk rfl rfl rfl fun a hk => ?_
          show wpList _ _ _ [] _ _
          refine wpList_nil ?_
          refine hK20 _ _ ?_
          apply wp_region_lit
          refine sm _ rfl hk rfl rfl rfl fun a hk => ?_
          refine sv (.int .i64 (w64 (u7 + 1))) hk rfl rfl rfl fun a hk => ?_
          refine sa _ rfl hk rfl rfl rfl fun a hk => ?_
          show wpList _ _ _ [] _ _
          refine wpList_nil ?_
          obtain rfl := Option.some.inj H
          obtain ⟨m29, hmm29, h16⟩ := h16
          show ∃ n', n' < _ ∧ I13 n' _ _
          refine ⟨m29, hmm29, ?_⟩
          rw [hI13]
          exact ⟨(w64 (u6 + 1)), (w64 (u7 + 1)), h16, (hk.c 0 rfl (hk.c 1 rfl (hk.c 5 rfl hk.k))), (hs.pick [] rfl)⟩
      · have hk := hk.lit 9 c19 rfl
        refine cnd_false hk rfl rfl ?_
        refine wp_exit ?_
        obtain rfl := Option.some.inj H
        show R12 _ _
        rw [hR12]
        exact ⟨u6, h16.symm, (hk.c 1 rfl hk.k), (hs.pick [] rfl)⟩
  · intro a w hR0
    rw [hR12] at hR0
    obtain ⟨u8, rfl, hk, hs⟩ := hR0
    have H := HL11
    try dsimp only at H
    refine hK2 _ _ ?_
    apply wp_seq_k; intro K30 hK30
    apply wp_region_lit
    refine sm _ rfl hk rfl rfl rfl fun a hk => ?_
    refine sa _ rfl hk rfl rfl rfl fun a hk => ?_
    show wpList _ _ _ [] _ _
    refine wpList_nil ?_
    refine hK30 _ _ ?_
    refine wp_ret ?_
    obtain rfl := Option.some.inj H
    exact fin hk _ [(.int .i64 u8)] rfl ⟨rfl, trivial⟩ ⟨rfl, (hs.pick [] rfl).dnil⟩

noncomputable def laws_heldBlockS.s0 (l0 : List S_Block) (u6 : Int) (u7 : Int) : Option ((Int × Int) ⊕ Ex (Int) (Int)) :=
  (bif (decide (u7 < (l0.length : Int))) then (if 0 ≤ u7 ∧ u7 < (l0.length : Int) then (bif (((l0.getD u7.toNat z_Block).Id) != u6) then (some (.inr (.ret (-1)))) else (if 0 ≤ u7 ∧ u7 < (l0.length : Int) then (bif (((l0.getD u7.toNat z_Block).Leaf) != (w64 (u6 + 1))) then (some (.inr (.ret (-1)))) else (if 0 ≤ u7 ∧ u7 < (l0.length : Int) then (bif (((l0.getD u7.toNat z_Block).Value) != (w64 ((w64 (u6 + 1)) + 1))) then (some (.inr (.ret (-1)))) else (some (.inl ((w64 ((w64 ((w64 (u6 + 1)) + 1)) + 1)), (w64 (u7 + 1)))))) else none)) else none)) else none) else (some (.inr (.out u6))))
noncomputable def laws_heldBlockS.f (l0 : List S_Block) (x1 : Int) : Option (Int) :=
  ((loopO (fun s => laws_heldBlockS.s0 l0 s.1 s.2) (x1, 0)).bind fun o => match o with | .out u8 => (some u8) | .ret r => (some r))
set_option maxRecDepth 100000 in
set_option maxHeartbeats 0 in
theorem laws_heldBlockS_t (w0 : World) (A0_ : Option Addr) (p0_ : Nat) (l0 : List S_Block) (k0_ : Chunk) (v0_ : View L_Block A0_ p0_ l0 k0_) (w0_ : Has w0 k0_) (x1 : Int) (r : Int) (H : laws_heldBlockS.f l0 x1 = some r) :
    Calls Try.prog 165 #[.slice A0_ l0.length p0_, .int .i64 x1] w0 (Ret (fun v w => v = .int .i64 r ∧ Sat [] w0 w [] [])) := by
  have hs : Sat [] w0 w0 [(1, k0_)] [] := Sat.init w0 [(1, k0_)] [] (by simp only [List.mem_cons, List.not_mem_nil, or_false]; rintro x (rfl) <;> assumption) (by simp) List.nodup_nil (by simp [blks])
  unfold laws_heldBlockS.f at H
  refine enter Try.func165 rfl Try.ntmps165 rfl fun a hk => ?_
  apply wp_seq_k; intro K1 hK1
  apply wp_region_lit
  refine sa _ rfl hk rfl rfl rfl fun a hk => ?_
  show wpList _ _ _ [] _ _
  refine wpList_nil ?_
  refine hK1 _ _ ?_
  apply wp_seq_k; intro K2 hK2
  apply wp_seq_k; intro K3 hK3
  apply wp_region_lit
  refine sa _ rfl hk rfl rfl rfl fun a hk => ?_
  show wpList _ _ _ [] _ _
  refine wpList_nil ?_
  refine hK3 _ _ ?_
  obtain ⟨o9, h10, HL11⟩ := bind_some H
  clear H
  obtain ⟨R12, hR12⟩ : ∃ R : Act → World → Prop, R = fun a w => ∃ (u8 : Int), o9 = .out u8 ∧ Kn [(1, (.int .i64 u8))] 40 a ∧ Sat [] w0 w [(1, k0_)] [] := ⟨_, rfl⟩
  refine wp_cutq R12 ?_ ?_
  · refine wp_block ?_
    obtain ⟨fu14, h10⟩ := loopO_some h10
    obtain ⟨I13, hI13⟩ : ∃ I : Nat → Act → World → Prop, I = fun fu a w => ∃ (u6 : Int) (u7 : Int), loopN (fun s => laws_heldBlockS.s0 l0 s.1 s.2) fu (u6, u7) = some o9 ∧ Kn [(0, (.slice A0_ l0.length p0_)), (1, (.int .i64 u6)), (5, (.int .i64 u7))] 40 a ∧ Sat [] w0 w [(1, k0_)] [] := ⟨_, rfl⟩
    refine wp_loop_ghost I13 fu14 ?_ ?_
    · rw [hI13]
      exact ⟨x1, 0, h10, (hk.c 0 rfl (hk.c 1 rfl (hk.c 5 rfl hk.k))), (hs.pick [] rfl)⟩
    · clear h10 hk hs
      intro fu14 a w hI0
      rw [hI13] at hI0
      obtain ⟨u6, u7, hi, hk, hs⟩ := hI0
      obtain ⟨x15, H, h16⟩ := loop_round hi
      try dsimp only at H
      unfold laws_heldBlockS.s0 at H
      apply wp_seq_k; intro K17 hK17
      apply wp_seq_k; intro K18 hK18
      apply wp_region_lit
      refine sm _ rfl hk rfl rfl rfl fun a hk => ?_
      refine sm _ rfl hk rfl rfl rfl fun a hk => ?_
      refine sle rfl hk rfl rfl rfl un85 fun a hk => ?_
      refine sv (.bool (decide (u7 < (l0.length : Int)))) hk rfl rfl rfl fun a hk => ?_
      show wpList _ _ _ [] _ _
      refine wpList_nil ?_
      refine hK18 _ _ ?_
      rcases cond_some H with ⟨c19, H⟩ | ⟨c19, H⟩
      · have hk := hk.lit 9 c19 rfl
        refine cnd_true hk rfl rfl ?_
        refine wp_skip ?_
        refine hK17 _ _ ?_
        apply wp_seq_k; intro K20 hK20
        refine wp_block ?_
        apply wp_seq_k; intro K21 hK21
        apply wp_seq_k; intro K22 hK22
        apply wp_region_lit
        refine sm _ rfl hk rfl rfl rfl fun a hk => ?_
        refine sm _ rfl hk rfl rfl rfl fun a hk => ?_
        rcases ite_some H with ⟨c23, H⟩ | ⟨_, H⟩
        rotate_left
        · cases H
        obtain ⟨b24, q25, hAc23⟩ := (v0_).some_ u7 c23.1 c23.2
        refine si rfl hk rfl rfl rfl rfl un85 sz146 c23.1 c23.2 hAc23 fun a hk => ?_
        refine sf (padd A0_ (u7.toNat * 3 + 0)) rfl hk rfl rfl rfl fd146_0 (padd_add _ _ _) fun a hk => ?_
        obtain ⟨_, rfl, e26⟩ := (v0_).at_ z_Block u7 c23.1 c23.2
        refine sl (v := (.int .i64 ((l0.getD u7.toNat z_Block).Id))) rfl hk rfl rfl rfl ag3 ((e26 0 _ rfl).cell (hs.hasD (k := 1) rfl)) fun a hk => ?_
        refine sm _ rfl hk rfl rfl rfl fun a hk => ?_
        refine sv (.bool (((l0.getD u7.toNat z_Block).Id) != u6)) hk rfl rfl rfl fun a hk => ?_
        show wpList _ _ _ [] _ _
        refine wpList_nil ?_
        refine hK22 _ _ ?_
        rcases cond_some H with ⟨c27, H⟩ | ⟨c27, H⟩
        · have hk := hk.lit 18 c27 rfl
          refine cnd_true hk rfl rfl ?_
          apply wp_seq_k; intro K28 hK28
          apply wp_region_lit
          refine sa _ rfl hk rfl rfl rfl fun a hk => ?_
          show wpList _ _ _ [] _ _
          refine wpList_nil ?_
          refine hK28 _ _ ?_
          refine wp_ret ?_
          obtain rfl := Option.some.inj H
          have ho9 := h16
          try dsimp only at ho9
          subst ho9
          have H := HL11
          try dsimp only at H
          obtain rfl := Option.some.inj H
          exact fin hk _ [(.int .i64 (-1))] rfl ⟨rfl, trivial⟩ ⟨rfl, (hs.pick [] rfl).dnil⟩
        · have hk := hk.lit 18 c27 rfl
          refine cnd_false hk rfl rfl ?_
          refine wp_skip ?_
          refine hK21 _ _ ?_
          apply wp_seq_k; intro K29 hK29
          apply wp_region_lit
          refine sm _ rfl hk rfl rfl rfl fun a hk => ?_
          refine sv (.int .i64 (w64 (u6 + 1))) hk rfl rfl rfl fun a hk => ?_
          refine sa _ rfl hk rfl rfl rfl fun a hk => ?_
          show wpList _ _ _ [] _ _
          refine wpList_nil ?_
          refine hK29 _ _ ?_
          apply wp_seq_k; intro K30 hK30
          apply wp_seq_k; intro K31 hK31
          apply wp_region_lit
          refine sm _ rfl hk rfl rfl rfl fun a hk => ?_
          refine sm _ rfl hk rfl rfl rfl fun a hk => ?_
          rcases ite_some H with ⟨c32, H⟩ | ⟨_, H⟩
          rotate_left
          · cases H
          obtain ⟨b33, q34, hAc32⟩ := (v0_).some_ u7 c32.1 c32.2
          refine si rfl hk rfl rfl rfl rfl un85 sz146 c32.1 c32.2 hAc32 fun a hk => ?_
          refine sf (padd A0_ (u7.toNat * 3 + 1)) rfl hk rfl rfl rfl fd146_1 (padd_add _ _ _) fun a hk => ?_
          obtain ⟨_, rfl, e35⟩ := (v0_).at_ z_Block u7 c32.1 c32.2
          refine sl (v := (.int .i64 ((l0.getD u7.toNat z_Block).Leaf))) rfl hk rfl rfl rfl ag3 ((e35 1 _ rfl).cell (hs.hasD (k := 1) rfl)) fun a hk => ?_
          refine sm _ rfl hk rfl rfl rfl fun a hk => ?_
          refine sv (.bool (((l0.getD u7.toNat z_Block).Leaf) != (w64 (u6 + 1)))) hk rfl rfl rfl fun a hk => ?_
          show wpList _ _ _ [] _ _
          refine wpList_nil ?_
          refine hK31 _ _ ?_
          rcases cond_some H with ⟨c36, H⟩ | ⟨c36, H⟩
          · have hk := hk.lit 27 c36 rfl
            refine cnd_true hk rfl rfl ?_
            apply wp_seq_k; intro K37 hK37
            apply wp_region_lit
            refine sa _ rfl hk rfl rfl rfl fun a hk => ?_
            show wpList _ _ _ [] _ _
            refine wpList_nil ?_
            refine hK37 _ _ ?_
            refine wp_ret ?_
            obtain rfl := Option.some.inj H
            have ho9 := h16
            try dsimp only at ho9
            subst ho9
            have H := HL11
            try dsimp only at H
            obtain rfl := Option.some.inj H
            exact fin hk _ [(.int .i64 (-1))] rfl ⟨rfl, trivial⟩ ⟨rfl, (hs.pick [] rfl).dnil⟩
          · have hk := hk.lit 27 c36 rfl
            refine cnd_false hk rfl rfl ?_
            refine wp_skip ?_
            refine hK30 _ _ ?_
            apply wp_seq_k; intro K38 hK38
            apply wp_region_lit
            refine sm _ rfl hk rfl rfl rfl fun a hk => ?_
            refine sv (.int .i64 (w64 ((w64 (u6 + 1)) + 1))) hk rfl rfl rfl fun a hk => ?_
            refine sa _ rfl hk rfl rfl rfl fun a hk => ?_
            show wpList _ _ _ [] _ _
            refine wpList_nil ?_
            refine hK38 _ _ ?_
            apply wp_seq_k; intro K39 hK39
            apply wp_seq_k; intro K40 hK40
            apply wp_region_lit
            refine sm _ rfl hk rfl rfl rfl fun a hk => ?_
            refine sm _ rfl hk rfl rfl rfl fun a hk => ?_
            rcases ite_some H with ⟨c41, H⟩ | ⟨_, H⟩
            rotate_left
            · cases H
            obtain ⟨b42, q43, hAc41⟩ := (v0_).some_ u7 c41.1 c41.2
            refine si rfl hk rfl rfl rfl rfl un85 sz146 c41.1 c41.2 hAc41 fun a hk => ?_
            refine sf (padd A0_ (u7.toNat * 3 + 2)) rfl hk rfl rfl rfl fd146_2 (padd_add _ _ _) fun a hk => ?_
            obtain ⟨_, rfl, e44⟩ := (v0_).at_ z_Block u7 c41.1 c41.2
            refine sl (v := (.int .i64 ((l0.getD u7.toNat z_Block).Value))) rfl hk rfl rfl rfl ag3 ((e44 2 _ rfl).cell (hs.hasD (k := 1) rfl)) fun a hk => ?_
            refine sm _ rfl hk rfl rfl rfl fun a hk => ?_
            refine sv (.bool (((l0.getD u7.toNat z_Block).Value) != (w64 ((w64 (u6 + 1)) + 1)))) hk rfl rfl rfl fun a hk => ?_
            show wpList _ _ _ [] _ _
            refine wpList_nil ?_
            refine hK40 _ _ ?_
            rcases cond_some H with ⟨c45, H⟩ | ⟨c45, H⟩
            · have hk := hk.lit 36 c45 rfl
              refine cnd_true hk rfl rfl ?_
              apply wp_seq_k; intro K46 hK46
              apply wp_region_lit
              refine sa _ rfl hk rfl rfl rfl fun a hk => ?_
              show wpList _ _ _ [] _ _
              refine wpList_nil ?_
              refine hK46 _ _ ?_
              refine wp_ret ?_
              obtain rfl := Option.some.inj H
              have ho9 := h16
              try dsimp only at ho9
              subst ho9
              have H := HL11
              try dsimp only at H
              obtain rfl := Option.some.inj H
              exact fin hk _ [(.int .i64 (-1))] rfl ⟨rfl, trivial⟩ ⟨rfl, (hs.pick [] rfl).dnil⟩
            · have hk := hk.lit 36 c45 rfl
              refine cnd_false hk rfl rfl ?_
              refine wp_skip ?_
              refine hK39 _ _ ?_
              apply wp_region_lit
              refine sm _ rfl hk rfl rfl rfl fun a hk => ?_
              refine sv (.int .i64 (w64 ((w64 ((w64 (u6 + 1)) + 1)) + 1))) hk rfl rfl rfl fun a hk => ?_
              refine sa _ rfl hk rfl rfl rfl fun a hk => ?_
              show wpList _ _ _ [] _ _
              refine wpList_nil ?_
              refine hK20 _ _ ?_
              apply wp_region_lit
              refine sm _ rfl hk rfl rfl rfl fun a hk => ?_
              refine sv (.int .i64 (w64 (u7 + 1))) hk rfl rfl rfl fun a hk => ?_
              refine sa _ rfl hk rfl rfl rfl fun a hk => ?_
              show wpList _ _ _ [] _ _
              refine wpList_nil ?_
              obtain rfl := Option.some.inj H
              obtain ⟨m47, hmm47, h16⟩ := h16
              show ∃ n', n' < _ ∧ I13 n' _ _
              refine ⟨m47, hmm47, ?_⟩
              rw [hI13]
              exact ⟨(w64 ((w64 ((w64 (u6 + 1)) + 1)) + 1)), (w64 (u7 + 1)), h16, (hk.c 0 rfl (hk.c 1 rfl (hk.c 5 rfl hk.k))), (hs.pick [] rfl)⟩
      · have hk := hk.lit 9 c19 rfl
        refine cnd_false hk rfl rfl ?_
        refine wp_exit ?_
        obtain rfl := Option.some.inj H
        show R12 _ _
        rw [hR12]
        exact ⟨u6, h16.symm, (hk.c 1 rfl hk.k), (hs.pick [] rfl)⟩
  · intro a w hR0
    rw [hR12] at hR0
    obtain ⟨u8, rfl, hk, hs⟩ := hR0
    have H := HL11
    try dsimp only at H
    refine hK2 _ _ ?_
    apply wp_seq_k; intro K48 hK48
    apply wp_region_lit
    refine sm _ rfl hk rfl rfl rfl fun a hk => ?_
    refine sa _ rfl hk rfl rfl rfl fun a hk => ?_
    show wpList _ _ _ [] _ _
    refine wpList_nil ?_
    refine hK48 _ _ ?_
    refine wp_ret ?_
    obtain rfl := Option.some.inj H
    exact fin hk _ [(.int .i64 u8)] rfl ⟨rfl, trivial⟩ ⟨rfl, (hs.pick [] rfl).dnil⟩

noncomputable def laws_heldBlockSS.s0 (l0 : List (List S_Block)) (u6 : Int) (u7 : Int) : Option ((Int × Int) ⊕ Ex (Int) (Int)) :=
  (bif (decide (u7 < (l0.length : Int))) then (if 0 ≤ u7 ∧ u7 < (l0.length : Int) then ((laws_heldBlockS.f (l0.getD u7.toNat []) u6).bind fun y29 => (bif (decide (y29 < 0)) then (some (.inr (.ret (-1)))) else (some (.inl (y29, (w64 (u7 + 1))))))) else none) else (some (.inr (.out u6))))
noncomputable def laws_heldBlockSS.f (l0 : List (List S_Block)) (x1 : Int) : Option (Int) :=
  ((loopO (fun s => laws_heldBlockSS.s0 l0 s.1 s.2) (x1, 0)).bind fun o => match o with | .out u8 => (some u8) | .ret r => (some r))
set_option maxRecDepth 100000 in
set_option maxHeartbeats 0 in
theorem laws_heldBlockSS_t (w0 : World) (A0_ : Option Addr) (p0_ : Nat) (l0 : List (List S_Block)) (k0_ : Chunk) (v0_ : View (Lay.sl L_Block 146) A0_ p0_ l0 k0_) (w0_ : Has w0 k0_) (x1 : Int) (r : Int) (H : laws_heldBlockSS.f l0 x1 = some r) :
    Calls Try.prog 166 #[.slice A0_ l0.length p0_, .int .i64 x1] w0 (Ret (fun v w => v = .int .i64 r ∧ Sat [] w0 w [] [])) := by
  have hs : Sat [] w0 w0 [(1, k0_)] [] := Sat.init w0 [(1, k0_)] [] (by simp only [List.mem_cons, List.not_mem_nil, or_false]; rintro x (rfl) <;> assumption) (by simp) List.nodup_nil (by simp [blks])
  unfold laws_heldBlockSS.f at H
  refine enter Try.func166 rfl Try.ntmps166 rfl fun a hk => ?_
  apply wp_seq_k; intro K1 hK1
  apply wp_region_lit
  refine sa _ rfl hk rfl rfl rfl fun a hk => ?_
  show wpList _ _ _ [] _ _
  refine wpList_nil ?_
  refine hK1 _ _ ?_
  apply wp_seq_k; intro K2 hK2
  apply wp_seq_k; intro K3 hK3
  apply wp_region_lit
  refine sa _ rfl hk rfl rfl rfl fun a hk => ?_
  show wpList _ _ _ [] _ _
  refine wpList_nil ?_
  refine hK3 _ _ ?_
  obtain ⟨o9, h10, HL11⟩ := bind_some H
  clear H
  obtain ⟨R12, hR12⟩ : ∃ R : Act → World → Prop, R = fun a w => ∃ (u8 : Int), o9 = .out u8 ∧ Kn [(1, (.int .i64 u8))] 21 a ∧ Sat [] w0 w [(1, k0_)] [] := ⟨_, rfl⟩
  refine wp_cutq R12 ?_ ?_
  · refine wp_block ?_
    obtain ⟨fu14, h10⟩ := loopO_some h10
    obtain ⟨I13, hI13⟩ : ∃ I : Nat → Act → World → Prop, I = fun fu a w => ∃ (u6 : Int) (u7 : Int), loopN (fun s => laws_heldBlockSS.s0 l0 s.1 s.2) fu (u6, u7) = some o9 ∧ Kn [(0, (.slice A0_ l0.length p0_)), (1, (.int .i64 u6)), (5, (.int .i64 u7))] 21 a ∧ Sat [] w0 w [(1, k0_)] [] := ⟨_, rfl⟩
    refine wp_loop_ghost I13 fu14 ?_ ?_
    · rw [hI13]
      exact ⟨x1, 0, h10, (hk.c 0 rfl (hk.c 1 rfl (hk.c 5 rfl hk.k))), (hs.pick [] rfl)⟩
    · clear h10 hk hs
      intro fu14 a w hI0
      rw [hI13] at hI0
      obtain ⟨u6, u7, hi, hk, hs⟩ := hI0
      obtain ⟨x15, H, h16⟩ := loop_round hi
      try dsimp only at H
      unfold laws_heldBlockSS.s0 at H
      apply wp_seq_k; intro K17 hK17
      apply wp_seq_k; intro K18 hK18
      apply wp_region_lit
      refine sm _ rfl hk rfl rfl rfl fun a hk => ?_
      refine sm _ rfl hk rfl rfl rfl fun a hk => ?_
      refine sle rfl hk rfl rfl rfl un86 fun a hk => ?_
      refine sv (.bool (decide (u7 < (l0.length : Int)))) hk rfl rfl rfl fun a hk => ?_
      show wpList _ _ _ [] _ _
      refine wpList_nil ?_
      refine hK18 _ _ ?_
      rcases cond_some H with ⟨c19, H⟩ | ⟨c19, H⟩
      · have hk := hk.lit 9 c19 rfl
        refine cnd_true hk rfl rfl ?_
        refine wp_skip ?_
        refine hK17 _ _ ?_
        apply wp_seq_k; intro K20 hK20
        refine wp_block ?_
        apply wp_seq_k; intro K21 hK21
        apply wp_region_lit
        refine sm _ rfl hk rfl rfl rfl fun a hk => ?_
        refine sm _ rfl hk rfl rfl rfl fun a hk => ?_
        rcases ite_some H with ⟨c22, H⟩ | ⟨_, H⟩
        rotate_left
        · cases H
        obtain ⟨b23, q24, hAc22⟩ := (v0_).some_ u7 c22.1 c22.2
        refine si rfl hk rfl rfl rfl rfl un86 sz85 c22.1 c22.2 hAc22 fun a hk => ?_
        obtain ⟨_, ⟨_, rfl, A26, p27, rfl, v28⟩, e25⟩ := (v0_).at_ [] u7 c22.1 c22.2
        refine sl (v := (.slice A26 (l0.getD u7.toNat []).length p27)) rfl hk rfl rfl rfl ag85 ((e25 0 _ rfl).cell (hs.hasD (k := 1) rfl)) fun a hk => ?_
        refine sm _ rfl hk rfl rfl rfl fun a hk => ?_
        obtain ⟨y29, h30, H⟩ := bind_some H
        refine sc rfl en165 hk rfl rfl rfl (laws_heldBlockS_t _ A26 p27 (l0.getD u7.toNat []) _ v28 (hs.hasD (k := 1) rfl) u6 _ h30) ?_
        rintro _ w ⟨rfl, hG⟩ a hk
        have hs := hs.call0 hG
        refine sa _ rfl hk rfl rfl rfl fun a hk => ?_
        show wpList _ _ _ [] _ _
        refine wpList_nil ?_
        refine hK21 _ _ ?_
        apply wp_seq_k; intro K31 hK31
        apply wp_region_lit
        refine sm _ rfl hk rfl rfl rfl fun a hk => ?_
        refine sv (.bool (decide (y29 < 0))) hk rfl rfl rfl fun a hk => ?_
        show wpList _ _ _ [] _ _
        refine wpList_nil ?_
        refine hK31 _ _ ?_
        rcases cond_some H with ⟨c32, H⟩ | ⟨c32, H⟩
        · have hk := hk.lit 19 c32 rfl
          refine cnd_true hk rfl rfl ?_
          apply wp_seq_k; intro K33 hK33
          apply wp_region_lit
          refine sa _ rfl hk rfl rfl rfl fun a hk => ?_
          show wpList _ _ _ [] _ _
          refine wpList_nil ?_
          refine hK33 _ _ ?_
          refine wp_ret ?_
          obtain rfl := Option.some.inj H
          have ho9 := h16
          try dsimp only at ho9
          subst ho9
          have H := HL11
          try dsimp only at H
          obtain rfl := Option.some.inj H
          exact fin hk _ [(.int .i64 (-1))] rfl ⟨rfl, trivial⟩ ⟨rfl, (hs.pick [] rfl).dnil⟩
        · have hk := hk.lit 19 c32 rfl
          refine cnd_false hk rfl rfl ?_
          refine wp_skip ?_
          refine hK20 _ _ ?_
          apply wp_region_lit
          refine sm _ rfl hk rfl rfl rfl fun a hk => ?_
          refine sv (.int .i64 (w64 (u7 + 1))) hk rfl rfl rfl fun a hk => ?_
          refine sa _ rfl hk rfl rfl rfl fun a hk => ?_
          show wpList _ _ _ [] _ _
          refine wpList_nil ?_
          obtain rfl := Option.some.inj H
          obtain ⟨m34, hmm34, h16⟩ := h16
          show ∃ n', n' < _ ∧ I13 n' _ _
          refine ⟨m34, hmm34, ?_⟩
          rw [hI13]
          exact ⟨y29, (w64 (u7 + 1)), h16, (hk.c 0 rfl (hk.c 1 rfl (hk.c 5 rfl hk.k))), (hs.pick [] rfl)⟩
      · have hk := hk.lit 9 c19 rfl
        refine cnd_false hk rfl rfl ?_
        refine wp_exit ?_
        obtain rfl := Option.some.inj H
        show R12 _ _
        rw [hR12]
        exact ⟨u6, h16.symm, (hk.c 1 rfl hk.k), (hs.pick [] rfl)⟩
  · intro a w hR0
    rw [hR12] at hR0
    obtain ⟨u8, rfl, hk, hs⟩ := hR0
    have H := HL11
    try dsimp only at H
    refine hK2 _ _ ?_
    apply wp_seq_k; intro K35 hK35
    apply wp_region_lit
    refine sm _ rfl hk rfl rfl rfl fun a hk => ?_
    refine sa _ rfl hk rfl rfl rfl fun a hk => ?_
    show wpList _ _ _ [] _ _
    refine wpList_nil ?_
    refine hK35 _ _ ?_
    refine wp_ret ?_
    obtain rfl := Option.some.inj H
    exact fin hk _ [(.int .i64 u8)] rfl ⟨rfl, trivial⟩ ⟨rfl, (hs.pick [] rfl).dnil⟩

noncomputable def laws_heldOram.f (x0 : S_Oram) (x1 : Int) : Option (Int) :=
  ((laws_heldIntS.f x0.Pos x1).bind fun y4 => (bif (decide (y4 < 0)) then (some (-1)) else ((laws_heldBlockS.f x0.Stash y4).bind fun y11 => (bif (decide (y11 < 0)) then (some (-1)) else ((laws_heldBlockSS.f x0.Buckets y11).bind fun y18 => (bif (decide (y18 < 0)) then (some (-1)) else (some y18)))))))
set_option maxRecDepth 100000 in
set_option maxHeartbeats 0 in
theorem laws_heldOram_t (w0 : World) (x0 : S_Oram) (A0_0 : Option Addr) (p0_0 : Nat) (k0_0 : Chunk) (v0_0 : View (Lay.int .i64) A0_0 p0_0 x0.Pos k0_0) (w0_0 : Has w0 k0_0) (A0_1 : Option Addr) (p0_1 : Nat) (k0_1 : Chunk) (v0_1 : View L_Block A0_1 p0_1 x0.Stash k0_1) (w0_1 : Has w0 k0_1) (A0_2 : Option Addr) (p0_2 : Nat) (k0_2 : Chunk) (v0_2 : View (Lay.sl L_Block 146) A0_2 p0_2 x0.Buckets k0_2) (w0_2 : Has w0 k0_2) (x1 : Int) (r : Int) (H : laws_heldOram.f x0 x1 = some r) :
    Calls Try.prog 124 #[.agg #[.slice A0_0 x0.Pos.length p0_0, .slice A0_1 x0.Stash.length p0_1, .slice A0_2 x0.Buckets.length p0_2], .int .i64 x1] w0 (Ret (fun v w => v = .int .i64 r ∧ Sat [] w0 w [] [])) := by
  have hs : Sat [] w0 w0 [(1, k0_0), (2, k0_1), (3, k0_2)] [] := Sat.init w0 [(1, k0_0), (2, k0_1), (3, k0_2)] [] (by simp only [List.mem_cons, List.not_mem_nil, or_false]; rintro x (rfl | rfl | rfl) <;> assumption) (by simp) List.nodup_nil (by simp [blks])
  unfold laws_heldOram.f at H
  refine enter Try.func124 rfl Try.ntmps124 rfl fun a hk => ?_
  apply wp_seq_k; intro K1 hK1
  apply wp_region_lit
  refine sbx 4 hs rfl hk rfl rfl rfl rfl fun b2 w a hk hs => ?_
  refine sa _ rfl hk rfl rfl rfl fun a hk => ?_
  show wpList _ _ _ [] _ _
  refine wpList_nil ?_
  refine hK1 _ _ ?_
  apply wp_seq_k; intro K3 hK3
  apply wp_region_lit
  refine sf ⟨b2, 0, none⟩ rfl hk rfl rfl rfl fd88_0 rfl fun a hk => ?_
  refine sl rfl hk rfl rfl rfl ag27 (box_cell hs (k := 4) rfl rfl) fun a hk => ?_
  refine sm _ rfl hk rfl rfl rfl fun a hk => ?_
  obtain ⟨y4, h5, H⟩ := bind_some H
  refine sc rfl en21 hk rfl rfl rfl (laws_heldIntS_t _ A0_0 p0_0 x0.Pos _ v0_0 (hs.hasD (k := 1) rfl) x1 _ h5) ?_
  rintro _ w ⟨rfl, hG⟩ a hk
  have hs := hs.call0 hG
  refine sa _ rfl hk rfl rfl rfl fun a hk => ?_
  show wpList _ _ _ [] _ _
  refine wpList_nil ?_
  refine hK3 _ _ ?_
  apply wp_seq_k; intro K6 hK6
  apply wp_seq_k; intro K7 hK7
  apply wp_region_lit
  refine sm _ rfl hk rfl rfl rfl fun a hk => ?_
  refine sv (.bool (decide (y4 < 0))) hk rfl rfl rfl fun a hk => ?_
  show wpList _ _ _ [] _ _
  refine wpList_nil ?_
  refine hK7 _ _ ?_
  rcases cond_some H with ⟨c8, H⟩ | ⟨c8, H⟩
  · have hk := hk.lit 10 c8 rfl
    refine cnd_true hk rfl rfl ?_
    apply wp_seq_k; intro K9 hK9
    apply wp_region_lit
    refine sa _ rfl hk rfl rfl rfl fun a hk => ?_
    show wpList _ _ _ [] _ _
    refine wpList_nil ?_
    refine hK9 _ _ ?_
    refine wp_ret ?_
    obtain rfl := Option.some.inj H
    exact fin hk _ [(.int .i64 (-1))] rfl ⟨rfl, trivial⟩ ⟨rfl, (hs.pick [] rfl).dnil⟩
  · have hk := hk.lit 10 c8 rfl
    refine cnd_false hk rfl rfl ?_
    refine wp_skip ?_
    refine hK6 _ _ ?_
    apply wp_seq_k; intro K10 hK10
    apply wp_region_lit
    refine sf ⟨b2, 1, none⟩ rfl hk rfl rfl rfl fd88_1 rfl fun a hk => ?_
    refine sl rfl hk rfl rfl rfl ag85 (box_cell hs (k := 4) rfl rfl) fun a hk => ?_
    refine sm _ rfl hk rfl rfl rfl fun a hk => ?_
    obtain ⟨y11, h12, H⟩ := bind_some H
    refine sc rfl en165 hk rfl rfl rfl (laws_heldBlockS_t _ A0_1 p0_1 x0.Stash _ v0_1 (hs.hasD (k := 2) rfl) y4 _ h12) ?_
    rintro _ w ⟨rfl, hG⟩ a hk
    have hs := hs.call0 hG
    refine sa _ rfl hk rfl rfl rfl fun a hk => ?_
    show wpList _ _ _ [] _ _
    refine wpList_nil ?_
    refine hK10 _ _ ?_
    apply wp_seq_k; intro K13 hK13
    apply wp_seq_k; intro K14 hK14
    apply wp_region_lit
    refine sm _ rfl hk rfl rfl rfl fun a hk => ?_
    refine sv (.bool (decide (y11 < 0))) hk rfl rfl rfl fun a hk => ?_
    show wpList _ _ _ [] _ _
    refine wpList_nil ?_
    refine hK14 _ _ ?_
    rcases cond_some H with ⟨c15, H⟩ | ⟨c15, H⟩
    · have hk := hk.lit 16 c15 rfl
      refine cnd_true hk rfl rfl ?_
      apply wp_seq_k; intro K16 hK16
      apply wp_region_lit
      refine sa _ rfl hk rfl rfl rfl fun a hk => ?_
      show wpList _ _ _ [] _ _
      refine wpList_nil ?_
      refine hK16 _ _ ?_
      refine wp_ret ?_
      obtain rfl := Option.some.inj H
      exact fin hk _ [(.int .i64 (-1))] rfl ⟨rfl, trivial⟩ ⟨rfl, (hs.pick [] rfl).dnil⟩
    · have hk := hk.lit 16 c15 rfl
      refine cnd_false hk rfl rfl ?_
      refine wp_skip ?_
      refine hK13 _ _ ?_
      apply wp_seq_k; intro K17 hK17
      apply wp_region_lit
      refine sf ⟨b2, 2, none⟩ rfl hk rfl rfl rfl fd88_2 rfl fun a hk => ?_
      refine sl rfl hk rfl rfl rfl ag86 (box_cell hs (k := 4) rfl rfl) fun a hk => ?_
      refine sm _ rfl hk rfl rfl rfl fun a hk => ?_
      obtain ⟨y18, h19, H⟩ := bind_some H
      refine sc rfl en166 hk rfl rfl rfl (laws_heldBlockSS_t _ A0_2 p0_2 x0.Buckets _ v0_2 (hs.hasD (k := 3) rfl) y11 _ h19) ?_
      rintro _ w ⟨rfl, hG⟩ a hk
      have hs := hs.call0 hG
      refine sa _ rfl hk rfl rfl rfl fun a hk => ?_
      show wpList _ _ _ [] _ _
      refine wpList_nil ?_
      refine hK17 _ _ ?_
      apply wp_seq_k; intro K20 hK20
      apply wp_seq_k; intro K21 hK21
      apply wp_region_lit
      refine sm _ rfl hk rfl rfl rfl fun a hk => ?_
      refine sv (.bool (decide (y18 < 0))) hk rfl rfl rfl fun a hk => ?_
      show wpList _ _ _ [] _ _
      refine wpList_nil ?_
      refine hK21 _ _ ?_
      rcases cond_some H with ⟨c22, H⟩ | ⟨c22, H⟩
      · have hk := hk.lit 22 c22 rfl
        refine cnd_true hk rfl rfl ?_
        apply wp_seq_k; intro K23 hK23
        apply wp_region_lit
        refine sa _ rfl hk rfl rfl rfl fun a hk => ?_
        show wpList _ _ _ [] _ _
        refine wpList_nil ?_
        refine hK23 _ _ ?_
        refine wp_ret ?_
        obtain rfl := Option.some.inj H
        exact fin hk _ [(.int .i64 (-1))] rfl ⟨rfl, trivial⟩ ⟨rfl, (hs.pick [] rfl).dnil⟩
      · have hk := hk.lit 22 c22 rfl
        refine cnd_false hk rfl rfl ?_
        refine wp_skip ?_
        refine hK20 _ _ ?_
        apply wp_seq_k; intro K24 hK24
        apply wp_region_lit
        refine sm _ rfl hk rfl rfl rfl fun a hk => ?_
        refine sa _ rfl hk rfl rfl rfl fun a hk => ?_
        show wpList _ _ _ [] _ _
        refine wpList_nil ?_
        refine hK24 _ _ ?_
        refine wp_ret ?_
        obtain rfl := Option.some.inj H
        exact fin hk _ [(.int .i64 y18)] rfl ⟨rfl, trivial⟩ ⟨rfl, (hs.pick [] rfl).dnil⟩

noncomputable def laws_heldEnc.f (x0 : S_Enc) (x1 : Int) : Option (Int) :=
  ((laws_heldIntS.f x0.Keys x1).bind fun y4 => (bif (decide (y4 < 0)) then (some (-1)) else ((laws_heldOram.f x0.Oram y4).bind fun y11 => (bif (decide (y11 < 0)) then (some (-1)) else (some y11)))))
set_option maxRecDepth 100000 in
set_option maxHeartbeats 0 in
theorem laws_heldEnc_t (w0 : World) (x0 : S_Enc) (A0_0 : Option Addr) (p0_0 : Nat) (k0_0 : Chunk) (v0_0 : View (Lay.int .i64) A0_0 p0_0 x0.Keys k0_0) (w0_0 : Has w0 k0_0) (A0_1 : Option Addr) (p0_1 : Nat) (k0_1 : Chunk) (v0_1 : View (Lay.int .i64) A0_1 p0_1 x0.Oram.Pos k0_1) (w0_1 : Has w0 k0_1) (A0_2 : Option Addr) (p0_2 : Nat) (k0_2 : Chunk) (v0_2 : View L_Block A0_2 p0_2 x0.Oram.Stash k0_2) (w0_2 : Has w0 k0_2) (A0_3 : Option Addr) (p0_3 : Nat) (k0_3 : Chunk) (v0_3 : View (Lay.sl L_Block 146) A0_3 p0_3 x0.Oram.Buckets k0_3) (w0_3 : Has w0 k0_3) (x1 : Int) (r : Int) (H : laws_heldEnc.f x0 x1 = some r) :
    Calls Try.prog 62 #[.agg #[.slice A0_0 x0.Keys.length p0_0, .slice A0_1 x0.Oram.Pos.length p0_1, .slice A0_2 x0.Oram.Stash.length p0_2, .slice A0_3 x0.Oram.Buckets.length p0_3], .int .i64 x1] w0 (Ret (fun v w => v = .int .i64 r ∧ Sat [] w0 w [] [])) := by
  have hs : Sat [] w0 w0 [(1, k0_0), (2, k0_1), (3, k0_2), (4, k0_3)] [] := Sat.init w0 [(1, k0_0), (2, k0_1), (3, k0_2), (4, k0_3)] [] (by simp only [List.mem_cons, List.not_mem_nil, or_false]; rintro x (rfl | rfl | rfl | rfl) <;> assumption) (by simp) List.nodup_nil (by simp [blks])
  unfold laws_heldEnc.f at H
  refine enter Try.func62 rfl Try.ntmps62 rfl fun a hk => ?_
  apply wp_seq_k; intro K1 hK1
  apply wp_region_lit
  refine sbx 5 hs rfl hk rfl rfl rfl rfl fun b2 w a hk hs => ?_
  refine sa _ rfl hk rfl rfl rfl fun a hk => ?_
  show wpList _ _ _ [] _ _
  refine wpList_nil ?_
  refine hK1 _ _ ?_
  apply wp_seq_k; intro K3 hK3
  apply wp_region_lit
  refine sf ⟨b2, 0, none⟩ rfl hk rfl rfl rfl fd95_0 rfl fun a hk => ?_
  refine sl rfl hk rfl rfl rfl ag27 (box_cell hs (k := 5) rfl rfl) fun a hk => ?_
  refine sm _ rfl hk rfl rfl rfl fun a hk => ?_
  obtain ⟨y4, h5, H⟩ := bind_some H
  refine sc rfl en21 hk rfl rfl rfl (laws_heldIntS_t _ A0_0 p0_0 x0.Keys _ v0_0 (hs.hasD (k := 1) rfl) x1 _ h5) ?_
  rintro _ w ⟨rfl, hG⟩ a hk
  have hs := hs.call0 hG
  refine sa _ rfl hk rfl rfl rfl fun a hk => ?_
  show wpList _ _ _ [] _ _
  refine wpList_nil ?_
  refine hK3 _ _ ?_
  apply wp_seq_k; intro K6 hK6
  apply wp_seq_k; intro K7 hK7
  apply wp_region_lit
  refine sm _ rfl hk rfl rfl rfl fun a hk => ?_
  refine sv (.bool (decide (y4 < 0))) hk rfl rfl rfl fun a hk => ?_
  show wpList _ _ _ [] _ _
  refine wpList_nil ?_
  refine hK7 _ _ ?_
  rcases cond_some H with ⟨c8, H⟩ | ⟨c8, H⟩
  · have hk := hk.lit 10 c8 rfl
    refine cnd_true hk rfl rfl ?_
    apply wp_seq_k; intro K9 hK9
    apply wp_region_lit
    refine sa _ rfl hk rfl rfl rfl fun a hk => ?_
    show wpList _ _ _ [] _ _
    refine wpList_nil ?_
    refine hK9 _ _ ?_
    refine wp_ret ?_
    obtain rfl := Option.some.inj H
    exact fin hk _ [(.int .i64 (-1))] rfl ⟨rfl, trivial⟩ ⟨rfl, (hs.pick [] rfl).dnil⟩
  · have hk := hk.lit 10 c8 rfl
    refine cnd_false hk rfl rfl ?_
    refine wp_skip ?_
    refine hK6 _ _ ?_
    apply wp_seq_k; intro K10 hK10
    apply wp_region_lit
    refine sf ⟨b2, 1, none⟩ rfl hk rfl rfl rfl fd95_1 rfl fun a hk => ?_
    refine sln [.slice A0_1 x0.Oram.Pos.length p0_1, .slice A0_2 x0.Oram.Stash.length p0_2, .slice A0_3 x0.Oram.Buckets.length p0_3] rfl hk rfl rfl rfl ag88 sz88 (box_part hs (k := 5) rfl rfl) fun a hk => ?_
    refine sm _ rfl hk rfl rfl rfl fun a hk => ?_
    obtain ⟨y11, h12, H⟩ := bind_some H
    refine sc rfl en124 hk rfl rfl rfl (laws_heldOram_t _ x0.Oram A0_1 p0_1 _ v0_1 (hs.hasD (k := 2) rfl) A0_2 p0_2 _ v0_2 (hs.hasD (k := 3) rfl) A0_3 p0_3 _ v0_3 (hs.hasD (k := 4) rfl) y4 _ h12) ?_
    rintro _ w ⟨rfl, hG⟩ a hk
    have hs := hs.call0 hG
    refine sa _ rfl hk rfl rfl rfl fun a hk => ?_
    show wpList _ _ _ [] _ _
    refine wpList_nil ?_
    refine hK10 _ _ ?_
    apply wp_seq_k; intro K13 hK13
    apply wp_seq_k; intro K14 hK14
    apply wp_region_lit
    refine sm _ rfl hk rfl rfl rfl fun a hk => ?_
    refine sv (.bool (decide (y11 < 0))) hk rfl rfl rfl fun a hk => ?_
    show wpList _ _ _ [] _ _
    refine wpList_nil ?_
    refine hK14 _ _ ?_
    rcases cond_some H with ⟨c15, H⟩ | ⟨c15, H⟩
    · have hk := hk.lit 16 c15 rfl
      refine cnd_true hk rfl rfl ?_
      apply wp_seq_k; intro K16 hK16
      apply wp_region_lit
      refine sa _ rfl hk rfl rfl rfl fun a hk => ?_
      show wpList _ _ _ [] _ _
      refine wpList_nil ?_
      refine hK16 _ _ ?_
      refine wp_ret ?_
      obtain rfl := Option.some.inj H
      exact fin hk _ [(.int .i64 (-1))] rfl ⟨rfl, trivial⟩ ⟨rfl, (hs.pick [] rfl).dnil⟩
    · have hk := hk.lit 16 c15 rfl
      refine cnd_false hk rfl rfl ?_
      refine wp_skip ?_
      refine hK13 _ _ ?_
      apply wp_seq_k; intro K17 hK17
      apply wp_region_lit
      refine sm _ rfl hk rfl rfl rfl fun a hk => ?_
      refine sa _ rfl hk rfl rfl rfl fun a hk => ?_
      show wpList _ _ _ [] _ _
      refine wpList_nil ?_
      refine hK17 _ _ ?_
      refine wp_ret ?_
      obtain rfl := Option.some.inj H
      exact fin hk _ [(.int .i64 y11)] rfl ⟨rfl, trivial⟩ ⟨rfl, (hs.pick [] rfl).dnil⟩

end Go.Proofs.Ytlbbkehdfgjneaa
