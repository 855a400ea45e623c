/- The functions that FnExactMapOK reaches: for each a model and the walk that shows that the Go code comes to it. -/
import Derived.Test.YtjelagjijnpkdaaGXOpOK
namespace Go.Proofs.Ytjelagjijnpkdaa
open Go Go.Z Go.Proofs Go.MuLone Go.ChangeShapes Go.WideShapes Go.ChangeAt Go.RowKit
set_option linter.unusedVariables false
set_option linter.unusedSimpArgs false
noncomputable def laws_szEntryS.f (l0 : List S_Entry) (x1 : Int) : Option (Int) :=
  (bif (decide ((w64 (x1 - (l0.length : Int))) < 0)) then (some (-1)) else (some (w64 (x1 - (l0.length : Int)))))
theorem laws_szEntryS_t (w0 : World) (A0_ : Option Addr) (p0_ : Nat) (l0 : List S_Entry) (k0_ : Chunk) (v0_ : View L_Entry A0_ p0_ l0 k0_) (w0_ : Has w0 k0_) (x1 : Int) (r : Int) (H : laws_szEntryS.f l0 x1 = some r) :
    Calls Try.prog 16 #[.slice A0_ l0.length p0_, .int .i64 x1] w0 (Ret (fun v w => v = .int .i64 r ∧ Sat [] w0 w [] [])) := by
  have hs : Sat [] w0 w0 [(1, k0_)] [] := Sat.init w0 [(1, k0_)] [] (by simp only [List.mem_cons, List.not_mem_nil, or_false]; rintro x (rfl) <;> assumption) (by simp) List.nodup_nil (by simp [blks])
  unfold laws_szEntryS.f at H
  refine enter Try.func16 rfl Try.ntmps16 rfl fun a hk => ?_
  apply wp_seq_k; intro K1 hK1
  apply wp_region_lit
  refine sa _ rfl hk rfl rfl rfl fun a hk => ?_
  show wpList _ _ _ [] _ _
  refine wpList_nil ?_
  refine hK1 _ _ ?_
  apply wp_seq_k; intro K2 hK2
  apply wp_region_lit
  refine sm _ rfl hk rfl rfl rfl fun a hk => ?_
  refine sm _ rfl hk rfl rfl rfl fun a hk => ?_
  refine sle rfl hk rfl rfl rfl un35 fun a hk => ?_
  refine sv (.int .i64 (w64 (x1 - (l0.length : Int)))) hk rfl rfl rfl fun a hk => ?_
  refine sa _ rfl hk rfl rfl rfl fun a hk => ?_
  show wpList _ _ _ [] _ _
  refine wpList_nil ?_
  refine hK2 _ _ ?_
  apply wp_seq_k; intro K3 hK3
  apply wp_seq_k; intro K4 hK4
  apply wp_region_lit
  refine sm _ rfl hk rfl rfl rfl fun a hk => ?_
  refine sv (.bool (decide ((w64 (x1 - (l0.length : Int))) < 0))) hk rfl rfl rfl fun a hk => ?_
  show wpList _ _ _ [] _ _
  refine wpList_nil ?_
  refine hK4 _ _ ?_
  rcases cond_some H with ⟨c5, H⟩ | ⟨c5, H⟩
  · have hk := hk.lit 10 c5 rfl
    refine cnd_true hk rfl rfl ?_
    apply wp_seq_k; intro K6 hK6
    apply wp_region_lit
    refine sa _ rfl hk rfl rfl rfl fun a hk => ?_
    show wpList _ _ _ [] _ _
    refine wpList_nil ?_
    refine hK6 _ _ ?_
    refine wp_ret ?_
    obtain rfl := Option.some.inj H
    exact fin hk _ [(.int .i64 (-1))] rfl ⟨rfl, trivial⟩ ⟨rfl, (hs.pick [] rfl).dnil⟩
  · have hk := hk.lit 10 c5 rfl
    refine cnd_false hk rfl rfl ?_
    refine wp_skip ?_
    refine hK3 _ _ ?_
    apply wp_seq_k; intro K7 hK7
    apply wp_region_lit
    refine sm _ rfl hk rfl rfl rfl fun a hk => ?_
    refine sa _ rfl hk rfl rfl rfl fun a hk => ?_
    show wpList _ _ _ [] _ _
    refine wpList_nil ?_
    refine hK7 _ _ ?_
    refine wp_ret ?_
    obtain rfl := Option.some.inj H
    exact fin hk _ [(.int .i64 (w64 (x1 - (l0.length : Int))))] rfl ⟨rfl, trivial⟩ ⟨rfl, (hs.pick [] rfl).dnil⟩

noncomputable def spec_MapOK.s0 (l0 : List S_Entry) (u8 : Int) : Option ((Int) ⊕ Ex (Unit) (Bool)) :=
  (bif (decide (u8 < (l0.length : Int))) then (if 0 ≤ u8 ∧ u8 < (l0.length : Int) then ((spec_l01In.f ((l0.getD u8.toNat z_Entry).Key) 1 9999).bind fun y26 => (bif (!y26) then (some (.inr (.ret false))) else (if 0 ≤ u8 ∧ u8 < (l0.length : Int) then ((spec_l01In.f ((l0.getD u8.toNat z_Entry).Value) 0 999999).bind fun y34 => (bif (!y34) then (some (.inr (.ret false))) else (bif (decide (u8 > 0)) then (if 0 ≤ (w64 (u8 - 1)) ∧ (w64 (u8 - 1)) < (l0.length : Int) then (if 0 ≤ u8 ∧ u8 < (l0.length : Int) then (bif (decide (((l0.getD ((w64 (u8 - 1))).toNat z_Entry).Key) ≥ ((l0.getD u8.toNat z_Entry).Key))) then (some (.inr (.ret false))) else (some (.inl (w64 (u8 + 1))))) else none) else none) else (some (.inl (w64 (u8 + 1))))))) else none))) else none) else (some (.inr (.out ()))))
noncomputable def spec_MapOK.f (l0 : List S_Entry) : Option (Bool) :=
  (bif (decide ((l0.length : Int) > 4096)) then (some false) else ((loopO (fun s => spec_MapOK.s0 l0 s) 0).bind fun o => match o with | .out _ => (some (decide ((l0.length : Int) ≤ 11))) | .ret r => (some r)))
theorem spec_MapOK_t (w0 : World) (A0_ : Option Addr) (p0_ : Nat) (l0 : List S_Entry) (k0_ : Chunk) (v0_ : View L_Entry A0_ p0_ l0 k0_) (w0_ : Has w0 k0_) (r : Bool) (H : spec_MapOK.f l0 = some r) :
    Calls Try.prog 17 #[.slice A0_ l0.length p0_] w0 (Ret (fun v w => v = .bool r ∧ Sat [] w0 w [] [])) := by
  have hs : Sat [] w0 w0 [(1, k0_)] [] := Sat.init w0 [(1, k0_)] [] (by simp only [List.mem_cons, List.not_mem_nil, or_false]; rintro x (rfl) <;> assumption) (by simp) List.nodup_nil (by simp [blks])
  unfold spec_MapOK.f at H
  refine enter Try.func17 rfl Try.ntmps17 rfl fun a hk => ?_
  apply wp_seq_k; intro K1 hK1
  apply wp_region_lit
  refine sa _ rfl hk rfl rfl rfl fun a hk => ?_
  show wpList _ _ _ [] _ _
  refine wpList_nil ?_
  refine hK1 _ _ ?_
  apply wp_seq_k; intro K2 hK2
  apply wp_seq_k; intro K3 hK3
  apply wp_region_lit
  refine sm _ rfl hk rfl rfl rfl fun a hk => ?_
  refine sle rfl hk rfl rfl rfl un38 fun a hk => ?_
  refine sv (.bool (decide ((l0.length : Int) > 4096))) hk rfl rfl rfl fun a hk => ?_
  show wpList _ _ _ [] _ _
  refine wpList_nil ?_
  refine hK3 _ _ ?_
  rcases cond_some H with ⟨c4, H⟩ | ⟨c4, H⟩
  · have hk := hk.lit 6 c4 rfl
    refine cnd_true hk rfl rfl ?_
    apply wp_seq_k; intro K5 hK5
    apply wp_region_lit
    refine sa _ rfl hk rfl rfl rfl fun a hk => ?_
    show wpList _ _ _ [] _ _
    refine wpList_nil ?_
    refine hK5 _ _ ?_
    refine wp_ret ?_
    obtain rfl := Option.some.inj H
    exact fin hk _ [(.bool false)] rfl ⟨rfl, trivial⟩ ⟨rfl, (hs.pick [] rfl).dnil⟩
  · have hk := hk.lit 6 c4 rfl
    refine cnd_false hk rfl rfl ?_
    refine wp_skip ?_
    refine hK2 _ _ ?_
    apply wp_seq_k; intro K6 hK6
    apply wp_seq_k; intro K7 hK7
    apply wp_region_lit
    refine sa _ rfl hk rfl rfl rfl fun a hk => ?_
    show wpList _ _ _ [] _ _
    refine wpList_nil ?_
    refine hK7 _ _ ?_
    obtain ⟨o9, h10, HL11⟩ := bind_some H
    clear H
    obtain ⟨R12, hR12⟩ : ∃ R : Act → World → Prop, R = fun a w => o9 = .out () ∧ Kn [(0, (.slice A0_ l0.length p0_))] 50 a ∧ Sat [] w0 w [(1, k0_)] [] := ⟨_, rfl⟩
    refine wp_cutq R12 ?_ ?_
    · refine wp_block ?_
      obtain ⟨fu14, h10⟩ := loopO_some h10
      obtain ⟨I13, hI13⟩ : ∃ I : Nat → Act → World → Prop, I = fun fu a w => ∃ (u8 : Int) , loopN (fun s => spec_MapOK.s0 l0 s) fu u8 = some o9 ∧ Kn [(0, (.slice A0_ l0.length p0_)), (3, (.int .i64 u8))] 50 a ∧ Sat [] w0 w [(1, k0_)] [] := ⟨_, rfl⟩
      refine wp_loop_ghost I13 fu14 ?_ ?_
      · rw [hI13]
        exact ⟨0, h10, (hk.c 0 rfl (hk.c 3 rfl hk.k)), (hs.pick [] rfl)⟩
      · clear h10 hk hs
        intro fu14 a w hI0
        rw [hI13] at hI0
        obtain ⟨u8, hi, hk, hs⟩ := hI0
        obtain ⟨x15, H, h16⟩ := loop_round hi
        try dsimp only at H
        unfold spec_MapOK.s0 at H
        apply wp_seq_k; intro K17 hK17
        apply wp_seq_k; intro K18 hK18
        apply wp_region_lit
        refine sm _ rfl hk rfl rfl rfl fun a hk => ?_
        refine sm _ rfl hk rfl rfl rfl fun a hk => ?_
        refine sle rfl hk rfl rfl rfl un38 fun a hk => ?_
        refine sv (.bool (decide (u8 < (l0.length : Int)))) hk rfl rfl rfl fun a hk => ?_
        show wpList _ _ _ [] _ _
        refine wpList_nil ?_
        refine hK18 _ _ ?_
        rcases cond_some H with ⟨c19, H⟩ | ⟨c19, H⟩
        · have hk := hk.lit 10 c19 rfl
          refine cnd_true hk rfl rfl ?_
          refine wp_skip ?_
          refine hK17 _ _ ?_
          apply wp_seq_k; intro K20 hK20
          refine wp_block ?_
          apply wp_seq_k; intro K21 hK21
          refine wp_region_mix [(0, true), (1, true), (2, true), (3, true), (4, true), (5, true), (6, true), (7, true), (8, true), (9, true), (10, true), (11, true), (12, true), (13, true), (14, true), (15, true), (16, true), (17, true), (18, true), (19, true), (20, true), (21, true), (22, true), (23, true), (24, true), (25, true), (26, true), (27, true), (28, true), (29, true), (30, true), (31, true), (32, true), (33, true)] mo (by kernel_rfl) hs fun _ => ?_
          have hs := hs.drew
          refine qst (.slice A0_ l0.length p0_) hk rfl rfl rfl rfl (fun w hs => sm _ rfl hk rfl rfl rfl fun a hk => qe hk) fun a hk => ?_
          refine qst (.int .i64 u8) hk rfl rfl rfl rfl (fun w hs => sm _ rfl hk rfl rfl rfl fun a hk => qe hk) fun a hk => ?_
          rcases ite_some H with ⟨c22, H⟩ | ⟨_, H⟩
          rotate_left
          · cases H
          obtain ⟨b23, q24, hAc22⟩ := (v0_).some_ u8 c22.1 c22.2
          refine qst (.pointer (some (padd A0_ (u8.toNat * 2)))) hk rfl rfl rfl rfl (fun w hs => si rfl hk rfl rfl rfl rfl un38 sz62 c22.1 c22.2 hAc22 fun a hk => qe hk) fun a hk => ?_
          refine qst (.pointer (some (padd A0_ (u8.toNat * 2)))) hk rfl rfl rfl rfl (fun w hs => sf (padd A0_ (u8.toNat * 2 + 0)) rfl hk rfl rfl rfl fd62_0 (padd_add _ _ _) fun a hk => qe hk) fun a hk => ?_
          obtain ⟨_, rfl, e25⟩ := (v0_).at_ z_Entry u8 c22.1 c22.2
          refine qst (.int .i64 ((l0.getD u8.toNat z_Entry).Key)) hk rfl rfl rfl rfl (fun w hs => sl (v := (.int .i64 ((l0.getD u8.toNat z_Entry).Key))) rfl hk rfl rfl rfl ag3 ((e25 0 _ rfl).cell (hs.hasD (k := 1) rfl)) fun a hk => qe hk) fun a hk => ?_
          obtain ⟨y26, h27, H⟩ := bind_some H
          refine qst (.bool y26) hk rfl rfl rfl rfl (fun w hs => sc rfl en32 hk rfl rfl rfl (spec_l01In_t _ ((l0.getD u8.toNat z_Entry).Key) 1 9999 _ h27) fun _ w hR a hk => qc hR hk) fun a hk => ?_
          refine qst (.bool (!y26)) hk rfl rfl rfl rfl (fun w hs => sv (.bool (!y26)) hk rfl rfl rfl fun a hk => qe hk) fun a hk => ?_
          refine qst (.bool (!y26)) hk rfl rfl rfl rfl (fun w hs => sm _ rfl hk rfl rfl rfl fun a hk => qe hk) fun a hk => ?_
          rcases cond_some H with ⟨c28, H⟩ | ⟨c28, H⟩
          · have hk := hk.lit 20 c28 rfl
            refine qsk hk rfl rfl rfl rfl fun a hk => ?_
            refine qsk hk rfl rfl rfl rfl fun a hk => ?_
            refine qsk hk rfl rfl rfl rfl fun a hk => ?_
            refine qsk hk rfl rfl rfl rfl fun a hk => ?_
            refine qsk hk rfl rfl rfl rfl fun a hk => ?_
            refine qsk hk rfl rfl rfl rfl fun a hk => ?_
            refine qsk hk rfl rfl rfl rfl fun a hk => ?_
            refine qst (.bool true) hk rfl rfl rfl rfl (fun w hs => sv (.bool true) hk rfl rfl rfl fun a hk => qe hk) fun a hk => ?_
            refine qst (.bool true) hk rfl rfl rfl rfl (fun w hs => sm _ rfl hk rfl rfl rfl fun a hk => qe hk) fun a hk => ?_
            refine qsk hk rfl rfl rfl rfl fun a hk => ?_
            refine qsk hk rfl rfl rfl rfl fun a hk => ?_
            refine qsk hk rfl rfl rfl rfl fun a hk => ?_
            refine qsk hk rfl rfl rfl rfl fun a hk => ?_
            refine qsk hk rfl rfl rfl rfl fun a hk => ?_
            refine qsk hk rfl rfl rfl rfl fun a hk => ?_
            refine qsk hk rfl rfl rfl rfl fun a hk => ?_
            refine qsk hk rfl rfl rfl rfl fun a hk => ?_
            refine qsk hk rfl rfl rfl rfl fun a hk => ?_
            refine qsk hk rfl rfl rfl rfl fun a hk => ?_
            refine qsk hk rfl rfl rfl rfl fun a hk => ?_
            refine qsk hk rfl rfl rfl rfl fun a hk => ?_
            refine qsk hk rfl rfl rfl rfl fun a hk => ?_
            refine qsk hk rfl rfl rfl rfl fun a hk => ?_
            refine qsk hk rfl rfl rfl rfl fun a hk => ?_
            refine qsk hk rfl rfl rfl rfl fun a hk => ?_
            refine qst (.bool true) hk rfl rfl rfl rfl (fun w hs => sv (.bool true) hk rfl rfl rfl fun a hk => qe hk) fun a hk => ?_
            refine wml_nil fun w hF _ => ?_
            have hs := hs.f hF
            refine hK21 _ _ ?_
            refine cnd_true hk rfl rfl ?_
            apply wp_seq_k; intro K29 hK29
            apply wp_region_lit
            refine sa _ rfl hk rfl rfl rfl fun a hk => ?_
            show wpList _ _ _ [] _ _
            refine wpList_nil ?_
            refine hK29 _ _ ?_
            refine wp_ret ?_
            obtain rfl := Option.some.inj H
            have ho9 := h16
            try dsimp only at ho9
            subst ho9
            have H := HL11
            try dsimp only at H
            obtain rfl := Option.some.inj H
            exact fin hk _ [(.bool false)] rfl ⟨rfl, trivial⟩ ⟨rfl, (hs.pick [] rfl).dnil⟩
          · have hk := hk.lit 20 c28 rfl
            refine qst (.slice A0_ l0.length p0_) hk rfl rfl rfl rfl (fun w hs => sm _ rfl hk rfl rfl rfl fun a hk => qe hk) fun a hk => ?_
            refine qst (.int .i64 u8) hk rfl rfl rfl rfl (fun w hs => sm _ rfl hk rfl rfl rfl fun a hk => qe hk) fun a hk => ?_
            rcases ite_some H with ⟨c30, H⟩ | ⟨_, H⟩
            rotate_left
            · cases H
            obtain ⟨b31, q32, hAc30⟩ := (v0_).some_ u8 c30.1 c30.2
            refine qst (.pointer (some (padd A0_ (u8.toNat * 2)))) hk rfl rfl rfl rfl (fun w hs => si rfl hk rfl rfl rfl rfl un38 sz62 c30.1 c30.2 hAc30 fun a hk => qe hk) fun a hk => ?_
            refine qst (.pointer (some (padd A0_ (u8.toNat * 2 + 1)))) hk rfl rfl rfl rfl (fun w hs => sf (padd A0_ (u8.toNat * 2 + 1)) rfl hk rfl rfl rfl fd62_1 (padd_add _ _ _) fun a hk => qe hk) fun a hk => ?_
            obtain ⟨_, rfl, e33⟩ := (v0_).at_ z_Entry u8 c30.1 c30.2
            refine qst (.int .i64 ((l0.getD u8.toNat z_Entry).Value)) hk rfl rfl rfl rfl (fun w hs => sl (v := (.int .i64 ((l0.getD u8.toNat z_Entry).Value))) rfl hk rfl rfl rfl ag3 ((e33 1 _ rfl).cell (hs.hasD (k := 1) rfl)) fun a hk => qe hk) fun a hk => ?_
            obtain ⟨y34, h35, H⟩ := bind_some H
            refine qst (.bool y34) hk rfl rfl rfl rfl (fun w hs => sc rfl en32 hk rfl rfl rfl (spec_l01In_t _ ((l0.getD u8.toNat z_Entry).Value) 0 999999 _ h35) fun _ w hR a hk => qc hR hk) fun a hk => ?_
            refine qst (.bool (!y34)) hk rfl rfl rfl rfl (fun w hs => sv (.bool (!y34)) hk rfl rfl rfl fun a hk => qe hk) fun a hk => ?_
            refine qst (.bool (!y34)) hk rfl rfl rfl rfl (fun w hs => sv (.bool (!y34)) hk rfl rfl rfl fun a hk => qe hk) fun a hk => ?_
            refine qst (.bool (!y34)) hk rfl rfl rfl rfl (fun w hs => sm _ rfl hk rfl rfl rfl fun a hk => qe hk) fun a hk => ?_
            rcases cond_some H with ⟨c36, H⟩ | ⟨c36, H⟩
            · have hk := hk.lit 29 c36 rfl
              refine qsk hk rfl rfl rfl rfl fun a hk => ?_
              refine qsk hk rfl rfl rfl rfl fun a hk => ?_
              refine qsk hk rfl rfl rfl rfl fun a hk => ?_
              refine qsk hk rfl rfl rfl rfl fun a hk => ?_
              refine qsk hk rfl rfl rfl rfl fun a hk => ?_
              refine qsk hk rfl rfl rfl rfl fun a hk => ?_
              refine qsk hk rfl rfl rfl rfl fun a hk => ?_
              refine qsk hk rfl rfl rfl rfl fun a hk => ?_
              refine qsk hk rfl rfl rfl rfl fun a hk => ?_
              refine qsk hk rfl rfl rfl rfl fun a hk => ?_
              refine qsk hk rfl rfl rfl rfl fun a hk => ?_
              refine qsk hk rfl rfl rfl rfl fun a hk => ?_
              refine qsk hk rfl rfl rfl rfl fun a hk => ?_
              refine qsk hk rfl rfl rfl rfl fun a hk => ?_
              refine qsk hk rfl rfl rfl rfl fun a hk => ?_
              refine qsk hk rfl rfl rfl rfl fun a hk => ?_
              refine qst (.bool true) hk rfl rfl rfl rfl (fun w hs => sv (.bool true) hk rfl rfl rfl fun a hk => qe hk) fun a hk => ?_
              refine wml_nil fun w hF _ => ?_
              have hs := hs.f hF
              refine hK21 _ _ ?_
              refine cnd_true hk rfl rfl ?_
              apply wp_seq_k; intro K37 hK37
              apply wp_region_lit
              refine sa _ rfl hk rfl rfl rfl fun a hk => ?_
              show wpList _ _ _ [] _ _
              refine wpList_nil ?_
              refine hK37 _ _ ?_
              refine wp_ret ?_
              obtain rfl := Option.some.inj H
              have ho9 := h16
              try dsimp only at ho9
              subst ho9
              have H := HL11
              try dsimp only at H
              obtain rfl := Option.some.inj H
              exact fin hk _ [(.bool false)] rfl ⟨rfl, trivial⟩ ⟨rfl, (hs.pick [] rfl).dnil⟩
            · have hk := hk.lit 29 c36 rfl
              refine qst (.int .i64 u8) hk rfl rfl rfl rfl (fun w hs => sm _ rfl hk rfl rfl rfl fun a hk => qe hk) fun a hk => ?_
              refine qst (.bool (decide (u8 > 0))) hk rfl rfl rfl rfl (fun w hs => sv (.bool (decide (u8 > 0))) hk rfl rfl rfl fun a hk => qe hk) fun a hk => ?_
              refine qst (.bool (decide (u8 > 0))) hk rfl rfl rfl rfl (fun w hs => sm _ rfl hk rfl rfl rfl fun a hk => qe hk) fun a hk => ?_
              rcases cond_some H with ⟨c38, H⟩ | ⟨c38, H⟩
              · have hk := hk.lit 32 c38 rfl
                refine qst (.slice A0_ l0.length p0_) hk rfl rfl rfl rfl (fun w hs => sm _ rfl hk rfl rfl rfl fun a hk => qe hk) fun a hk => ?_
                refine qst (.int .i64 u8) hk rfl rfl rfl rfl (fun w hs => sm _ rfl hk rfl rfl rfl fun a hk => qe hk) fun a hk => ?_
                refine qst (.int .i64 (w64 (u8 - 1))) hk rfl rfl rfl rfl (fun w hs => sv (.int .i64 (w64 (u8 - 1))) hk rfl rfl rfl fun a hk => qe hk) fun a hk => ?_
                rcases ite_some H with ⟨c39, H⟩ | ⟨_, H⟩
                rotate_left
                · cases H
                obtain ⟨b40, q41, hAc39⟩ := (v0_).some_ (w64 (u8 - 1)) c39.1 c39.2
                refine qst (.pointer (some (padd A0_ (((w64 (u8 - 1))).toNat * 2)))) hk rfl rfl rfl rfl (fun w hs => si rfl hk rfl rfl rfl rfl un38 sz62 c39.1 c39.2 hAc39 fun a hk => qe hk) fun a hk => ?_
                refine qst (.pointer (some (padd A0_ (((w64 (u8 - 1))).toNat * 2)))) hk rfl rfl rfl rfl (fun w hs => sf (padd A0_ (((w64 (u8 - 1))).toNat * 2 + 0)) rfl hk rfl rfl rfl fd62_0 (padd_add _ _ _) fun a hk => qe hk) fun a hk => ?_
                obtain ⟨_, rfl, e42⟩ := (v0_).at_ z_Entry (w64 (u8 - 1)) c39.1 c39.2
                refine qst (.int .i64 ((l0.getD ((w64 (u8 - 1))).toNat z_Entry).Key)) hk rfl rfl rfl rfl (fun w hs => sl (v := (.int .i64 ((l0.getD ((w64 (u8 - 1))).toNat z_Entry).Key))) rfl hk rfl rfl rfl ag3 ((e42 0 _ rfl).cell (hs.hasD (k := 1) rfl)) fun a hk => qe hk) fun a hk => ?_
                refine qst (.slice A0_ l0.length p0_) hk rfl rfl rfl rfl (fun w hs => sm _ rfl hk rfl rfl rfl fun a hk => qe hk) fun a hk => ?_
                refine qst (.int .i64 u8) hk rfl rfl rfl rfl (fun w hs => sm _ rfl hk rfl rfl rfl fun a hk => qe hk) fun a hk => ?_
                rcases ite_some H with ⟨c43, H⟩ | ⟨_, H⟩
                rotate_left
                · cases H
                obtain ⟨b44, q45, hAc43⟩ := (v0_).some_ u8 c43.1 c43.2
                refine qst (.pointer (some (padd A0_ (u8.toNat * 2)))) hk rfl rfl rfl rfl (fun w hs => si rfl hk rfl rfl rfl rfl un38 sz62 c43.1 c43.2 hAc43 fun a hk => qe hk) fun a hk => ?_
                refine qst (.pointer (some (padd A0_ (u8.toNat * 2)))) hk rfl rfl rfl rfl (fun w hs => sf (padd A0_ (u8.toNat * 2 + 0)) rfl hk rfl rfl rfl fd62_0 (padd_add _ _ _) fun a hk => qe hk) fun a hk => ?_
                obtain ⟨_, rfl, e46⟩ := (v0_).at_ z_Entry u8 c43.1 c43.2
                refine qst (.int .i64 ((l0.getD u8.toNat z_Entry).Key)) hk rfl rfl rfl rfl (fun w hs => sl (v := (.int .i64 ((l0.getD u8.toNat z_Entry).Key))) rfl hk rfl rfl rfl ag3 ((e46 0 _ rfl).cell (hs.hasD (k := 1) rfl)) fun a hk => qe hk) fun a hk => ?_
                refine qst (.bool (decide (((l0.getD ((w64 (u8 - 1))).toNat z_Entry).Key) ≥ ((l0.getD u8.toNat z_Entry).Key)))) hk rfl rfl rfl rfl (fun w hs => sv (.bool (decide (((l0.getD ((w64 (u8 - 1))).toNat z_Entry).Key) ≥ ((l0.getD u8.toNat z_Entry).Key)))) hk rfl rfl rfl fun a hk => qe hk) fun a hk => ?_
                refine qst (.bool (decide (((l0.getD ((w64 (u8 - 1))).toNat z_Entry).Key) ≥ ((l0.getD u8.toNat z_Entry).Key)))) hk rfl rfl rfl rfl (fun w hs => sv (.bool (decide (((l0.getD ((w64 (u8 - 1))).toNat z_Entry).Key) ≥ ((l0.getD u8.toNat z_Entry).Key)))) hk rfl rfl rfl fun a hk => qe hk) fun a hk => ?_
                refine qst (.bool (decide (((l0.getD ((w64 (u8 - 1))).toNat z_Entry).Key) ≥ ((l0.getD u8.toNat z_Entry).Key)))) hk rfl rfl rfl rfl (fun w hs => sv (.bool (decide (((l0.getD ((w64 (u8 - 1))).toNat z_Entry).Key) ≥ ((l0.getD u8.toNat z_Entry).Key)))) hk rfl rfl rfl fun a hk => qe hk) fun a hk => ?_
                refine wml_nil fun w hF _ => ?_
                have hs := hs.f hF
                refine hK21 _ _ ?_
                rcases cond_some H with ⟨c47, H⟩ | ⟨c47, H⟩
                · have hk := hk.lit 46 c47 rfl
                  refine cnd_true hk rfl rfl ?_
                  apply wp_seq_k; intro K48 hK48
                  apply wp_region_lit
                  refine sa _ rfl hk rfl rfl rfl fun a hk => ?_
                  show wpList _ _ _ [] _ _
                  refine wpList_nil ?_
                  refine hK48 _ _ ?_
                  refine wp_ret ?_
                  obtain rfl := Option.some.inj H
                  have ho9 := h16
                  try dsimp only at ho9
                  subst ho9
                  have H := HL11
                  try dsimp only at H
                  obtain rfl := Option.some.inj H
                  exact fin hk _ [(.bool false)] rfl ⟨rfl, trivial⟩ ⟨rfl, (hs.pick [] rfl).dnil⟩
                · have hk := hk.lit 46 c47 rfl
                  refine cnd_false hk rfl rfl ?_
                  refine wp_skip ?_
                  refine hK20 _ _ ?_
                  apply wp_region_lit
                  refine sm _ rfl hk rfl rfl rfl fun a hk => ?_
                  refine sv (.int .i64 (w64 (u8 + 1))) hk rfl rfl rfl fun a hk => ?_
                  refine sa _ rfl hk rfl rfl rfl fun a hk => ?_
                  show wpList _ _ _ [] _ _
                  refine wpList_nil ?_
                  obtain rfl := Option.some.inj H
                  obtain ⟨m49, hmm49, h16⟩ := h16
                  show ∃ n', n' < _ ∧ I13 n' _ _
                  refine ⟨m49, hmm49, ?_⟩
                  rw [hI13]
                  exact ⟨(w64 (u8 + 1)), h16, (hk.c 0 rfl (hk.c 3 rfl hk.k)), (hs.pick [] rfl)⟩
              · have hk := hk.lit 32 c38 rfl
                refine qsk hk rfl rfl rfl rfl fun a hk => ?_
                refine qsk hk rfl rfl rfl rfl fun a hk => ?_
                refine qsk hk rfl rfl rfl rfl fun a hk => ?_
                refine qsk hk rfl rfl rfl rfl fun a hk => ?_
                refine qsk hk rfl rfl rfl rfl fun a hk => ?_
                refine qsk hk rfl rfl rfl rfl fun a hk => ?_
                refine qsk hk rfl rfl rfl rfl fun a hk => ?_
                refine qsk hk rfl rfl rfl rfl fun a hk => ?_
                refine qsk hk rfl rfl rfl rfl fun a hk => ?_
                refine qsk hk rfl rfl rfl rfl fun a hk => ?_
                refine qsk hk rfl rfl rfl rfl fun a hk => ?_
                refine qsk hk rfl rfl rfl rfl fun a hk => ?_
                refine qst (.bool false) hk rfl rfl rfl rfl (fun w hs => sv (.bool false) hk rfl rfl rfl fun a hk => qe hk) fun a hk => ?_
                refine qst (.bool false) hk rfl rfl rfl rfl (fun w hs => sv (.bool false) hk rfl rfl rfl fun a hk => qe hk) fun a hk => ?_
                refine wml_nil fun w hF _ => ?_
                have hs := hs.f hF
                refine hK21 _ _ ?_
                refine cnd_false hk rfl rfl ?_
                refine wp_skip ?_
                refine hK20 _ _ ?_
                apply wp_region_lit
                refine sm _ rfl hk rfl rfl rfl fun a hk => ?_
                refine sv (.int .i64 (w64 (u8 + 1))) hk rfl rfl rfl fun a hk => ?_
                refine sa _ rfl hk rfl rfl rfl fun a hk => ?_
                show wpList _ _ _ [] _ _
                refine wpList_nil ?_
                obtain rfl := Option.some.inj H
                obtain ⟨m50, hmm50, h16⟩ := h16
                show ∃ n', n' < _ ∧ I13 n' _ _
                refine ⟨m50, hmm50, ?_⟩
                rw [hI13]
                exact ⟨(w64 (u8 + 1)), h16, (hk.c 0 rfl (hk.c 3 rfl hk.k)), (hs.pick [] rfl)⟩
        · have hk := hk.lit 10 c19 rfl
          refine cnd_false hk rfl rfl ?_
          refine wp_exit ?_
          obtain rfl := Option.some.inj H
          show R12 _ _
          rw [hR12]
          exact ⟨h16.symm, (hk.c 0 rfl hk.k), (hs.pick [] rfl)⟩
    · intro a w hR0
      rw [hR12] at hR0
      obtain ⟨rfl, hk, hs⟩ := hR0
      have H := HL11
      try dsimp only at H
      refine hK6 _ _ ?_
      apply wp_seq_k; intro K51 hK51
      apply wp_region_lit
      refine sm _ rfl hk rfl rfl rfl fun a hk => ?_
      refine sle rfl hk rfl rfl rfl un38 fun a hk => ?_
      refine sv (.bool (decide ((l0.length : Int) ≤ 11))) hk rfl rfl rfl fun a hk => ?_
      refine sa _ rfl hk rfl rfl rfl fun a hk => ?_
      show wpList _ _ _ [] _ _
      refine wpList_nil ?_
      refine hK51 _ _ ?_
      refine wp_ret ?_
      obtain rfl := Option.some.inj H
      exact fin hk _ [(.bool (decide ((l0.length : Int) ≤ 11)))] rfl ⟨rfl, trivial⟩ ⟨rfl, (hs.pick [] rfl).dnil⟩

noncomputable def laws_toEntry.f (x0 : S_Entry) : Option (S_Entry) :=
  (some (⟨x0.Key, x0.Value⟩ : S_Entry))
theorem laws_toEntry_t (w0 : World) (x0 : S_Entry) (r : S_Entry) (H : laws_toEntry.f x0 = some r) :
    Calls Try.prog 39 #[.agg #[.int .i64 x0.Key, .int .i64 x0.Value]] w0 (Ret (fun v w => v = .agg #[.int .i64 r.Key, .int .i64 r.Value] ∧ Sat [] w0 w [] [])) := by
  have hs : Sat [] w0 w0 [] [] := Sat.init w0 [] [] (by simp) (by simp) List.nodup_nil (by simp [blks])
  unfold laws_toEntry.f at H
  refine enter Try.func39 rfl Try.ntmps39 rfl fun a hk => ?_
  apply wp_seq_k; intro K1 hK1
  apply wp_region_lit
  refine sbx 1 hs rfl hk rfl rfl rfl rfl fun b2 w a hk hs => ?_
  refine salx 2 hs rfl hk rfl rfl ze62 rfl fun b3 w a hk hs => ?_
  show wpList _ _ _ [] _ _
  refine wpList_nil ?_
  refine hK1 _ _ ?_
  apply wp_seq_k; intro K4 hK4
  apply wp_region_lit
  refine salx 3 hs rfl hk rfl rfl ze62 rfl fun b5 w a hk hs => ?_
  show wpList _ _ _ [] _ _
  refine wpList_nil ?_
  refine hK4 _ _ ?_
  apply wp_seq_k; intro K6 hK6
  apply wp_region_lit
  refine sf ⟨b2, 0, none⟩ rfl hk rfl rfl rfl fd64_0 rfl fun a hk => ?_
  refine sl rfl hk rfl rfl rfl ag3 (box_cell hs (k := 1) rfl rfl) fun a hk => ?_
  refine sf ⟨b5, 0, none⟩ rfl hk rfl rfl rfl fd62_0 rfl fun a hk => ?_
  refine ssx (cs' := #[.int .i64 x0.Key, .int .i64 0]) 3 hs rfl rfl hk rfl rfl rfl rfl sz3 rfl rfl rfl rfl fun w a hk hs => ?_
  show wpList _ _ _ [] _ _
  refine wpList_nil ?_
  refine hK6 _ _ ?_
  apply wp_seq_k; intro K7 hK7
  apply wp_region_lit
  refine sf ⟨b2, 1, none⟩ rfl hk rfl rfl rfl fd64_1 rfl fun a hk => ?_
  refine sl rfl hk rfl rfl rfl ag3 (box_cell hs (k := 1) rfl rfl) fun a hk => ?_
  refine sf ⟨b5, 1, none⟩ rfl hk rfl rfl rfl fd62_1 rfl fun a hk => ?_
  refine ssx (cs' := #[.int .i64 x0.Key, .int .i64 x0.Value]) 3 hs rfl rfl hk rfl rfl rfl rfl sz3 rfl rfl rfl rfl fun w a hk hs => ?_
  show wpList _ _ _ [] _ _
  refine wpList_nil ?_
  refine hK7 _ _ ?_
  apply wp_seq_k; intro K8 hK8
  apply wp_region_lit
  refine sln [.int .i64 x0.Key, .int .i64 x0.Value] rfl hk rfl rfl rfl ag62 sz62 (box_cells hs (k := 3) rfl) fun a hk => ?_
  refine ssw 2 hs rfl rfl hk rfl rfl rfl rfl sz62 (by simp [Value.oneCell']) rfl fun w a hk hs => ?_
  show wpList _ _ _ [] _ _
  refine wpList_nil ?_
  refine hK8 _ _ ?_
  refine wp_ret ?_
  obtain rfl := Option.some.inj H
  exact fin hk _ [(.agg #[.int .i64 x0.Key, .int .i64 x0.Value])] rfl ⟨⟨_, rfl, run_loadN ag62 sz62 (box_cells hs (k := 2) rfl)⟩, trivial⟩ ⟨rfl, (hs.pick [] rfl).dnil⟩

noncomputable def laws_toEntryS.s0 (l0 : List S_Entry) (u9 : List S_Entry) (u14 : Int) : Option (((List S_Entry) × Int) ⊕ Ex ((List S_Entry)) ((List S_Entry))) :=
  (bif (decide (u14 < (l0.length : Int))) then (if 0 ≤ u14 ∧ u14 < (l0.length : Int) then ((laws_toEntry.f (l0.getD u14.toNat z_Entry)).bind fun y36 => (if 0 ≤ u14 ∧ u14 < (u9.length : Int) then (some (.inl ((u9.set u14.toNat y36), (w64 (u14 + 1))))) else none)) else none) else (some (.inr (.out u9))))
noncomputable def laws_toEntryS.f (l0 : List S_Entry) : Option ((List S_Entry)) :=
  (if 0 ≤ (l0.length : Int) ∧ (l0.length : Int) ≤ 1073741824 then ((loopO (fun s => laws_toEntryS.s0 l0 s.1 s.2) ((List.replicate ((l0.length : Int)).toNat z_Entry), 0)).bind fun o => match o with | .out u15 => (some u15) | .ret r => (some r)) else none)
theorem laws_toEntryS_t (w0 : World) (A0_ : Option Addr) (p0_ : Nat) (l0 : List S_Entry) (k0_ : Chunk) (v0_ : View L_Entry A0_ p0_ l0 k0_) (w0_ : Has w0 k0_) (r : (List S_Entry)) (H : laws_toEntryS.f l0 = some r) :
    Calls Try.prog 18 #[.slice A0_ l0.length p0_] w0 (Ret (fun v w => ∃ (A0 : Option Addr) (p0 : Nat) (k0 : Chunk), v = .slice A0 r.length p0 ∧ Own L_Entry 62 A0 p0 r k0 ∧ Sat [] w0 w [] [(0, k0)])) := by
  have hs : Sat [] w0 w0 [(1, k0_)] [] := Sat.init w0 [(1, k0_)] [] (by simp only [List.mem_cons, List.not_mem_nil, or_false]; rintro x (rfl) <;> assumption) (by simp) List.nodup_nil (by simp [blks])
  unfold laws_toEntryS.f at H
  refine enter Try.func18 rfl Try.ntmps18 rfl fun a hk => ?_
  apply wp_seq_k; intro K1 hK1
  apply wp_region_lit
  refine sa _ rfl hk rfl rfl rfl fun a hk => ?_
  show wpList _ _ _ [] _ _
  refine wpList_nil ?_
  refine hK1 _ _ ?_
  apply wp_seq_k; intro K2 hK2
  apply wp_region_lit
  refine sm _ rfl hk rfl rfl rfl fun a hk => ?_
  refine sle rfl hk rfl rfl rfl un35 fun a hk => ?_
  rcases ite_some H with ⟨c3, H⟩ | ⟨_, H⟩
  rotate_left
  · cases H
  refine smk 2 L_Entry hs rfl hk rfl rfl rfl rfl un38 mk62 lz62 rfl rfl c3.1 c3.2 fun b4 k5 w a hk o6 hs => ?_
  refine sa _ rfl hk rfl rfl rfl fun a hk => ?_
  show wpList _ _ _ [] _ _
  refine wpList_nil ?_
  refine hK2 _ _ ?_
  apply wp_seq_k; intro K7 hK7
  apply wp_seq_k; intro K8 hK8
  apply wp_region_lit
  refine sa _ rfl hk rfl rfl rfl fun a hk => ?_
  show wpList _ _ _ [] _ _
  refine wpList_nil ?_
  refine hK8 _ _ ?_
  obtain ⟨o20, h21, HL22⟩ := bind_some H
  clear H
  obtain ⟨R23, hR23⟩ : ∃ R : Act → World → Prop, R = fun a w => ∃ (u15 : (List S_Entry)) (A16 : Option Addr) (p17 : Nat) (k18 : Chunk), o20 = .out u15 ∧ Kn [(3, (.slice A16 u15.length p17))] 23 a ∧ Sat [] w0 w [(1, k0_)] [(2, k18)] ∧ Own L_Entry 62 A16 p17 u15 k18 := ⟨_, rfl⟩
  refine wp_cutq R23 ?_ ?_
  · refine wp_block ?_
    obtain ⟨fu25, h21⟩ := loopO_some h21
    obtain ⟨I24, hI24⟩ : ∃ I : Nat → Act → World → Prop, I = fun fu a w => ∃ (u9 : (List S_Entry)) (u14 : Int) (A10 : Option Addr) (p11 : Nat) (k12 : Chunk), loopN (fun s => laws_toEntryS.s0 l0 s.1 s.2) fu (u9, u14) = some o20 ∧ Kn [(0, (.slice A0_ l0.length p0_)), (3, (.slice A10 u9.length p11)), (4, (.int .i64 u14))] 23 a ∧ Sat [] w0 w [(1, k0_)] [(2, k12)] ∧ Own L_Entry 62 A10 p11 u9 k12 := ⟨_, rfl⟩
    refine wp_loop_ghost I24 fu25 ?_ ?_
    · rw [hI24]
      exact ⟨(List.replicate ((l0.length : Int)).toNat z_Entry), 0, (some ⟨b4, 0, none⟩), (((l0.length : Int)).toNat), _, h21, (hk.c 0 rfl (hk.c 3 rfl (hk.c 4 rfl hk.k))), (hs.pick [(2, 2)] rfl), o6⟩
    · clear h21 hk hs
      intro fu25 a w hI0
      rw [hI24] at hI0
      obtain ⟨u9, u14, A10, p11, k12, hi, hk, hs, o13⟩ := hI0
      obtain ⟨x26, H, h27⟩ := loop_round hi
      try dsimp only at H
      unfold laws_toEntryS.s0 at H
      apply wp_seq_k; intro K28 hK28
      apply wp_seq_k; intro K29 hK29
      apply wp_region_lit
      refine sm _ rfl hk rfl rfl rfl fun a hk => ?_
      refine sm _ rfl hk rfl rfl rfl fun a hk => ?_
      refine sle rfl hk rfl rfl rfl un35 fun a hk => ?_
      refine sv (.bool (decide (u14 < (l0.length : Int)))) hk rfl rfl rfl fun a hk => ?_
      show wpList _ _ _ [] _ _
      refine wpList_nil ?_
      refine hK29 _ _ ?_
      rcases cond_some H with ⟨c30, H⟩ | ⟨c30, H⟩
      · have hk := hk.lit 11 c30 rfl
        refine cnd_true hk rfl rfl ?_
        refine wp_skip ?_
        refine hK28 _ _ ?_
        apply wp_seq_k; intro K31 hK31
        refine wp_block ?_
        apply wp_region_lit
        refine sm _ rfl hk rfl rfl rfl fun a hk => ?_
        refine sm _ rfl hk rfl rfl rfl fun a hk => ?_
        refine sm _ rfl hk rfl rfl rfl fun a hk => ?_
        refine sm _ rfl hk rfl rfl rfl fun a hk => ?_
        rcases ite_some H with ⟨c32, H⟩ | ⟨_, H⟩
        rotate_left
        · cases H
        obtain ⟨b33, q34, hAc32⟩ := (v0_).some_ u14 c32.1 c32.2
        refine si rfl hk rfl rfl rfl rfl un35 sz64 c32.1 c32.2 hAc32 fun a hk => ?_
        obtain ⟨_, rfl, e35⟩ := (v0_).at_ z_Entry u14 c32.1 c32.2
        refine sln [.int .i64 ((l0.getD u14.toNat z_Entry).Key), .int .i64 ((l0.getD u14.toNat z_Entry).Value)] rfl hk rfl rfl rfl ag64 sz64 (cells_at e35 (hs.hasD (k := 1) rfl)) fun a hk => ?_
        obtain ⟨y36, h37, H⟩ := bind_some H
        refine sc rfl en39 hk rfl rfl rfl (laws_toEntry_t _ (l0.getD u14.toNat z_Entry) _ h37) ?_
        rintro _ w ⟨rfl, hG⟩ a hk
        have hs := hs.call0 hG
        rcases ite_some H with ⟨c38, H⟩ | ⟨_, H⟩
        rotate_left
        · cases H
        obtain ⟨b39, q40, hAc38⟩ := (o13.view).some_ u14 c38.1 c38.2
        refine si rfl hk rfl rfl rfl rfl un38 sz62 c38.1 c38.2 hAc38 fun a hk => ?_
        refine so (j := 0) 2 z_Entry y36 hs rfl o13 c38.1 c38.2 rfl hk rfl rfl rfl rfl rfl sz62 (by simp [Value.cells, Value.oneCell']) (Nat.le_of_ble_eq_true rfl) (fun _ _ h => ⟨by rw [h.1]; rfl, h.2⟩) fun k41 w a hk o42 hs => ?_
        show wpList _ _ _ [] _ _
        refine wpList_nil ?_
        refine hK31 _ _ ?_
        apply wp_region_lit
        refine sm _ rfl hk rfl rfl rfl fun a hk => ?_
        refine sv (.int .i64 (w64 (u14 + 1))) hk rfl rfl rfl fun a hk => ?_
        refine sa _ rfl hk rfl rfl rfl fun a hk => ?_
        show wpList _ _ _ [] _ _
        refine wpList_nil ?_
        obtain rfl := Option.some.inj H
        obtain ⟨m43, hmm43, h27⟩ := h27
        show ∃ n', n' < _ ∧ I24 n' _ _
        refine ⟨m43, hmm43, ?_⟩
        rw [hI24]
        exact ⟨(u9.set u14.toNat y36), (w64 (u14 + 1)), A10, p11, _, h27, (hk.c 0 rfl (hk.cl 3 rfl (by simp) (hk.c 4 rfl hk.k))), (hs.pick [(2, 2)] rfl), o42⟩
      · have hk := hk.lit 11 c30 rfl
        refine cnd_false hk rfl rfl ?_
        refine wp_exit ?_
        obtain rfl := Option.some.inj H
        show R23 _ _
        rw [hR23]
        exact ⟨u9, A10, p11, _, h27.symm, (hk.c 3 rfl hk.k), (hs.pick [(2, 2)] rfl), o13⟩
  · intro a w hR0
    rw [hR23] at hR0
    obtain ⟨u15, A16, p17, k18, rfl, hk, hs, o19⟩ := hR0
    have H := HL22
    try dsimp only at H
    refine hK7 _ _ ?_
    apply wp_seq_k; intro K44 hK44
    apply wp_region_lit
    refine sm _ rfl hk rfl rfl rfl fun a hk => ?_
    refine sa _ rfl hk rfl rfl rfl fun a hk => ?_
    show wpList _ _ _ [] _ _
    refine wpList_nil ?_
    refine hK44 _ _ ?_
    refine wp_ret ?_
    obtain rfl := Option.some.inj H
    exact fin hk _ [(.slice A16 u15.length p17)] rfl ⟨rfl, trivial⟩ ⟨A16, p17, _, rfl, o19, (hs.pick [(0, 2)] rfl).dnil⟩

noncomputable def impl_MapOK.s0 (l0 : List S_Entry) (u4 : Int) : Option ((Int) ⊕ Ex (Unit) (Bool)) :=
  (bif (decide (u4 < (l0.length : Int))) then (if 0 ≤ u4 ∧ u4 < (l0.length : Int) then ((impl_isKey.f ((l0.getD u4.toNat z_Entry).Key)).bind fun y24 => (bif (!y24) then (some (.inr (.ret false))) else ((impl_isValue.f ((l0.getD u4.toNat z_Entry).Value)).bind fun y28 => (bif (!y28) then (some (.inr (.ret false))) else (bif (decide (u4 > 0)) then (if 0 ≤ (w64 (u4 - 1)) ∧ (w64 (u4 - 1)) < (l0.length : Int) then (bif (decide (((l0.getD ((w64 (u4 - 1))).toNat z_Entry).Key) ≥ ((l0.getD u4.toNat z_Entry).Key))) then (some (.inr (.ret false))) else (some (.inl (w64 (u4 + 1))))) else none) else (some (.inl (w64 (u4 + 1))))))))) else none) else (some (.inr (.out ()))))
noncomputable def impl_MapOK.f (l0 : List S_Entry) : Option (Bool) :=
  ((loopO (fun s => impl_MapOK.s0 l0 s) 0).bind fun o => match o with | .out _ => (some (decide ((l0.length : Int) ≤ 11))) | .ret r => (some r))
theorem impl_MapOK_t (w0 : World) (A0_ : Option Addr) (p0_ : Nat) (l0 : List S_Entry) (k0_ : Chunk) (v0_ : View L_Entry A0_ p0_ l0 k0_) (w0_ : Has w0 k0_) (r : Bool) (H : impl_MapOK.f l0 = some r) :
    Calls Try.prog 19 #[.slice A0_ l0.length p0_] w0 (Ret (fun v w => v = .bool r ∧ Sat [] w0 w [] [])) := by
  have hs : Sat [] w0 w0 [(1, k0_)] [] := Sat.init w0 [(1, k0_)] [] (by simp only [List.mem_cons, List.not_mem_nil, or_false]; rintro x (rfl) <;> assumption) (by simp) List.nodup_nil (by simp [blks])
  unfold impl_MapOK.f at H
  refine enter Try.func19 rfl Try.ntmps19 rfl fun a hk => ?_
  apply wp_seq_k; intro K1 hK1
  apply wp_region_lit
  refine sa _ rfl hk rfl rfl rfl fun a hk => ?_
  show wpList _ _ _ [] _ _
  refine wpList_nil ?_
  refine hK1 _ _ ?_
  apply wp_seq_k; intro K2 hK2
  apply wp_seq_k; intro K3 hK3
  apply wp_region_lit
  refine sm _ rfl hk rfl rfl rfl fun a hk => ?_
  refine sle rfl hk rfl rfl rfl un38 fun a hk => ?_
  refine sm _ rfl hk rfl rfl rfl fun a hk => ?_
  show wpList _ _ _ [] _ _
  refine wpList_nil ?_
  refine hK3 _ _ ?_
  obtain ⟨o5, h6, HL7⟩ := bind_some H
  clear H
  obtain ⟨R8, hR8⟩ : ∃ R : Act → World → Prop, R = fun a w => o5 = .out () ∧ Kn [(0, (.slice A0_ l0.length p0_))] 41 a ∧ Sat [] w0 w [(1, k0_)] [] := ⟨_, rfl⟩
  refine wp_cutq R8 ?_ ?_
  · refine wp_block ?_
    obtain ⟨fu10, h6⟩ := loopO_some h6
    obtain ⟨I9, hI9⟩ : ∃ I : Nat → Act → World → Prop, I = fun fu a w => ∃ (u4 : Int) , loopN (fun s => impl_MapOK.s0 l0 s) fu u4 = some o5 ∧ Kn [(0, (.slice A0_ l0.length p0_)), (5, (.slice A0_ l0.length p0_)), (6, (.int .i64 (l0.length : Int))), (7, (.int .i64 u4))] 41 a ∧ Sat [] w0 w [(1, k0_)] [] := ⟨_, rfl⟩
    refine wp_loop_ghost I9 fu10 ?_ ?_
    · rw [hI9]
      exact ⟨0, h6, (hk.c 0 rfl (hk.c 5 rfl (hk.c 6 rfl (hk.c 7 rfl hk.k)))), (hs.pick [] rfl)⟩
    · clear h6 hk hs
      intro fu10 a w hI0
      rw [hI9] at hI0
      obtain ⟨u4, hi, hk, hs⟩ := hI0
      obtain ⟨x11, H, h12⟩ := loop_round hi
      try dsimp only at H
      unfold impl_MapOK.s0 at H
      apply wp_seq_k; intro K13 hK13
      apply wp_region_lit
      refine sv (.bool (decide (u4 < (l0.length : Int)))) hk rfl rfl rfl fun a hk => ?_
      show wpList _ _ _ [] _ _
      refine wpList_nil ?_
      refine hK13 _ _ ?_
      apply wp_seq_k; intro K14 hK14
      rcases cond_some H with ⟨c15, H⟩ | ⟨c15, H⟩
      · have hk := hk.lit 8 c15 rfl
        refine cnd_true hk rfl rfl ?_
        refine wp_skip ?_
        refine hK14 _ _ ?_
        apply wp_seq_k; intro K16 hK16
        refine wp_block ?_
        apply wp_seq_k; intro K17 hK17
        apply wp_region_lit
        refine sm _ rfl hk rfl rfl rfl fun a hk => ?_
        rcases ite_some H with ⟨c18, H⟩ | ⟨_, H⟩
        rotate_left
        · cases H
        obtain ⟨b19, q20, hAc18⟩ := (v0_).some_ u4 c18.1 c18.2
        refine si rfl hk rfl rfl rfl rfl un38 sz62 c18.1 c18.2 hAc18 fun a hk => ?_
        obtain ⟨_, rfl, e21⟩ := (v0_).at_ z_Entry u4 c18.1 c18.2
        refine sln [.int .i64 ((l0.getD u4.toNat z_Entry).Key), .int .i64 ((l0.getD u4.toNat z_Entry).Value)] rfl hk rfl rfl rfl ag62 sz62 (cells_at e21 (hs.hasD (k := 1) rfl)) fun a hk => ?_
        refine salx 2 hs rfl hk rfl rfl ze62 rfl fun b22 w a hk hs => ?_
        refine sa _ rfl hk rfl rfl rfl fun a hk => ?_
        refine ssw 2 hs rfl rfl hk rfl rfl rfl rfl sz62 (by simp [Value.oneCell']) rfl fun w a hk hs => ?_
        show wpList _ _ _ [] _ _
        refine wpList_nil ?_
        refine hK17 _ _ ?_
        apply wp_seq_k; intro K23 hK23
        refine wp_region_mix [(0, true), (1, true), (2, true), (3, true), (4, true), (5, true), (6, true), (7, true), (8, true), (9, true), (10, true), (11, true), (12, true), (13, true), (14, true), (15, true), (16, true), (17, true), (18, true), (19, true), (20, true), (21, true), (22, true), (23, true), (24, true)] mo (by kernel_rfl) hs fun _ => ?_
        have hs := hs.drew
        refine qst (.pointer (some ⟨b22, 0, none⟩)) hk rfl rfl rfl rfl (fun w hs => sf ⟨b22, 0, none⟩ rfl hk rfl rfl rfl fd62_0 rfl fun a hk => qe hk) fun a hk => ?_
        refine qst (.int .i64 ((l0.getD u4.toNat z_Entry).Key)) hk rfl rfl rfl rfl (fun w hs => sl rfl hk rfl rfl rfl ag3 (box_cell hs (k := 2) rfl rfl) fun a hk => qe hk) fun a hk => ?_
        obtain ⟨y24, h25, H⟩ := bind_some H
        refine qst (.bool y24) hk rfl rfl rfl rfl (fun w hs => sc rfl en34 hk rfl rfl rfl (impl_isKey_t _ ((l0.getD u4.toNat z_Entry).Key) _ h25) fun _ w hR a hk => qc hR hk) fun a hk => ?_
        refine qst (.bool (!y24)) hk rfl rfl rfl rfl (fun w hs => sv (.bool (!y24)) hk rfl rfl rfl fun a hk => qe hk) fun a hk => ?_
        refine qst (.bool (!y24)) hk rfl rfl rfl rfl (fun w hs => sm _ rfl hk rfl rfl rfl fun a hk => qe hk) fun a hk => ?_
        rcases cond_some H with ⟨c26, H⟩ | ⟨c26, H⟩
        · have hk := hk.lit 16 c26 rfl
          refine qsk hk rfl rfl rfl rfl fun a hk => ?_
          refine qsk hk rfl rfl rfl rfl fun a hk => ?_
          refine qsk hk rfl rfl rfl rfl fun a hk => ?_
          refine qsk hk rfl rfl rfl rfl fun a hk => ?_
          refine qst (.bool true) hk rfl rfl rfl rfl (fun w hs => sv (.bool true) hk rfl rfl rfl fun a hk => qe hk) fun a hk => ?_
          refine qst (.bool true) hk rfl rfl rfl rfl (fun w hs => sm _ rfl hk rfl rfl rfl fun a hk => qe hk) fun a hk => ?_
          refine qsk hk rfl rfl rfl rfl fun a hk => ?_
          refine qsk hk rfl rfl rfl rfl fun a hk => ?_
          refine qsk hk rfl rfl rfl rfl fun a hk => ?_
          refine qsk hk rfl rfl rfl rfl fun a hk => ?_
          refine qsk hk rfl rfl rfl rfl fun a hk => ?_
          refine qsk hk rfl rfl rfl rfl fun a hk => ?_
          refine qsk hk rfl rfl rfl rfl fun a hk => ?_
          refine qsk hk rfl rfl rfl rfl fun a hk => ?_
          refine qsk hk rfl rfl rfl rfl fun a hk => ?_
          refine qsk hk rfl rfl rfl rfl fun a hk => ?_
          refine qsk hk rfl rfl rfl rfl fun a hk => ?_
          refine qsk hk rfl rfl rfl rfl fun a hk => ?_
          refine qsk hk rfl rfl rfl rfl fun a hk => ?_
          refine qst (.bool true) hk rfl rfl rfl rfl (fun w hs => sv (.bool true) hk rfl rfl rfl fun a hk => qe hk) fun a hk => ?_
          refine wml_nil fun w hF _ => ?_
          have hs := hs.f hF
          refine hK23 _ _ ?_
          refine cnd_true hk rfl rfl ?_
          apply wp_seq_k; intro K27 hK27
          apply wp_region_lit
          refine sa _ rfl hk rfl rfl rfl fun a hk => ?_
          show wpList _ _ _ [] _ _
          refine wpList_nil ?_
          refine hK27 _ _ ?_
          refine wp_ret ?_
          obtain rfl := Option.some.inj H
          have ho5 := h12
          try dsimp only at ho5
          subst ho5
          have H := HL7
          try dsimp only at H
          obtain rfl := Option.some.inj H
          exact fin hk _ [(.bool false)] rfl ⟨rfl, trivial⟩ ⟨rfl, (hs.pick [] rfl).dnil⟩
        · have hk := hk.lit 16 c26 rfl
          refine qst (.pointer (some ⟨b22, 1, none⟩)) hk rfl rfl rfl rfl (fun w hs => sf ⟨b22, 1, none⟩ rfl hk rfl rfl rfl fd62_1 rfl fun a hk => qe hk) fun a hk => ?_
          refine qst (.int .i64 ((l0.getD u4.toNat z_Entry).Value)) hk rfl rfl rfl rfl (fun w hs => sl rfl hk rfl rfl rfl ag3 (box_cell hs (k := 2) rfl rfl) fun a hk => qe hk) fun a hk => ?_
          obtain ⟨y28, h29, H⟩ := bind_some H
          refine qst (.bool y28) hk rfl rfl rfl rfl (fun w hs => sc rfl en36 hk rfl rfl rfl (impl_isValue_t _ ((l0.getD u4.toNat z_Entry).Value) _ h29) fun _ w hR a hk => qc hR hk) fun a hk => ?_
          refine qst (.bool (!y28)) hk rfl rfl rfl rfl (fun w hs => sv (.bool (!y28)) hk rfl rfl rfl fun a hk => qe hk) fun a hk => ?_
          refine qst (.bool (!y28)) hk rfl rfl rfl rfl (fun w hs => sv (.bool (!y28)) hk rfl rfl rfl fun a hk => qe hk) fun a hk => ?_
          refine qst (.bool (!y28)) hk rfl rfl rfl rfl (fun w hs => sm _ rfl hk rfl rfl rfl fun a hk => qe hk) fun a hk => ?_
          rcases cond_some H with ⟨c30, H⟩ | ⟨c30, H⟩
          · have hk := hk.lit 22 c30 rfl
            refine qsk hk rfl rfl rfl rfl fun a hk => ?_
            refine qsk hk rfl rfl rfl rfl fun a hk => ?_
            refine qsk hk rfl rfl rfl rfl fun a hk => ?_
            refine qsk hk rfl rfl rfl rfl fun a hk => ?_
            refine qsk hk rfl rfl rfl rfl fun a hk => ?_
            refine qsk hk rfl rfl rfl rfl fun a hk => ?_
            refine qsk hk rfl rfl rfl rfl fun a hk => ?_
            refine qsk hk rfl rfl rfl rfl fun a hk => ?_
            refine qsk hk rfl rfl rfl rfl fun a hk => ?_
            refine qsk hk rfl rfl rfl rfl fun a hk => ?_
            refine qsk hk rfl rfl rfl rfl fun a hk => ?_
            refine qsk hk rfl rfl rfl rfl fun a hk => ?_
            refine qsk hk rfl rfl rfl rfl fun a hk => ?_
            refine qst (.bool true) hk rfl rfl rfl rfl (fun w hs => sv (.bool true) hk rfl rfl rfl fun a hk => qe hk) fun a hk => ?_
            refine wml_nil fun w hF _ => ?_
            have hs := hs.f hF
            refine hK23 _ _ ?_
            refine cnd_true hk rfl rfl ?_
            apply wp_seq_k; intro K31 hK31
            apply wp_region_lit
            refine sa _ rfl hk rfl rfl rfl fun a hk => ?_
            show wpList _ _ _ [] _ _
            refine wpList_nil ?_
            refine hK31 _ _ ?_
            refine wp_ret ?_
            obtain rfl := Option.some.inj H
            have ho5 := h12
            try dsimp only at ho5
            subst ho5
            have H := HL7
            try dsimp only at H
            obtain rfl := Option.some.inj H
            exact fin hk _ [(.bool false)] rfl ⟨rfl, trivial⟩ ⟨rfl, (hs.pick [] rfl).dnil⟩
          · have hk := hk.lit 22 c30 rfl
            refine qst (.int .i64 u4) hk rfl rfl rfl rfl (fun w hs => sm _ rfl hk rfl rfl rfl fun a hk => qe hk) fun a hk => ?_
            refine qst (.bool (decide (u4 > 0))) hk rfl rfl rfl rfl (fun w hs => sv (.bool (decide (u4 > 0))) hk rfl rfl rfl fun a hk => qe hk) fun a hk => ?_
            refine qst (.bool (decide (u4 > 0))) hk rfl rfl rfl rfl (fun w hs => sm _ rfl hk rfl rfl rfl fun a hk => qe hk) fun a hk => ?_
            rcases cond_some H with ⟨c32, H⟩ | ⟨c32, H⟩
            · have hk := hk.lit 25 c32 rfl
              refine qst (.slice A0_ l0.length p0_) hk rfl rfl rfl rfl (fun w hs => sm _ rfl hk rfl rfl rfl fun a hk => qe hk) fun a hk => ?_
              refine qst (.int .i64 u4) hk rfl rfl rfl rfl (fun w hs => sm _ rfl hk rfl rfl rfl fun a hk => qe hk) fun a hk => ?_
              refine qst (.int .i64 (w64 (u4 - 1))) hk rfl rfl rfl rfl (fun w hs => sv (.int .i64 (w64 (u4 - 1))) hk rfl rfl rfl fun a hk => qe hk) fun a hk => ?_
              rcases ite_some H with ⟨c33, H⟩ | ⟨_, H⟩
              rotate_left
              · cases H
              obtain ⟨b34, q35, hAc33⟩ := (v0_).some_ (w64 (u4 - 1)) c33.1 c33.2
              refine qst (.pointer (some (padd A0_ (((w64 (u4 - 1))).toNat * 2)))) hk rfl rfl rfl rfl (fun w hs => si rfl hk rfl rfl rfl rfl un38 sz62 c33.1 c33.2 hAc33 fun a hk => qe hk) fun a hk => ?_
              refine qst (.pointer (some (padd A0_ (((w64 (u4 - 1))).toNat * 2)))) hk rfl rfl rfl rfl (fun w hs => sf (padd A0_ (((w64 (u4 - 1))).toNat * 2 + 0)) rfl hk rfl rfl rfl fd62_0 (padd_add _ _ _) fun a hk => qe hk) fun a hk => ?_
              obtain ⟨_, rfl, e36⟩ := (v0_).at_ z_Entry (w64 (u4 - 1)) c33.1 c33.2
              refine qst (.int .i64 ((l0.getD ((w64 (u4 - 1))).toNat z_Entry).Key)) hk rfl rfl rfl rfl (fun w hs => sl (v := (.int .i64 ((l0.getD ((w64 (u4 - 1))).toNat z_Entry).Key))) rfl hk rfl rfl rfl ag3 ((e36 0 _ rfl).cell (hs.hasD (k := 1) rfl)) fun a hk => qe hk) fun a hk => ?_
              refine qst (.pointer (some ⟨b22, 0, none⟩)) hk rfl rfl rfl rfl (fun w hs => sf ⟨b22, 0, none⟩ rfl hk rfl rfl rfl fd62_0 rfl fun a hk => qe hk) fun a hk => ?_
              refine qst (.int .i64 ((l0.getD u4.toNat z_Entry).Key)) hk rfl rfl rfl rfl (fun w hs => sl rfl hk rfl rfl rfl ag3 (box_cell hs (k := 2) rfl rfl) fun a hk => qe hk) fun a hk => ?_
              refine qst (.bool (decide (((l0.getD ((w64 (u4 - 1))).toNat z_Entry).Key) ≥ ((l0.getD u4.toNat z_Entry).Key)))) hk rfl rfl rfl rfl (fun w hs => sv (.bool (decide (((l0.getD ((w64 (u4 - 1))).toNat z_Entry).Key) ≥ ((l0.getD u4.toNat z_Entry).Key)))) hk rfl rfl rfl fun a hk => qe hk) fun a hk => ?_
              refine qst (.bool (decide (((l0.getD ((w64 (u4 - 1))).toNat z_Entry).Key) ≥ ((l0.getD u4.toNat z_Entry).Key)))) hk rfl rfl rfl rfl (fun w hs => sv (.bool (decide (((l0.getD ((w64 (u4 - 1))).toNat z_Entry).Key) ≥ ((l0.getD u4.toNat z_Entry).Key)))) hk rfl rfl rfl fun a hk => qe hk) fun a hk => ?_
              refine qst (.bool (decide (((l0.getD ((w64 (u4 - 1))).toNat z_Entry).Key) ≥ ((l0.getD u4.toNat z_Entry).Key)))) hk rfl rfl rfl rfl (fun w hs => sv (.bool (decide (((l0.getD ((w64 (u4 - 1))).toNat z_Entry).Key) ≥ ((l0.getD u4.toNat z_Entry).Key)))) hk rfl rfl rfl fun a hk => qe hk) fun a hk => ?_
              refine wml_nil fun w hF _ => ?_
              have hs := hs.f hF
              refine hK23 _ _ ?_
              rcases cond_some H with ⟨c37, H⟩ | ⟨c37, H⟩
              · have hk := hk.lit 36 c37 rfl
                refine cnd_true hk rfl rfl ?_
                apply wp_seq_k; intro K38 hK38
                apply wp_region_lit
                refine sa _ rfl hk rfl rfl rfl fun a hk => ?_
                show wpList _ _ _ [] _ _
                refine wpList_nil ?_
                refine hK38 _ _ ?_
                refine wp_ret ?_
                obtain rfl := Option.some.inj H
                have ho5 := h12
                try dsimp only at ho5
                subst ho5
                have H := HL7
                try dsimp only at H
                obtain rfl := Option.some.inj H
                exact fin hk _ [(.bool false)] rfl ⟨rfl, trivial⟩ ⟨rfl, (hs.pick [] rfl).dnil⟩
              · have hk := hk.lit 36 c37 rfl
                refine cnd_false hk rfl rfl ?_
                refine wp_skip ?_
                refine hK16 _ _ ?_
                apply wp_region_lit
                refine sv (.int .i64 (w64 (u4 + 1))) hk rfl rfl rfl fun a hk => ?_
                refine sm _ rfl hk rfl rfl rfl fun a hk => ?_
                show wpList _ _ _ [] _ _
                refine wpList_nil ?_
                obtain rfl := Option.some.inj H
                obtain ⟨m39, hmm39, h12⟩ := h12
                show ∃ n', n' < _ ∧ I9 n' _ _
                refine ⟨m39, hmm39, ?_⟩
                rw [hI9]
                exact ⟨(w64 (u4 + 1)), h12, (hk.c 0 rfl (hk.c 5 rfl (hk.c 6 rfl (hk.c 7 rfl hk.k)))), (hs.pick [] rfl)⟩
            · have hk := hk.lit 25 c32 rfl
              refine qsk hk rfl rfl rfl rfl fun a hk => ?_
              refine qsk hk rfl rfl rfl rfl fun a hk => ?_
              refine qsk hk rfl rfl rfl rfl fun a hk => ?_
              refine qsk hk rfl rfl rfl rfl fun a hk => ?_
              refine qsk hk rfl rfl rfl rfl fun a hk => ?_
              refine qsk hk rfl rfl rfl rfl fun a hk => ?_
              refine qsk hk rfl rfl rfl rfl fun a hk => ?_
              refine qsk hk rfl rfl rfl rfl fun a hk => ?_
              refine qsk hk rfl rfl rfl rfl fun a hk => ?_
              refine qst (.bool false) hk rfl rfl rfl rfl (fun w hs => sv (.bool false) hk rfl rfl rfl fun a hk => qe hk) fun a hk => ?_
              refine qst (.bool false) hk rfl rfl rfl rfl (fun w hs => sv (.bool false) hk rfl rfl rfl fun a hk => qe hk) fun a hk => ?_
              refine wml_nil fun w hF _ => ?_
              have hs := hs.f hF
              refine hK23 _ _ ?_
              refine cnd_false hk rfl rfl ?_
              refine wp_skip ?_
              refine hK16 _ _ ?_
              apply wp_region_lit
              refine sv (.int .i64 (w64 (u4 + 1))) hk rfl rfl rfl fun a hk => ?_
              refine sm _ rfl hk rfl rfl rfl fun a hk => ?_
              show wpList _ _ _ [] _ _
              refine wpList_nil ?_
              obtain rfl := Option.some.inj H
              obtain ⟨m40, hmm40, h12⟩ := h12
              show ∃ n', n' < _ ∧ I9 n' _ _
              refine ⟨m40, hmm40, ?_⟩
              rw [hI9]
              exact ⟨(w64 (u4 + 1)), h12, (hk.c 0 rfl (hk.c 5 rfl (hk.c 6 rfl (hk.c 7 rfl hk.k)))), (hs.pick [] rfl)⟩
      · have hk := hk.lit 8 c15 rfl
        refine cnd_false hk rfl rfl ?_
        refine wp_exit ?_
        obtain rfl := Option.some.inj H
        show R8 _ _
        rw [hR8]
        exact ⟨h12.symm, (hk.c 0 rfl hk.k), (hs.pick [] rfl)⟩
  · intro a w hR0
    rw [hR8] at hR0
    obtain ⟨rfl, hk, hs⟩ := hR0
    have H := HL7
    try dsimp only at H
    refine hK2 _ _ ?_
    apply wp_seq_k; intro K41 hK41
    apply wp_region_lit
    refine sm _ rfl hk rfl rfl rfl fun a hk => ?_
    refine sle rfl hk rfl rfl rfl un38 fun a hk => ?_
    refine sv (.bool (decide ((l0.length : Int) ≤ 11))) hk rfl rfl rfl fun a hk => ?_
    refine sa _ rfl hk rfl rfl rfl fun a hk => ?_
    show wpList _ _ _ [] _ _
    refine wpList_nil ?_
    refine hK41 _ _ ?_
    refine wp_ret ?_
    obtain rfl := Option.some.inj H
    exact fin hk _ [(.bool (decide ((l0.length : Int) ≤ 11)))] rfl ⟨rfl, trivial⟩ ⟨rfl, (hs.pick [] rfl).dnil⟩

noncomputable def laws_eqEntry.f (x0 : S_Entry) (x1 : S_Entry) : Option (Bool) :=
  (bif (x0.Key != x1.Key) then (some false) else (bif (x0.Value != x1.Value) then (some false) else (some true)))
theorem laws_eqEntry_t (w0 : World) (x0 : S_Entry) (x1 : S_Entry) (r : Bool) (H : laws_eqEntry.f x0 x1 = some r) :
    Calls Try.prog 40 #[.agg #[.int .i64 x0.Key, .int .i64 x0.Value], .agg #[.int .i64 x1.Key, .int .i64 x1.Value]] w0 (Ret (fun v w => v = .bool r ∧ Sat [] w0 w [] [])) := by
  have hs : Sat [] w0 w0 [] [] := Sat.init w0 [] [] (by simp) (by simp) List.nodup_nil (by simp [blks])
  unfold laws_eqEntry.f at H
  refine enter Try.func40 rfl Try.ntmps40 rfl fun a hk => ?_
  apply wp_seq_k; intro K1 hK1
  apply wp_region_lit
  refine sbx 1 hs rfl hk rfl rfl rfl rfl fun b2 w a hk hs => ?_
  refine sbx 2 hs rfl hk rfl rfl rfl rfl fun b3 w a hk hs => ?_
  refine sa _ rfl hk rfl rfl rfl fun a hk => ?_
  show wpList _ _ _ [] _ _
  refine wpList_nil ?_
  refine hK1 _ _ ?_
  apply wp_seq_k; intro K4 hK4
  apply wp_seq_k; intro K5 hK5
  apply wp_region_lit
  refine sf ⟨b2, 0, none⟩ rfl hk rfl rfl rfl fd62_0 rfl fun a hk => ?_
  refine sl rfl hk rfl rfl rfl ag3 (box_cell hs (k := 1) rfl rfl) fun a hk => ?_
  refine sf ⟨b3, 0, none⟩ rfl hk rfl rfl rfl fd62_0 rfl fun a hk => ?_
  refine sl rfl hk rfl rfl rfl ag3 (box_cell hs (k := 2) rfl rfl) fun a hk => ?_
  refine sv (.bool (x0.Key != x1.Key)) hk rfl rfl rfl fun a hk => ?_
  show wpList _ _ _ [] _ _
  refine wpList_nil ?_
  refine hK5 _ _ ?_
  rcases cond_some H with ⟨c6, H⟩ | ⟨c6, H⟩
  · have hk := hk.lit 9 c6 rfl
    refine cnd_true hk rfl rfl ?_
    apply wp_seq_k; intro K7 hK7
    apply wp_region_lit
    refine sa _ rfl hk rfl rfl rfl fun a hk => ?_
    show wpList _ _ _ [] _ _
    refine wpList_nil ?_
    refine hK7 _ _ ?_
    refine wp_ret ?_
    obtain rfl := Option.some.inj H
    exact fin hk _ [(.bool false)] rfl ⟨rfl, trivial⟩ ⟨rfl, (hs.pick [] rfl).dnil⟩
  · have hk := hk.lit 9 c6 rfl
    refine cnd_false hk rfl rfl ?_
    refine wp_skip ?_
    refine hK4 _ _ ?_
    apply wp_seq_k; intro K8 hK8
    apply wp_seq_k; intro K9 hK9
    apply wp_region_lit
    refine sf ⟨b2, 1, none⟩ rfl hk rfl rfl rfl fd62_1 rfl fun a hk => ?_
    refine sl rfl hk rfl rfl rfl ag3 (box_cell hs (k := 1) rfl rfl) fun a hk => ?_
    refine sf ⟨b3, 1, none⟩ rfl hk rfl rfl rfl fd62_1 rfl fun a hk => ?_
    refine sl rfl hk rfl rfl rfl ag3 (box_cell hs (k := 2) rfl rfl) fun a hk => ?_
    refine sv (.bool (x0.Value != x1.Value)) hk rfl rfl rfl fun a hk => ?_
    show wpList _ _ _ [] _ _
    refine wpList_nil ?_
    refine hK9 _ _ ?_
    rcases cond_some H with ⟨c10, H⟩ | ⟨c10, H⟩
    · have hk := hk.lit 14 c10 rfl
      refine cnd_true hk rfl rfl ?_
      apply wp_seq_k; intro K11 hK11
      apply wp_region_lit
      refine sa _ rfl hk rfl rfl rfl fun a hk => ?_
      show wpList _ _ _ [] _ _
      refine wpList_nil ?_
      refine hK11 _ _ ?_
      refine wp_ret ?_
      obtain rfl := Option.some.inj H
      exact fin hk _ [(.bool false)] rfl ⟨rfl, trivial⟩ ⟨rfl, (hs.pick [] rfl).dnil⟩
    · have hk := hk.lit 14 c10 rfl
      refine cnd_false hk rfl rfl ?_
      refine wp_skip ?_
      refine hK8 _ _ ?_
      apply wp_seq_k; intro K12 hK12
      apply wp_region_lit
      refine sa _ rfl hk rfl rfl rfl fun a hk => ?_
      show wpList _ _ _ [] _ _
      refine wpList_nil ?_
      refine hK12 _ _ ?_
      refine wp_ret ?_
      obtain rfl := Option.some.inj H
      exact fin hk _ [(.bool true)] rfl ⟨rfl, trivial⟩ ⟨rfl, (hs.pick [] rfl).dnil⟩

noncomputable def laws_eqEntryS.s0 (l0 : List S_Entry) (l1 : List S_Entry) (u8 : Int) : Option ((Int) ⊕ Ex (Unit) (Bool)) :=
  (bif (decide (u8 < (l0.length : Int))) then (if 0 ≤ u8 ∧ u8 < (l0.length : Int) then (if 0 ≤ u8 ∧ u8 < (l1.length : Int) then ((laws_eqEntry.f (l0.getD u8.toNat z_Entry) (l1.getD u8.toNat z_Entry)).bind fun y30 => (bif (!y30) then (some (.inr (.ret false))) else (some (.inl (w64 (u8 + 1)))))) else none) else none) else (some (.inr (.out ()))))
noncomputable def laws_eqEntryS.f (l0 : List S_Entry) (l1 : List S_Entry) : Option (Bool) :=
  (bif ((l0.length : Int) != (l1.length : Int)) then (some false) else ((loopO (fun s => laws_eqEntryS.s0 l0 l1 s) 0).bind fun o => match o with | .out _ => (some true) | .ret r => (some r)))
theorem laws_eqEntryS_t (w0 : World) (A0_ : Option Addr) (p0_ : Nat) (l0 : List S_Entry) (k0_ : Chunk) (v0_ : View L_Entry A0_ p0_ l0 k0_) (w0_ : Has w0 k0_) (A1_ : Option Addr) (p1_ : Nat) (l1 : List S_Entry) (k1_ : Chunk) (v1_ : View L_Entry A1_ p1_ l1 k1_) (w1_ : Has w0 k1_) (r : Bool) (H : laws_eqEntryS.f l0 l1 = some r) :
    Calls Try.prog 20 #[.slice A0_ l0.length p0_, .slice A1_ l1.length p1_] w0 (Ret (fun v w => v = .bool r ∧ Sat [] w0 w [] [])) := by
  have hs : Sat [] w0 w0 [(1, k0_), (2, k1_)] [] := Sat.init w0 [(1, k0_), (2, k1_)] [] (by simp only [List.mem_cons, List.not_mem_nil, or_false]; rintro x (rfl | rfl) <;> assumption) (by simp) List.nodup_nil (by simp [blks])
  unfold laws_eqEntryS.f at H
  refine enter Try.func20 rfl Try.ntmps20 rfl fun a hk => ?_
  apply wp_seq_k; intro K1 hK1
  apply wp_region_lit
  refine sa _ rfl hk rfl rfl rfl fun a hk => ?_
  show wpList _ _ _ [] _ _
  refine wpList_nil ?_
  refine hK1 _ _ ?_
  apply wp_seq_k; intro K2 hK2
  apply wp_seq_k; intro K3 hK3
  apply wp_region_lit
  refine sm _ rfl hk rfl rfl rfl fun a hk => ?_
  refine sle rfl hk rfl rfl rfl un38 fun a hk => ?_
  refine sm _ rfl hk rfl rfl rfl fun a hk => ?_
  refine sle rfl hk rfl rfl rfl un38 fun a hk => ?_
  refine sv (.bool ((l0.length : Int) != (l1.length : Int))) hk rfl rfl rfl fun a hk => ?_
  show wpList _ _ _ [] _ _
  refine wpList_nil ?_
  refine hK3 _ _ ?_
  rcases cond_some H with ⟨c4, H⟩ | ⟨c4, H⟩
  · have hk := hk.lit 10 c4 rfl
    refine cnd_true hk rfl rfl ?_
    apply wp_seq_k; intro K5 hK5
    apply wp_region_lit
    refine sa _ rfl hk rfl rfl rfl fun a hk => ?_
    show wpList _ _ _ [] _ _
    refine wpList_nil ?_
    refine hK5 _ _ ?_
    refine wp_ret ?_
    obtain rfl := Option.some.inj H
    exact fin hk _ [(.bool false)] rfl ⟨rfl, trivial⟩ ⟨rfl, (hs.pick [] rfl).dnil⟩
  · have hk := hk.lit 10 c4 rfl
    refine cnd_false hk rfl rfl ?_
    refine wp_skip ?_
    refine hK2 _ _ ?_
    apply wp_seq_k; intro K6 hK6
    apply wp_seq_k; intro K7 hK7
    apply wp_region_lit
    refine sa _ rfl hk rfl rfl rfl fun a hk => ?_
    show wpList _ _ _ [] _ _
    refine wpList_nil ?_
    refine hK7 _ _ ?_
    obtain ⟨o9, h10, HL11⟩ := bind_some H
    clear H
    obtain ⟨R12, hR12⟩ : ∃ R : Act → World → Prop, R = fun a w => o9 = .out () ∧ Kn [] 27 a ∧ Sat [] w0 w [(1, k0_), (2, k1_)] [] := ⟨_, rfl⟩
    refine wp_cutq R12 ?_ ?_
    · refine wp_block ?_
      obtain ⟨fu14, h10⟩ := loopO_some h10
      obtain ⟨I13, hI13⟩ : ∃ I : Nat → Act → World → Prop, I = fun fu a w => ∃ (u8 : Int) , loopN (fun s => laws_eqEntryS.s0 l0 l1 s) fu u8 = some o9 ∧ Kn [(0, (.slice A0_ l0.length p0_)), (1, (.slice A1_ l1.length p1_)), (5, (.int .i64 u8))] 27 a ∧ Sat [] w0 w [(1, k0_), (2, k1_)] [] := ⟨_, rfl⟩
      refine wp_loop_ghost I13 fu14 ?_ ?_
      · rw [hI13]
        exact ⟨0, h10, (hk.c 0 rfl (hk.c 1 rfl (hk.c 5 rfl hk.k))), (hs.pick [] rfl)⟩
      · clear h10 hk hs
        intro fu14 a w hI0
        rw [hI13] at hI0
        obtain ⟨u8, hi, hk, hs⟩ := hI0
        obtain ⟨x15, H, h16⟩ := loop_round hi
        try dsimp only at H
        unfold laws_eqEntryS.s0 at H
        apply wp_seq_k; intro K17 hK17
        apply wp_seq_k; intro K18 hK18
        apply wp_region_lit
        refine sm _ rfl hk rfl rfl rfl fun a hk => ?_
        refine sm _ rfl hk rfl rfl rfl fun a hk => ?_
        refine sle rfl hk rfl rfl rfl un38 fun a hk => ?_
        refine sv (.bool (decide (u8 < (l0.length : Int)))) hk rfl rfl rfl fun a hk => ?_
        show wpList _ _ _ [] _ _
        refine wpList_nil ?_
        refine hK18 _ _ ?_
        rcases cond_some H with ⟨c19, H⟩ | ⟨c19, H⟩
        · have hk := hk.lit 14 c19 rfl
          refine cnd_true hk rfl rfl ?_
          refine wp_skip ?_
          refine hK17 _ _ ?_
          apply wp_seq_k; intro K20 hK20
          refine wp_block ?_
          apply wp_seq_k; intro K21 hK21
          refine wp_region_mix [(0, true), (1, true), (2, true), (3, true), (4, true), (5, true), (6, true), (7, true), (8, true), (9, true)] mo (by kernel_rfl) hs fun _ => ?_
          have hs := hs.drew
          refine qst (.slice A0_ l0.length p0_) hk rfl rfl rfl rfl (fun w hs => sm _ rfl hk rfl rfl rfl fun a hk => qe hk) fun a hk => ?_
          refine qst (.int .i64 u8) hk rfl rfl rfl rfl (fun w hs => sm _ rfl hk rfl rfl rfl fun a hk => qe hk) fun a hk => ?_
          rcases ite_some H with ⟨c22, H⟩ | ⟨_, H⟩
          rotate_left
          · cases H
          obtain ⟨b23, q24, hAc22⟩ := (v0_).some_ u8 c22.1 c22.2
          refine qst (.pointer (some (padd A0_ (u8.toNat * 2)))) hk rfl rfl rfl rfl (fun w hs => si rfl hk rfl rfl rfl rfl un38 sz62 c22.1 c22.2 hAc22 fun a hk => qe hk) fun a hk => ?_
          obtain ⟨_, rfl, e25⟩ := (v0_).at_ z_Entry u8 c22.1 c22.2
          refine qst (.agg #[.int .i64 ((l0.getD u8.toNat z_Entry).Key), .int .i64 ((l0.getD u8.toNat z_Entry).Value)]) hk rfl rfl rfl rfl (fun w hs => sln [.int .i64 ((l0.getD u8.toNat z_Entry).Key), .int .i64 ((l0.getD u8.toNat z_Entry).Value)] rfl hk rfl rfl rfl ag62 sz62 (cells_at e25 (hs.hasD (k := 1) rfl)) fun a hk => qe hk) fun a hk => ?_
          refine qst (.slice A1_ l1.length p1_) hk rfl rfl rfl rfl (fun w hs => sm _ rfl hk rfl rfl rfl fun a hk => qe hk) fun a hk => ?_
          refine qst (.int .i64 u8) hk rfl rfl rfl rfl (fun w hs => sm _ rfl hk rfl rfl rfl fun a hk => qe hk) fun a hk => ?_
          rcases ite_some H with ⟨c26, H⟩ | ⟨_, H⟩
          rotate_left
          · cases H
          obtain ⟨b27, q28, hAc26⟩ := (v1_).some_ u8 c26.1 c26.2
          refine qst (.pointer (some (padd A1_ (u8.toNat * 2)))) hk rfl rfl rfl rfl (fun w hs => si rfl hk rfl rfl rfl rfl un38 sz62 c26.1 c26.2 hAc26 fun a hk => qe hk) fun a hk => ?_
          obtain ⟨_, rfl, e29⟩ := (v1_).at_ z_Entry u8 c26.1 c26.2
          refine qst (.agg #[.int .i64 ((l1.getD u8.toNat z_Entry).Key), .int .i64 ((l1.getD u8.toNat z_Entry).Value)]) hk rfl rfl rfl rfl (fun w hs => sln [.int .i64 ((l1.getD u8.toNat z_Entry).Key), .int .i64 ((l1.getD u8.toNat z_Entry).Value)] rfl hk rfl rfl rfl ag62 sz62 (cells_at e29 (hs.hasD (k := 2) rfl)) fun a hk => qe hk) fun a hk => ?_
          obtain ⟨y30, h31, H⟩ := bind_some H
          refine qst (.bool y30) hk rfl rfl rfl rfl (fun w hs => sc rfl en40 hk rfl rfl rfl (laws_eqEntry_t _ (l0.getD u8.toNat z_Entry) (l1.getD u8.toNat z_Entry) _ h31) fun _ w hR a hk => qc hR hk) fun a hk => ?_
          refine qst (.bool (!y30)) hk rfl rfl rfl rfl (fun w hs => sv (.bool (!y30)) hk rfl rfl rfl fun a hk => qe hk) fun a hk => ?_
          refine wml_nil fun w hF _ => ?_
          have hs := hs.f hF
          refine hK21 _ _ ?_
          rcases cond_some H with ⟨c32, H⟩ | ⟨c32, H⟩
          · have hk := hk.lit 26 c32 rfl
            refine cnd_true hk rfl rfl ?_
            apply wp_seq_k; intro K33 hK33
            apply wp_region_lit
            refine sa _ rfl hk rfl rfl rfl fun a hk => ?_
            show wpList _ _ _ [] _ _
            refine wpList_nil ?_
            refine hK33 _ _ ?_
            refine wp_ret ?_
            obtain rfl := Option.some.inj H
            have ho9 := h16
            try dsimp only at ho9
            subst ho9
            have H := HL11
            try dsimp only at H
            obtain rfl := Option.some.inj H
            exact fin hk _ [(.bool false)] rfl ⟨rfl, trivial⟩ ⟨rfl, (hs.pick [] rfl).dnil⟩
          · have hk := hk.lit 26 c32 rfl
            refine cnd_false hk rfl rfl ?_
            refine wp_skip ?_
            refine hK20 _ _ ?_
            apply wp_region_lit
            refine sm _ rfl hk rfl rfl rfl fun a hk => ?_
            refine sv (.int .i64 (w64 (u8 + 1))) hk rfl rfl rfl fun a hk => ?_
            refine sa _ rfl hk rfl rfl rfl fun a hk => ?_
            show wpList _ _ _ [] _ _
            refine wpList_nil ?_
            obtain rfl := Option.some.inj H
            obtain ⟨m34, hmm34, h16⟩ := h16
            show ∃ n', n' < _ ∧ I13 n' _ _
            refine ⟨m34, hmm34, ?_⟩
            rw [hI13]
            exact ⟨(w64 (u8 + 1)), h16, (hk.c 0 rfl (hk.c 1 rfl (hk.c 5 rfl hk.k))), (hs.pick [] rfl)⟩
        · have hk := hk.lit 14 c19 rfl
          refine cnd_false hk rfl rfl ?_
          refine wp_exit ?_
          obtain rfl := Option.some.inj H
          show R12 _ _
          rw [hR12]
          exact ⟨h16.symm, hk.k, (hs.pick [] rfl)⟩
    · intro a w hR0
      rw [hR12] at hR0
      obtain ⟨rfl, hk, hs⟩ := hR0
      have H := HL11
      try dsimp only at H
      refine hK6 _ _ ?_
      apply wp_seq_k; intro K35 hK35
      apply wp_region_lit
      refine sa _ rfl hk rfl rfl rfl fun a hk => ?_
      show wpList _ _ _ [] _ _
      refine wpList_nil ?_
      refine hK35 _ _ ?_
      refine wp_ret ?_
      obtain rfl := Option.some.inj H
      exact fin hk _ [(.bool true)] rfl ⟨rfl, trivial⟩ ⟨rfl, (hs.pick [] rfl).dnil⟩

noncomputable def laws_FnExactMapOK.f (l0 : List S_Entry) : Option (Bool) :=
  ((laws_szEntryS.f l0 1048576).bind fun y4 => (bif (decide (y4 < 0)) then (some true) else ((laws_toEntryS.f l0).bind fun y11 => ((spec_MapOK.f y11).bind fun y17 => ((laws_toEntryS.f l0).bind fun y20 => ((impl_MapOK.f y20).bind fun y27 => (bif (!(y27 == y17)) then (some false) else ((laws_toEntryS.f l0).bind fun y35 => ((laws_eqEntryS.f y20 y35).bind fun y41 => (bif (!y41) then (some false) else (some true)))))))))))
theorem laws_FnExactMapOK_t (w0 : World) (A0_ : Option Addr) (p0_ : Nat) (l0 : List S_Entry) (k0_ : Chunk) (v0_ : View L_Entry A0_ p0_ l0 k0_) (w0_ : Has w0 k0_) (r : Bool) (H : laws_FnExactMapOK.f l0 = some r) :
    Calls Try.prog 5 #[.slice A0_ l0.length p0_] w0 (Ret (fun v w => v = .bool r ∧ Sat [] w0 w [] [])) := by
  have hs : Sat [] w0 w0 [(1, k0_)] [] := Sat.init w0 [(1, k0_)] [] (by simp only [List.mem_cons, List.not_mem_nil, or_false]; rintro x (rfl) <;> assumption) (by simp) List.nodup_nil (by simp [blks])
  unfold laws_FnExactMapOK.f at H
  refine enter Try.func5 rfl Try.ntmps5 rfl fun a hk => ?_
  apply wp_seq_k; intro K1 hK1
  apply wp_region_lit
  refine sa _ rfl hk rfl rfl rfl fun a hk => ?_
  show wpList _ _ _ [] _ _
  refine wpList_nil ?_
  refine hK1 _ _ ?_
  apply wp_seq_k; intro K2 hK2
  apply wp_region_lit
  refine sa _ rfl hk rfl rfl rfl fun a hk => ?_
  show wpList _ _ _ [] _ _
  refine wpList_nil ?_
  refine hK2 _ _ ?_
  apply wp_seq_k; intro K3 hK3
  apply wp_region_lit
  refine sm _ rfl hk rfl rfl rfl fun a hk => ?_
  refine sm _ rfl hk rfl rfl rfl fun a hk => ?_
  obtain ⟨y4, h5, H⟩ := bind_some H
  refine sc rfl en16 hk rfl rfl rfl (laws_szEntryS_t _ A0_ p0_ l0 _ v0_ (hs.hasD (k := 1) rfl) 1048576 _ h5) ?_
  rintro _ w ⟨rfl, hG⟩ a hk
  have hs := hs.call0 hG
  refine sa _ rfl hk rfl rfl rfl fun a hk => ?_
  show wpList _ _ _ [] _ _
  refine wpList_nil ?_
  refine hK3 _ _ ?_
  apply wp_seq_k; intro K6 hK6
  apply wp_seq_k; intro K7 hK7
  apply wp_region_lit
  refine sm _ rfl hk rfl rfl rfl fun a hk => ?_
  refine sv (.bool (decide (y4 < 0))) hk rfl rfl rfl fun a hk => ?_
  show wpList _ _ _ [] _ _
  refine wpList_nil ?_
  refine hK7 _ _ ?_
  rcases cond_some H with ⟨c8, H⟩ | ⟨c8, H⟩
  · have hk := hk.lit 11 c8 rfl
    refine cnd_true hk rfl rfl ?_
    apply wp_seq_k; intro K9 hK9
    apply wp_region_lit
    refine sa _ rfl hk rfl rfl rfl fun a hk => ?_
    show wpList _ _ _ [] _ _
    refine wpList_nil ?_
    refine hK9 _ _ ?_
    refine wp_ret ?_
    obtain rfl := Option.some.inj H
    exact fin hk _ [(.bool true)] rfl ⟨rfl, trivial⟩ ⟨rfl, (hs.pick [] rfl).dnil⟩
  · have hk := hk.lit 11 c8 rfl
    refine cnd_false hk rfl rfl ?_
    refine wp_skip ?_
    refine hK6 _ _ ?_
    apply wp_seq_k; intro K10 hK10
    apply wp_region_lit
    refine sm _ rfl hk rfl rfl rfl fun a hk => ?_
    obtain ⟨y11, h12, H⟩ := bind_some H
    refine sc rfl en18 hk rfl rfl rfl (laws_toEntryS_t _ A0_ p0_ l0 _ v0_ (hs.hasD (k := 1) rfl) _ h12) ?_
    rintro _ w ⟨A13, p14, k15, rfl, o16, hG⟩ a hk
    have hs := hs.call0k hG [2] rfl
    obtain ⟨y17, h18, H⟩ := bind_some H
    refine sc rfl en17 hk rfl rfl rfl (spec_MapOK_t _ A13 p14 y11 _ o16.view (hs.hasG (k := 2) rfl) _ h18) ?_
    rintro _ w ⟨rfl, hG⟩ a hk
    have hs := hs.call0 hG
    refine sa _ rfl hk rfl rfl rfl fun a hk => ?_
    show wpList _ _ _ [] _ _
    refine wpList_nil ?_
    refine hK10 _ _ ?_
    apply wp_seq_k; intro K19 hK19
    apply wp_region_lit
    refine sm _ rfl hk rfl rfl rfl fun a hk => ?_
    obtain ⟨y20, h21, H⟩ := bind_some H
    refine sc rfl en18 hk rfl rfl rfl (laws_toEntryS_t _ A0_ p0_ l0 _ v0_ (hs.hasD (k := 1) rfl) _ h21) ?_
    rintro _ w ⟨A22, p23, k24, rfl, o25, hG⟩ a hk
    have hs := hs.call0k hG [3] rfl
    refine sa _ rfl hk rfl rfl rfl fun a hk => ?_
    show wpList _ _ _ [] _ _
    refine wpList_nil ?_
    refine hK19 _ _ ?_
    apply wp_seq_k; intro K26 hK26
    apply wp_region_lit
    refine sm _ rfl hk rfl rfl rfl fun a hk => ?_
    obtain ⟨y27, h28, H⟩ := bind_some H
    refine sc rfl en19 hk rfl rfl rfl (impl_MapOK_t _ A22 p23 y20 _ o25.view (hs.hasG (k := 3) rfl) _ h28) ?_
    rintro _ w ⟨rfl, hG⟩ a hk
    have hs := hs.call0 hG
    refine sa _ rfl hk rfl rfl rfl fun a hk => ?_
    show wpList _ _ _ [] _ _
    refine wpList_nil ?_
    refine hK26 _ _ ?_
    apply wp_seq_k; intro K29 hK29
    apply wp_seq_k; intro K30 hK30
    apply wp_region_lit
    refine sm _ rfl hk rfl rfl rfl fun a hk => ?_
    refine sm _ rfl hk rfl rfl rfl fun a hk => ?_
    refine sbn rfl hk rfl rfl rfl rfl un4 fun a hk => ?_
    show wpList _ _ _ [] _ _
    refine wpList_nil ?_
    refine hK30 _ _ ?_
    rcases cond_some H with ⟨c31, H⟩ | ⟨c31, H⟩
    · have hk := hk.lit 21 c31 rfl
      refine cnd_true hk rfl rfl ?_
      apply wp_seq_k; intro K32 hK32
      apply wp_region_lit
      refine sa _ rfl hk rfl rfl rfl fun a hk => ?_
      show wpList _ _ _ [] _ _
      refine wpList_nil ?_
      refine hK32 _ _ ?_
      refine wp_ret ?_
      obtain rfl := Option.some.inj H
      exact fin hk _ [(.bool false)] rfl ⟨rfl, trivial⟩ ⟨rfl, (hs.pick [] rfl).dnil⟩
    · have hk := hk.lit 21 c31 rfl
      refine cnd_false hk rfl rfl ?_
      refine wp_skip ?_
      refine hK29 _ _ ?_
      apply wp_seq_k; intro K33 hK33
      apply wp_seq_k; intro K34 hK34
      apply wp_region_lit
      refine sm _ rfl hk rfl rfl rfl fun a hk => ?_
      refine sm _ rfl hk rfl rfl rfl fun a hk => ?_
      obtain ⟨y35, h36, H⟩ := bind_some H
      refine sc rfl en18 hk rfl rfl rfl (laws_toEntryS_t _ A0_ p0_ l0 _ v0_ (hs.hasD (k := 1) rfl) _ h36) ?_
      rintro _ w ⟨A37, p38, k39, rfl, o40, hG⟩ a hk
      have hs := hs.call0k hG [4] rfl
      obtain ⟨y41, h42, H⟩ := bind_some H
      refine sc rfl en20 hk rfl rfl rfl (laws_eqEntryS_t _ A22 p23 y20 _ o25.view (hs.hasG (k := 3) rfl) A37 p38 y35 _ o40.view (hs.hasG (k := 4) rfl) _ h42) ?_
      rintro _ w ⟨rfl, hG⟩ a hk
      have hs := hs.call0 hG
      refine sv (.bool (!y41)) hk rfl rfl rfl fun a hk => ?_
      show wpList _ _ _ [] _ _
      refine wpList_nil ?_
      refine hK34 _ _ ?_
      rcases cond_some H with ⟨c43, H⟩ | ⟨c43, H⟩
      · have hk := hk.lit 26 c43 rfl
        refine cnd_true hk rfl rfl ?_
        apply wp_seq_k; intro K44 hK44
        apply wp_region_lit
        refine sa _ rfl hk rfl rfl rfl fun a hk => ?_
        show wpList _ _ _ [] _ _
        refine wpList_nil ?_
        refine hK44 _ _ ?_
        refine wp_ret ?_
        obtain rfl := Option.some.inj H
        exact fin hk _ [(.bool false)] rfl ⟨rfl, trivial⟩ ⟨rfl, (hs.pick [] rfl).dnil⟩
      · have hk := hk.lit 26 c43 rfl
        refine cnd_false hk rfl rfl ?_
        refine wp_skip ?_
        refine hK33 _ _ ?_
        apply wp_seq_k; intro K45 hK45
        apply wp_region_lit
        refine sa _ rfl hk rfl rfl rfl fun a hk => ?_
        show wpList _ _ _ [] _ _
        refine wpList_nil ?_
        refine hK45 _ _ ?_
        refine wp_ret ?_
        obtain rfl := Option.some.inj H
        exact fin hk _ [(.bool true)] rfl ⟨rfl, trivial⟩ ⟨rfl, (hs.pick [] rfl).dnil⟩

end Go.Proofs.Ytjelagjijnpkdaa
