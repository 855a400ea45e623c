/- The functions that FnScan reaches: for each a model and the walk that shows that the Go code comes to it. -/
import Derived.Test.YtlbbkehdfgjneaaT
namespace Go.Proofs.Ytlbbkehdfgjneaa
open Go Go.Z Go.Proofs Go.MuLone Go.ChangeShapes Go.WideShapes Go.ChangeAt Go.RowKit
set_option linter.unusedVariables false
set_option linter.unusedSimpArgs false
noncomputable def impl_within.f (x0 : Int) (x1 : Int) (x2 : Int) : Option (Bool) :=
  (((bif (decide (x1 ≤ x0)) then (some (decide (x0 ≤ x2))) else (some false)) : Option (Bool)).bind fun u4 => (some u4))
set_option maxRecDepth 100000 in
set_option maxHeartbeats 0 in
theorem impl_within_t (w0 : World) (x0 : Int) (x1 : Int) (x2 : Int) (r : Bool) (H : impl_within.f x0 x1 x2 = some r) :
    Calls Try.prog 102 #[.int .i64 x0, .int .i64 x1, .int .i64 x2] w0 (Ret (fun v w => v = .bool r ∧ Sat [] w0 w [] [])) := by
  have hs : Sat [] w0 w0 [] [] := Sat.init w0 [] [] (by simp) (by simp) List.nodup_nil (by simp [blks])
  unfold impl_within.f at H
  refine enter Try.func102 rfl Try.ntmps102 rfl fun a hk => ?_
  apply wp_seq_k; intro K1 hK1
  apply wp_region_lit
  refine sa _ rfl hk rfl rfl rfl fun a hk => ?_
  show wpList _ _ _ [] _ _
  refine wpList_nil ?_
  refine hK1 _ _ ?_
  apply wp_seq_k; intro K2 hK2
  obtain ⟨o5, h6, HL7⟩ := bind_some H
  clear H
  obtain ⟨R8, hR8⟩ : ∃ R : Act → World → Prop, R = fun a w => ∃ (u4 : Bool), u4 = o5 ∧ Kn [(6, (.bool u4))] 15 a ∧ Sat [] w0 w [] [] := ⟨_, rfl⟩
  refine wp_cutq R8 ?_ ?_
  · have H := h6
    apply wp_region_lit
    refine sm _ rfl hk rfl rfl rfl fun a hk => ?_
    refine sm _ rfl hk rfl rfl rfl fun a hk => ?_
    refine sv (.bool (decide (x1 ≤ x0))) hk rfl rfl rfl fun a hk => ?_
    refine sm _ rfl hk rfl rfl rfl fun a hk => ?_
    rcases cond_some H with ⟨c9, H⟩ | ⟨c9, H⟩
    · have hk := hk.lit 10 c9 rfl
      refine sm _ rfl hk rfl rfl rfl fun a hk => ?_
      refine sm _ rfl hk rfl rfl rfl fun a hk => ?_
      refine sv (.bool (decide (x0 ≤ x2))) hk rfl rfl rfl fun a hk => ?_
      refine sv (.bool (decide (x0 ≤ x2))) hk rfl rfl rfl fun a hk => ?_
      refine sa _ rfl hk rfl rfl rfl fun a hk => ?_
      show wpList _ _ _ [] _ _
      refine wpList_nil ?_
      obtain rfl := Option.some.inj H
      show R8 _ _
      rw [hR8]
      exact ⟨(decide (x0 ≤ x2)), rfl, (hk.c 6 rfl hk.k), (hs.pick [] rfl)⟩
    · have hk := hk.lit 10 c9 rfl
      refine sk hk rfl rfl rfl fun a hk => ?_
      refine sk hk rfl rfl rfl fun a hk => ?_
      refine sk hk rfl rfl rfl fun a hk => ?_
      refine sv (.bool false) hk rfl rfl rfl fun a hk => ?_
      refine sa _ rfl hk rfl rfl rfl fun a hk => ?_
      show wpList _ _ _ [] _ _
      refine wpList_nil ?_
      obtain rfl := Option.some.inj H
      show R8 _ _
      rw [hR8]
      exact ⟨false, rfl, (hk.c 6 rfl hk.k), (hs.pick [] rfl)⟩
  · intro a w hR0
    rw [hR8] at hR0
    obtain ⟨u4, rfl, hk, hs⟩ := hR0
    have H := HL7
    try dsimp only at H
    refine hK2 _ _ ?_
    refine wp_ret ?_
    obtain rfl := Option.some.inj H
    exact fin hk _ [(.bool u4)] rfl ⟨rfl, trivial⟩ ⟨rfl, (hs.pick [] rfl).dnil⟩

noncomputable def impl_isKey.f (x0 : Int) : Option (Bool) :=
  ((impl_within.f x0 1 9999).bind fun y3 => (some y3))
set_option maxRecDepth 100000 in
set_option maxHeartbeats 0 in
theorem impl_isKey_t (w0 : World) (x0 : Int) (r : Bool) (H : impl_isKey.f x0 = some r) :
    Calls Try.prog 81 #[.int .i64 x0] w0 (Ret (fun v w => v = .bool r ∧ Sat [] w0 w [] [])) := by
  have hs : Sat [] w0 w0 [] [] := Sat.init w0 [] [] (by simp) (by simp) List.nodup_nil (by simp [blks])
  unfold impl_isKey.f at H
  refine enter Try.func81 rfl Try.ntmps81 rfl fun a hk => ?_
  apply wp_seq_k; intro K1 hK1
  apply wp_region_lit
  refine sa _ rfl hk rfl rfl rfl fun a hk => ?_
  show wpList _ _ _ [] _ _
  refine wpList_nil ?_
  refine hK1 _ _ ?_
  apply wp_seq_k; intro K2 hK2
  apply wp_region_lit
  refine sm _ rfl hk rfl rfl rfl fun a hk => ?_
  obtain ⟨y3, h4, H⟩ := bind_some H
  refine sc rfl en102 hk rfl rfl rfl (impl_within_t _ x0 1 9999 _ h4) ?_
  rintro _ w ⟨rfl, hG⟩ a hk
  have hs := hs.call0 hG
  refine sa _ rfl hk rfl rfl rfl fun a hk => ?_
  show wpList _ _ _ [] _ _
  refine wpList_nil ?_
  refine hK2 _ _ ?_
  refine wp_ret ?_
  obtain rfl := Option.some.inj H
  exact fin hk _ [(.bool y3)] rfl ⟨rfl, trivial⟩ ⟨rfl, (hs.pick [] rfl).dnil⟩

noncomputable def impl_isValue.f (x0 : Int) : Option (Bool) :=
  ((impl_within.f x0 0 999999).bind fun y3 => (some y3))
set_option maxRecDepth 100000 in
set_option maxHeartbeats 0 in
theorem impl_isValue_t (w0 : World) (x0 : Int) (r : Bool) (H : impl_isValue.f x0 = some r) :
    Calls Try.prog 83 #[.int .i64 x0] w0 (Ret (fun v w => v = .bool r ∧ Sat [] w0 w [] [])) := by
  have hs : Sat [] w0 w0 [] [] := Sat.init w0 [] [] (by simp) (by simp) List.nodup_nil (by simp [blks])
  unfold impl_isValue.f at H
  refine enter Try.func83 rfl Try.ntmps83 rfl fun a hk => ?_
  apply wp_seq_k; intro K1 hK1
  apply wp_region_lit
  refine sa _ rfl hk rfl rfl rfl fun a hk => ?_
  show wpList _ _ _ [] _ _
  refine wpList_nil ?_
  refine hK1 _ _ ?_
  apply wp_seq_k; intro K2 hK2
  apply wp_region_lit
  refine sm _ rfl hk rfl rfl rfl fun a hk => ?_
  obtain ⟨y3, h4, H⟩ := bind_some H
  refine sc rfl en102 hk rfl rfl rfl (impl_within_t _ x0 0 999999 _ h4) ?_
  rintro _ w ⟨rfl, hG⟩ a hk
  have hs := hs.call0 hG
  refine sa _ rfl hk rfl rfl rfl fun a hk => ?_
  show wpList _ _ _ [] _ _
  refine wpList_nil ?_
  refine hK2 _ _ ?_
  refine wp_ret ?_
  obtain rfl := Option.some.inj H
  exact fin hk _ [(.bool y3)] rfl ⟨rfl, trivial⟩ ⟨rfl, (hs.pick [] rfl).dnil⟩

noncomputable def impl_MapOK.s0 (l0 : List S_Entry) (u6 : Int) : Option ((Int) ⊕ Ex (Unit) (Bool)) :=
  (bif (decide (u6 < (l0.length : Int))) then (if 0 ≤ u6 ∧ u6 < (l0.length : Int) then ((((impl_isKey.f ((l0.getD u6.toNat z_Entry).Key)).bind fun y32 => (bif (!y32) then (some true) else ((impl_isValue.f ((l0.getD u6.toNat z_Entry).Value)).bind fun y35 => (bif (!y35) then (some true) else (bif (decide (u6 > 0)) then (if 0 ≤ (w64 (u6 - 1)) ∧ (w64 (u6 - 1)) < (l0.length : Int) then (some (decide (((l0.getD (w64 (u6 - 1)).toNat z_Entry).Key) ≥ ((l0.getD u6.toNat z_Entry).Key)))) else none) else (some false)))))) : Option (Bool)).bind fun u27 => (bif u27 then (some (.inr (.ret false))) else (some (.inl (w64 (u6 + 1)))))) else none) else (some (.inr (.out ()))))
noncomputable def impl_MapOK.f (l0 : List S_Entry) : Option (Bool) :=
  ((loopO (fun s => impl_MapOK.s0 l0 s) 0).bind fun o => match o with | .out _ => (some (decide ((l0.length : Int) ≤ 11))) | .ret r => (some r))
set_option maxRecDepth 100000 in
set_option maxHeartbeats 0 in
theorem impl_MapOK_t (w0 : World) (A0_ : Option Addr) (p0_ : Nat) (l0 : List S_Entry) (k0_ : Chunk) (v0_ : View L_Entry A0_ p0_ l0 k0_) (w0_ : Has w0 k0_) (r : Bool) (H : impl_MapOK.f l0 = some r) :
    Calls Try.prog 36 #[.slice A0_ l0.length p0_] w0 (Ret (fun v w => v = .bool r ∧ Sat [] w0 w [] [])) := by
  have hs : Sat [] w0 w0 [(1, k0_)] [] := Sat.init w0 [(1, k0_)] [] (by simp only [List.mem_cons, List.not_mem_nil, or_false]; rintro x (rfl) <;> assumption) (by simp) List.nodup_nil (by simp [blks])
  unfold impl_MapOK.f at H
  refine enter Try.func36 rfl Try.ntmps36 rfl fun a hk => ?_
  apply wp_seq_k; intro K1 hK1
  apply wp_region_lit
  refine sa _ rfl hk rfl rfl rfl fun a hk => ?_
  show wpList _ _ _ [] _ _
  refine wpList_nil ?_
  refine hK1 _ _ ?_
  apply wp_seq_k; intro K2 hK2
  apply wp_seq_k; intro K3 hK3
  apply wp_region_lit
  refine sm _ rfl hk rfl rfl rfl fun a hk => ?_
  refine sle rfl hk rfl rfl rfl un26 fun a hk => ?_
  refine sm _ rfl hk rfl rfl rfl fun a hk => ?_
  show wpList _ _ _ [] _ _
  refine wpList_nil ?_
  refine hK3 _ _ ?_
  obtain ⟨o7, h8, HL9⟩ := bind_some H
  clear H
  obtain ⟨R10, hR10⟩ : ∃ R : Act → World → Prop, R = fun a w => o7 = .out () ∧ Kn [(0, (.slice A0_ l0.length p0_))] 41 a ∧ Sat [] w0 w [(1, k0_)] [] := ⟨_, rfl⟩
  refine wp_cutq R10 ?_ ?_
  · refine wp_block ?_
    obtain ⟨fu12, h8⟩ := loopO_some h8
    obtain ⟨I11, hI11⟩ : ∃ I : Nat → Act → World → Prop, I = fun fu a w => ∃ (u6 : Int), loopN (fun s => impl_MapOK.s0 l0 s) fu u6 = some o7 ∧ Kn [(0, (.slice A0_ l0.length p0_)), (5, (.slice A0_ l0.length p0_)), (6, (.int .i64 (l0.length : Int))), (7, (.int .i64 u6))] 41 a ∧ Sat [] w0 w [(1, k0_)] [] := ⟨_, rfl⟩
    refine wp_loop_ghost I11 fu12 ?_ ?_
    · rw [hI11]
      exact ⟨0, h8, (hk.c 0 rfl (hk.c 5 rfl (hk.c 6 rfl (hk.c 7 rfl hk.k)))), (hs.pick [] rfl)⟩
    · clear h8 hk hs
      intro fu12 a w hI0
      rw [hI11] at hI0
      obtain ⟨u6, hi, hk, hs⟩ := hI0
      obtain ⟨x13, H, h14⟩ := loop_round hi
      try dsimp only at H
      unfold impl_MapOK.s0 at H
      apply wp_seq_k; intro K15 hK15
      apply wp_region_lit
      refine sv (.bool (decide (u6 < (l0.length : Int)))) hk rfl rfl rfl fun a hk => ?_
      show wpList _ _ _ [] _ _
      refine wpList_nil ?_
      refine hK15 _ _ ?_
      apply wp_seq_k; intro K16 hK16
      rcases cond_some H with ⟨c17, H⟩ | ⟨c17, H⟩
      · have hk := hk.lit 8 c17 rfl
        refine cnd_true hk rfl rfl ?_
        refine wp_skip ?_
        refine hK16 _ _ ?_
        apply wp_seq_k; intro K18 hK18
        refine wp_block ?_
        apply wp_seq_k; intro K19 hK19
        apply wp_region_lit
        refine sm _ rfl hk rfl rfl rfl fun a hk => ?_
        rcases ite_some H with ⟨c20, H⟩ | ⟨_, H⟩
        rotate_left
        · cases H
        obtain ⟨b21, q22, hAc20⟩ := (v0_).some_ u6 c20.1 c20.2
        refine si rfl hk rfl rfl rfl rfl un26 sz62 c20.1 c20.2 hAc20 fun a hk => ?_
        obtain ⟨_, rfl, e23⟩ := (v0_).at_ z_Entry u6 c20.1 c20.2
        refine sln [.int .i64 ((l0.getD u6.toNat z_Entry).Key), .int .i64 ((l0.getD u6.toNat z_Entry).Value)] rfl hk rfl rfl rfl ag62 sz62 (cells_at e23 (hs.hasD (k := 1) rfl)) fun a hk => ?_
        refine salx 3 hs rfl hk rfl rfl ze62 rfl fun b24 w a hk hs => ?_
        refine sa _ rfl hk rfl rfl rfl fun a hk => ?_
        refine ssw 3 hs rfl rfl hk rfl rfl rfl rfl sz62 (by simp [Value.oneCell']) rfl fun w a hk hs => ?_
        show wpList _ _ _ [] _ _
        refine wpList_nil ?_
        refine hK19 _ _ ?_
        apply wp_seq_k; intro K25 hK25
        obtain ⟨o28, h29, HL30⟩ := bind_some H
        clear H
        obtain ⟨R31, hR31⟩ : ∃ R : Act → World → Prop, R = fun a w => ∃ (u27 : Bool), u27 = o28 ∧ Kn [(0, (.slice A0_ l0.length p0_)), (5, (.slice A0_ l0.length p0_)), (6, (.int .i64 (l0.length : Int))), (7, (.int .i64 u6)), (36, (.bool u27))] 41 a ∧ Sat [] w0 w [(1, k0_)] [] := ⟨_, rfl⟩
        refine wp_cutq R31 ?_ ?_
        · have H := h29
          refine wp_region_mix [(0, true), (1, true), (2, true), (3, true), (4, true), (5, true), (6, true), (7, true), (8, true), (9, true), (10, true), (11, true), (12, true), (13, true), (14, true), (15, true), (16, true), (17, true), (18, true), (19, true), (20, true), (21, true), (22, true), (23, true), (24, true)] mo (by kernel_rfl) hs fun _ => ?_
          have hs := hs.drew
          refine qst (.pointer (some ⟨b24, 0, none⟩)) hk rfl rfl rfl rfl (fun w hs => sf ⟨b24, 0, none⟩ rfl hk rfl rfl rfl fd62_0 rfl fun a hk => qe hk) fun a hk => ?_
          refine qst (.int .i64 ((l0.getD u6.toNat z_Entry).Key)) hk rfl rfl rfl rfl (fun w hs => sl rfl hk rfl rfl rfl ag3 (box_cell hs (k := 3) rfl rfl) fun a hk => qe hk) fun a hk => ?_
          obtain ⟨y32, h33, H⟩ := bind_some H
          refine qst (.bool y32) hk rfl rfl rfl rfl (fun w hs => sc rfl en81 hk rfl rfl rfl (impl_isKey_t _ ((l0.getD u6.toNat z_Entry).Key) _ h33) fun _ w hR a hk => qc hR hk) fun a hk => ?_
          refine qst (.bool (!y32)) hk rfl rfl rfl rfl (fun w hs => sv (.bool (!y32)) hk rfl rfl rfl fun a hk => qe hk) fun a hk => ?_
          refine qst (.bool (!y32)) hk rfl rfl rfl rfl (fun w hs => sm _ rfl hk rfl rfl rfl fun a hk => qe hk) fun a hk => ?_
          rcases cond_some H with ⟨c34, H⟩ | ⟨c34, H⟩
          · have hk := hk.lit 16 c34 rfl
            refine qsk hk rfl rfl rfl rfl fun a hk => ?_
            refine qsk hk rfl rfl rfl rfl fun a hk => ?_
            refine qsk hk rfl rfl rfl rfl fun a hk => ?_
            refine qsk hk rfl rfl rfl rfl fun a hk => ?_
            refine qst (.bool true) hk rfl rfl rfl rfl (fun w hs => sv (.bool true) hk rfl rfl rfl fun a hk => qe hk) fun a hk => ?_
            refine qst (.bool true) hk rfl rfl rfl rfl (fun w hs => sm _ rfl hk rfl rfl rfl fun a hk => qe hk) fun a hk => ?_
            refine qsk hk rfl rfl rfl rfl fun a hk => ?_
            refine qsk hk rfl rfl rfl rfl fun a hk => ?_
            refine qsk hk rfl rfl rfl rfl fun a hk => ?_
            refine qsk hk rfl rfl rfl rfl fun a hk => ?_
            refine qsk hk rfl rfl rfl rfl fun a hk => ?_
            refine qsk hk rfl rfl rfl rfl fun a hk => ?_
            refine qsk hk rfl rfl rfl rfl fun a hk => ?_
            refine qsk hk rfl rfl rfl rfl fun a hk => ?_
            refine qsk hk rfl rfl rfl rfl fun a hk => ?_
            refine qsk hk rfl rfl rfl rfl fun a hk => ?_
            refine qsk hk rfl rfl rfl rfl fun a hk => ?_
            refine qsk hk rfl rfl rfl rfl fun a hk => ?_
            refine qsk hk rfl rfl rfl rfl fun a hk => ?_
            refine qst (.bool true) hk rfl rfl rfl rfl (fun w hs => sv (.bool true) hk rfl rfl rfl fun a hk => qe hk) fun a hk => ?_
            refine wml_nil fun w hF _ => ?_
            have hs := hs.f hF
            obtain rfl := Option.some.inj H
            show R31 _ _
            rw [hR31]
            exact ⟨true, rfl, (hk.c 0 rfl (hk.c 5 rfl (hk.c 6 rfl (hk.c 7 rfl (hk.c 36 rfl hk.k))))), (hs.pick [] rfl)⟩
          · have hk := hk.lit 16 c34 rfl
            refine qst (.pointer (some ⟨b24, 1, none⟩)) hk rfl rfl rfl rfl (fun w hs => sf ⟨b24, 1, none⟩ rfl hk rfl rfl rfl fd62_1 rfl fun a hk => qe hk) fun a hk => ?_
            refine qst (.int .i64 ((l0.getD u6.toNat z_Entry).Value)) hk rfl rfl rfl rfl (fun w hs => sl rfl hk rfl rfl rfl ag3 (box_cell hs (k := 3) rfl rfl) fun a hk => qe hk) fun a hk => ?_
            obtain ⟨y35, h36, H⟩ := bind_some H
            refine qst (.bool y35) hk rfl rfl rfl rfl (fun w hs => sc rfl en83 hk rfl rfl rfl (impl_isValue_t _ ((l0.getD u6.toNat z_Entry).Value) _ h36) fun _ w hR a hk => qc hR hk) fun a hk => ?_
            refine qst (.bool (!y35)) hk rfl rfl rfl rfl (fun w hs => sv (.bool (!y35)) hk rfl rfl rfl fun a hk => qe hk) fun a hk => ?_
            refine qst (.bool (!y35)) hk rfl rfl rfl rfl (fun w hs => sv (.bool (!y35)) hk rfl rfl rfl fun a hk => qe hk) fun a hk => ?_
            refine qst (.bool (!y35)) hk rfl rfl rfl rfl (fun w hs => sm _ rfl hk rfl rfl rfl fun a hk => qe hk) fun a hk => ?_
            rcases cond_some H with ⟨c37, H⟩ | ⟨c37, H⟩
            · have hk := hk.lit 22 c37 rfl
              refine qsk hk rfl rfl rfl rfl fun a hk => ?_
              refine qsk hk rfl rfl rfl rfl fun a hk => ?_
              refine qsk hk rfl rfl rfl rfl fun a hk => ?_
              refine qsk hk rfl rfl rfl rfl fun a hk => ?_
              refine qsk hk rfl rfl rfl rfl fun a hk => ?_
              refine qsk hk rfl rfl rfl rfl fun a hk => ?_
              refine qsk hk rfl rfl rfl rfl fun a hk => ?_
              refine qsk hk rfl rfl rfl rfl fun a hk => ?_
              refine qsk hk rfl rfl rfl rfl fun a hk => ?_
              refine qsk hk rfl rfl rfl rfl fun a hk => ?_
              refine qsk hk rfl rfl rfl rfl fun a hk => ?_
              refine qsk hk rfl rfl rfl rfl fun a hk => ?_
              refine qsk hk rfl rfl rfl rfl fun a hk => ?_
              refine qst (.bool true) hk rfl rfl rfl rfl (fun w hs => sv (.bool true) hk rfl rfl rfl fun a hk => qe hk) fun a hk => ?_
              refine wml_nil fun w hF _ => ?_
              have hs := hs.f hF
              obtain rfl := Option.some.inj H
              show R31 _ _
              rw [hR31]
              exact ⟨true, rfl, (hk.c 0 rfl (hk.c 5 rfl (hk.c 6 rfl (hk.c 7 rfl (hk.c 36 rfl hk.k))))), (hs.pick [] rfl)⟩
            · have hk := hk.lit 22 c37 rfl
              refine qst (.int .i64 u6) hk rfl rfl rfl rfl (fun w hs => sm _ rfl hk rfl rfl rfl fun a hk => qe hk) fun a hk => ?_
              refine qst (.bool (decide (u6 > 0))) hk rfl rfl rfl rfl (fun w hs => sv (.bool (decide (u6 > 0))) hk rfl rfl rfl fun a hk => qe hk) fun a hk => ?_
              refine qst (.bool (decide (u6 > 0))) hk rfl rfl rfl rfl (fun w hs => sm _ rfl hk rfl rfl rfl fun a hk => qe hk) fun a hk => ?_
              rcases cond_some H with ⟨c38, H⟩ | ⟨c38, H⟩
              · have hk := hk.lit 25 c38 rfl
                refine qst (.slice A0_ l0.length p0_) hk rfl rfl rfl rfl (fun w hs => sm _ rfl hk rfl rfl rfl fun a hk => qe hk) fun a hk => ?_
                refine qst (.int .i64 u6) hk rfl rfl rfl rfl (fun w hs => sm _ rfl hk rfl rfl rfl fun a hk => qe hk) fun a hk => ?_
                refine qst (.int .i64 (w64 (u6 - 1))) hk rfl rfl rfl rfl (fun w hs => sv (.int .i64 (w64 (u6 - 1))) hk rfl rfl rfl fun a hk => qe hk) fun a hk => ?_
                rcases ite_some H with ⟨c39, H⟩ | ⟨_, H⟩
                rotate_left
                · cases H
                obtain ⟨b40, q41, hAc39⟩ := (v0_).some_ (w64 (u6 - 1)) c39.1 c39.2
                refine qst (.pointer (some (padd A0_ ((w64 (u6 - 1)).toNat * 2)))) hk rfl rfl rfl rfl (fun w hs => si rfl hk rfl rfl rfl rfl un26 sz62 c39.1 c39.2 hAc39 fun a hk => qe hk) fun a hk => ?_
                refine qst (.pointer (some (padd A0_ ((w64 (u6 - 1)).toNat * 2)))) hk rfl rfl rfl rfl (fun w hs => sf (padd A0_ ((w64 (u6 - 1)).toNat * 2 + 0)) rfl hk rfl rfl rfl fd62_0 (padd_add _ _ _) fun a hk => qe hk) fun a hk => ?_
                obtain ⟨_, rfl, e42⟩ := (v0_).at_ z_Entry (w64 (u6 - 1)) c39.1 c39.2
                refine qst (.int .i64 ((l0.getD (w64 (u6 - 1)).toNat z_Entry).Key)) hk rfl rfl rfl rfl (fun w hs => sl (v := (.int .i64 ((l0.getD (w64 (u6 - 1)).toNat z_Entry).Key))) rfl hk rfl rfl rfl ag3 ((e42 0 _ rfl).cell (hs.hasD (k := 1) rfl)) fun a hk => qe hk) fun a hk => ?_
                refine qst (.pointer (some ⟨b24, 0, none⟩)) hk rfl rfl rfl rfl (fun w hs => sf ⟨b24, 0, none⟩ rfl hk rfl rfl rfl fd62_0 rfl fun a hk => qe hk) fun a hk => ?_
                refine qst (.int .i64 ((l0.getD u6.toNat z_Entry).Key)) hk rfl rfl rfl rfl (fun w hs => sl rfl hk rfl rfl rfl ag3 (box_cell hs (k := 3) rfl rfl) fun a hk => qe hk) fun a hk => ?_
                refine qst (.bool (decide (((l0.getD (w64 (u6 - 1)).toNat z_Entry).Key) ≥ ((l0.getD u6.toNat z_Entry).Key)))) hk rfl rfl rfl rfl (fun w hs => sv (.bool (decide (((l0.getD (w64 (u6 - 1)).toNat z_Entry).Key) ≥ ((l0.getD u6.toNat z_Entry).Key)))) hk rfl rfl rfl fun a hk => qe hk) fun a hk => ?_
                refine qst (.bool (decide (((l0.getD (w64 (u6 - 1)).toNat z_Entry).Key) ≥ ((l0.getD u6.toNat z_Entry).Key)))) hk rfl rfl rfl rfl (fun w hs => sv (.bool (decide (((l0.getD (w64 (u6 - 1)).toNat z_Entry).Key) ≥ ((l0.getD u6.toNat z_Entry).Key)))) hk rfl rfl rfl fun a hk => qe hk) fun a hk => ?_
                refine qst (.bool (decide (((l0.getD (w64 (u6 - 1)).toNat z_Entry).Key) ≥ ((l0.getD u6.toNat z_Entry).Key)))) hk rfl rfl rfl rfl (fun w hs => sv (.bool (decide (((l0.getD (w64 (u6 - 1)).toNat z_Entry).Key) ≥ ((l0.getD u6.toNat z_Entry).Key)))) hk rfl rfl rfl fun a hk => qe hk) fun a hk => ?_
                refine wml_nil fun w hF _ => ?_
                have hs := hs.f hF
                obtain rfl := Option.some.inj H
                show R31 _ _
                rw [hR31]
                exact ⟨(decide (((l0.getD (w64 (u6 - 1)).toNat z_Entry).Key) ≥ ((l0.getD u6.toNat z_Entry).Key))), rfl, (hk.c 0 rfl (hk.c 5 rfl (hk.c 6 rfl (hk.c 7 rfl (hk.c 36 rfl hk.k))))), (hs.pick [] rfl)⟩
              · have hk := hk.lit 25 c38 rfl
                refine qsk hk rfl rfl rfl rfl fun a hk => ?_
                refine qsk hk rfl rfl rfl rfl fun a hk => ?_
                refine qsk hk rfl rfl rfl rfl fun a hk => ?_
                refine qsk hk rfl rfl rfl rfl fun a hk => ?_
                refine qsk hk rfl rfl rfl rfl fun a hk => ?_
                refine qsk hk rfl rfl rfl rfl fun a hk => ?_
                refine qsk hk rfl rfl rfl rfl fun a hk => ?_
                refine qsk hk rfl rfl rfl rfl fun a hk => ?_
                refine qsk hk rfl rfl rfl rfl fun a hk => ?_
                refine qst (.bool false) hk rfl rfl rfl rfl (fun w hs => sv (.bool false) hk rfl rfl rfl fun a hk => qe hk) fun a hk => ?_
                refine qst (.bool false) hk rfl rfl rfl rfl (fun w hs => sv (.bool false) hk rfl rfl rfl fun a hk => qe hk) fun a hk => ?_
                refine wml_nil fun w hF _ => ?_
                have hs := hs.f hF
                obtain rfl := Option.some.inj H
                show R31 _ _
                rw [hR31]
                exact ⟨false, rfl, (hk.c 0 rfl (hk.c 5 rfl (hk.c 6 rfl (hk.c 7 rfl (hk.c 36 rfl hk.k))))), (hs.pick [] rfl)⟩
        · intro a w hR0
          rw [hR31] at hR0
          obtain ⟨u27, rfl, hk, hs⟩ := hR0
          have H := HL30
          try dsimp only at H
          refine hK25 _ _ ?_
          rcases cond_some H with ⟨c43, H⟩ | ⟨c43, H⟩
          · have hk := hk.lit 36 c43 rfl
            refine cnd_true hk rfl rfl ?_
            apply wp_seq_k; intro K44 hK44
            apply wp_region_lit
            refine sa _ rfl hk rfl rfl rfl fun a hk => ?_
            show wpList _ _ _ [] _ _
            refine wpList_nil ?_
            refine hK44 _ _ ?_
            refine wp_ret ?_
            obtain rfl := Option.some.inj H
            have ho7 := h14
            try dsimp only at ho7
            subst ho7
            have H := HL9
            try dsimp only at H
            obtain rfl := Option.some.inj H
            exact fin hk _ [(.bool false)] rfl ⟨rfl, trivial⟩ ⟨rfl, (hs.pick [] rfl).dnil⟩
          · have hk := hk.lit 36 c43 rfl
            refine cnd_false hk rfl rfl ?_
            refine wp_skip ?_
            refine hK18 _ _ ?_
            apply wp_region_lit
            refine sv (.int .i64 (w64 (u6 + 1))) hk rfl rfl rfl fun a hk => ?_
            refine sm _ rfl hk rfl rfl rfl fun a hk => ?_
            show wpList _ _ _ [] _ _
            refine wpList_nil ?_
            obtain rfl := Option.some.inj H
            obtain ⟨m45, hmm45, h14⟩ := h14
            show ∃ n', n' < _ ∧ I11 n' _ _
            refine ⟨m45, hmm45, ?_⟩
            rw [hI11]
            exact ⟨(w64 (u6 + 1)), h14, (hk.c 0 rfl (hk.c 5 rfl (hk.c 6 rfl (hk.c 7 rfl hk.k)))), (hs.pick [] rfl)⟩
      · have hk := hk.lit 8 c17 rfl
        refine cnd_false hk rfl rfl ?_
        refine wp_exit ?_
        obtain rfl := Option.some.inj H
        show R10 _ _
        rw [hR10]
        exact ⟨h14.symm, (hk.c 0 rfl hk.k), (hs.pick [] rfl)⟩
  · intro a w hR0
    rw [hR10] at hR0
    obtain ⟨rfl, hk, hs⟩ := hR0
    have H := HL9
    try dsimp only at H
    refine hK2 _ _ ?_
    apply wp_seq_k; intro K46 hK46
    apply wp_region_lit
    refine sm _ rfl hk rfl rfl rfl fun a hk => ?_
    refine sle rfl hk rfl rfl rfl un26 fun a hk => ?_
    refine sv (.bool (decide ((l0.length : Int) ≤ 11))) hk rfl rfl rfl fun a hk => ?_
    refine sa _ rfl hk rfl rfl rfl fun a hk => ?_
    show wpList _ _ _ [] _ _
    refine wpList_nil ?_
    refine hK46 _ _ ?_
    refine wp_ret ?_
    obtain rfl := Option.some.inj H
    exact fin hk _ [(.bool (decide ((l0.length : Int) ≤ 11)))] rfl ⟨rfl, trivial⟩ ⟨rfl, (hs.pick [] rfl).dnil⟩

noncomputable def impl_isBare.f (x0 : Int) : Option (Bool) :=
  (((bif (x0 == 1) then (some true) else (some (x0 == 3))) : Option (Bool)).bind fun u4 => (some u4))
set_option maxRecDepth 100000 in
set_option maxHeartbeats 0 in
theorem impl_isBare_t (w0 : World) (x0 : Int) (r : Bool) (H : impl_isBare.f x0 = some r) :
    Calls Try.prog 128 #[.int .i64 x0] w0 (Ret (fun v w => v = .bool r ∧ Sat [] w0 w [] [])) := by
  have hs : Sat [] w0 w0 [] [] := Sat.init w0 [] [] (by simp) (by simp) List.nodup_nil (by simp [blks])
  unfold impl_isBare.f at H
  refine enter Try.func128 rfl Try.ntmps128 rfl fun a hk => ?_
  apply wp_seq_k; intro K1 hK1
  apply wp_region_lit
  refine sa _ rfl hk rfl rfl rfl fun a hk => ?_
  show wpList _ _ _ [] _ _
  refine wpList_nil ?_
  refine hK1 _ _ ?_
  apply wp_seq_k; intro K2 hK2
  obtain ⟨o5, h6, HL7⟩ := bind_some H
  clear H
  obtain ⟨R8, hR8⟩ : ∃ R : Act → World → Prop, R = fun a w => ∃ (u4 : Bool), u4 = o5 ∧ Kn [(2, (.bool u4))] 9 a ∧ Sat [] w0 w [] [] := ⟨_, rfl⟩
  refine wp_cutq R8 ?_ ?_
  · have H := h6
    apply wp_region_lit
    refine sm _ rfl hk rfl rfl rfl fun a hk => ?_
    refine sv (.bool (x0 == 1)) hk rfl rfl rfl fun a hk => ?_
    refine sm _ rfl hk rfl rfl rfl fun a hk => ?_
    rcases cond_some H with ⟨c9, H⟩ | ⟨c9, H⟩
    · have hk := hk.lit 5 c9 rfl
      refine sk hk rfl rfl rfl fun a hk => ?_
      refine sk hk rfl rfl rfl fun a hk => ?_
      refine sv (.bool true) hk rfl rfl rfl fun a hk => ?_
      refine sa _ rfl hk rfl rfl rfl fun a hk => ?_
      show wpList _ _ _ [] _ _
      refine wpList_nil ?_
      obtain rfl := Option.some.inj H
      show R8 _ _
      rw [hR8]
      exact ⟨true, rfl, (hk.c 2 rfl hk.k), (hs.pick [] rfl)⟩
    · have hk := hk.lit 5 c9 rfl
      refine sm _ rfl hk rfl rfl rfl fun a hk => ?_
      refine sv (.bool (x0 == 3)) hk rfl rfl rfl fun a hk => ?_
      refine sv (.bool (x0 == 3)) hk rfl rfl rfl fun a hk => ?_
      refine sa _ rfl hk rfl rfl rfl fun a hk => ?_
      show wpList _ _ _ [] _ _
      refine wpList_nil ?_
      obtain rfl := Option.some.inj H
      show R8 _ _
      rw [hR8]
      exact ⟨(x0 == 3), rfl, (hk.c 2 rfl hk.k), (hs.pick [] rfl)⟩
  · intro a w hR0
    rw [hR8] at hR0
    obtain ⟨u4, rfl, hk, hs⟩ := hR0
    have H := HL7
    try dsimp only at H
    refine hK2 _ _ ?_
    refine wp_ret ?_
    obtain rfl := Option.some.inj H
    exact fin hk _ [(.bool u4)] rfl ⟨rfl, trivial⟩ ⟨rfl, (hs.pick [] rfl).dnil⟩

noncomputable def impl_OpOK.f (x0 : S_Op) : Option (Bool) :=
  ((((impl_within.f x0.Kind 1 6).bind fun y11 => (bif (!y11) then (some true) else ((impl_isKey.f x0.Key).bind fun y14 => (some (!y14))))) : Option (Bool)).bind fun u6 => (bif u6 then (some false) else ((impl_isBare.f x0.Kind).bind fun y20 => (bif y20 then (some (x0.Value == 0)) else (bif (x0.Kind == 6) then ((impl_within.f x0.Value 1 4).bind fun y27 => (some y27)) else ((impl_isValue.f x0.Value).bind fun y30 => (some y30)))))))
set_option maxRecDepth 100000 in
set_option maxHeartbeats 0 in
theorem impl_OpOK_t (w0 : World) (x0 : S_Op) (r : Bool) (H : impl_OpOK.f x0 = some r) :
    Calls Try.prog 67 #[.agg #[.int .i64 x0.Kind, .int .i64 x0.Key, .int .i64 x0.Value]] w0 (Ret (fun v w => v = .bool r ∧ Sat [] w0 w [] [])) := by
  have hs : Sat [] w0 w0 [] [] := Sat.init w0 [] [] (by simp) (by simp) List.nodup_nil (by simp [blks])
  unfold impl_OpOK.f at H
  refine enter Try.func67 rfl Try.ntmps67 rfl fun a hk => ?_
  apply wp_seq_k; intro K1 hK1
  apply wp_region_lit
  refine sbx 1 hs rfl hk rfl rfl rfl rfl fun b2 w a hk hs => ?_
  refine sa _ rfl hk rfl rfl rfl fun a hk => ?_
  show wpList _ _ _ [] _ _
  refine wpList_nil ?_
  refine hK1 _ _ ?_
  apply wp_seq_k; intro K3 hK3
  apply wp_seq_k; intro K4 hK4
  obtain ⟨o7, h8, HL9⟩ := bind_some H
  clear H
  obtain ⟨R10, hR10⟩ : ∃ R : Act → World → Prop, R = fun a w => ∃ (u6 : Bool), u6 = o7 ∧ Kn [(1, (.pointer (some ⟨b2, 0, none⟩))), (12, (.bool u6))] 30 a ∧ Sat [] w0 w [] [(1, [(b2, .cells #[.int .i64 x0.Kind, .int .i64 x0.Key, .int .i64 x0.Value] 31 (0, 0))])] := ⟨_, rfl⟩
  refine wp_cutq R10 ?_ ?_
  · have H := h8
    apply wp_region_lit
    refine sf ⟨b2, 0, none⟩ rfl hk rfl rfl rfl fd31_0 rfl fun a hk => ?_
    refine sl rfl hk rfl rfl rfl ag3 (box_cell hs (k := 1) rfl rfl) fun a hk => ?_
    obtain ⟨y11, h12, H⟩ := bind_some H
    refine sc rfl en102 hk rfl rfl rfl (impl_within_t _ x0.Kind 1 6 _ h12) ?_
    rintro _ w ⟨rfl, hG⟩ a hk
    have hs := hs.call0 hG
    refine sv (.bool (!y11)) hk rfl rfl rfl fun a hk => ?_
    refine sm _ rfl hk rfl rfl rfl fun a hk => ?_
    rcases cond_some H with ⟨c13, H⟩ | ⟨c13, H⟩
    · have hk := hk.lit 7 c13 rfl
      refine sk hk rfl rfl rfl fun a hk => ?_
      refine sk hk rfl rfl rfl fun a hk => ?_
      refine sk hk rfl rfl rfl fun a hk => ?_
      refine sk hk rfl rfl rfl fun a hk => ?_
      refine sv (.bool true) hk rfl rfl rfl fun a hk => ?_
      show wpList _ _ _ [] _ _
      refine wpList_nil ?_
      obtain rfl := Option.some.inj H
      show R10 _ _
      rw [hR10]
      exact ⟨true, rfl, (hk.c 1 rfl (hk.c 12 rfl hk.k)), (hs.pick [(1, 1)] rfl)⟩
    · have hk := hk.lit 7 c13 rfl
      refine sf ⟨b2, 1, none⟩ rfl hk rfl rfl rfl fd31_1 rfl fun a hk => ?_
      refine sl rfl hk rfl rfl rfl ag3 (box_cell hs (k := 1) rfl rfl) fun a hk => ?_
      obtain ⟨y14, h15, H⟩ := bind_some H
      refine sc rfl en81 hk rfl rfl rfl (impl_isKey_t _ x0.Key _ h15) ?_
      rintro _ w ⟨rfl, hG⟩ a hk
      have hs := hs.call0 hG
      refine sv (.bool (!y14)) hk rfl rfl rfl fun a hk => ?_
      refine sv (.bool (!y14)) hk rfl rfl rfl fun a hk => ?_
      show wpList _ _ _ [] _ _
      refine wpList_nil ?_
      obtain rfl := Option.some.inj H
      show R10 _ _
      rw [hR10]
      exact ⟨(!y14), rfl, (hk.c 1 rfl (hk.c 12 rfl hk.k)), (hs.pick [(1, 1)] rfl)⟩
  · intro a w hR0
    rw [hR10] at hR0
    obtain ⟨u6, rfl, hk, hs⟩ := hR0
    have H := HL9
    try dsimp only at H
    refine hK4 _ _ ?_
    rcases cond_some H with ⟨c16, H⟩ | ⟨c16, H⟩
    · have hk := hk.lit 12 c16 rfl
      refine cnd_true hk rfl rfl ?_
      apply wp_seq_k; intro K17 hK17
      apply wp_region_lit
      refine sa _ rfl hk rfl rfl rfl fun a hk => ?_
      show wpList _ _ _ [] _ _
      refine wpList_nil ?_
      refine hK17 _ _ ?_
      refine wp_ret ?_
      obtain rfl := Option.some.inj H
      exact fin hk _ [(.bool false)] rfl ⟨rfl, trivial⟩ ⟨rfl, (hs.pick [] rfl).dnil⟩
    · have hk := hk.lit 12 c16 rfl
      refine cnd_false hk rfl rfl ?_
      refine wp_skip ?_
      refine hK3 _ _ ?_
      apply wp_seq_k; intro K18 hK18
      refine wp_block ?_
      apply wp_seq_k; intro K19 hK19
      apply wp_region_lit
      refine sf ⟨b2, 0, none⟩ rfl hk rfl rfl rfl fd31_0 rfl fun a hk => ?_
      refine sl rfl hk rfl rfl rfl ag3 (box_cell hs (k := 1) rfl rfl) fun a hk => ?_
      obtain ⟨y20, h21, H⟩ := bind_some H
      refine sc rfl en128 hk rfl rfl rfl (impl_isBare_t _ x0.Kind _ h21) ?_
      rintro _ w ⟨rfl, hG⟩ a hk
      have hs := hs.call0 hG
      refine sa _ rfl hk rfl rfl rfl fun a hk => ?_
      show wpList _ _ _ [] _ _
      refine wpList_nil ?_
      refine hK19 _ _ ?_
      rcases cond_some H with ⟨c22, H⟩ | ⟨c22, H⟩
      · have hk := hk.lit 13 c22 rfl
        refine cnd_true hk rfl rfl ?_
        apply wp_seq_k; intro K23 hK23
        apply wp_region_lit
        refine sf ⟨b2, 2, none⟩ rfl hk rfl rfl rfl fd31_2 rfl fun a hk => ?_
        refine sl rfl hk rfl rfl rfl ag3 (box_cell hs (k := 1) rfl rfl) fun a hk => ?_
        refine sv (.bool (x0.Value == 0)) hk rfl rfl rfl fun a hk => ?_
        refine sa _ rfl hk rfl rfl rfl fun a hk => ?_
        show wpList _ _ _ [] _ _
        refine wpList_nil ?_
        refine hK23 _ _ ?_
        refine wp_ret ?_
        obtain rfl := Option.some.inj H
        exact fin hk _ [(.bool (x0.Value == 0))] rfl ⟨rfl, trivial⟩ ⟨rfl, (hs.pick [] rfl).dnil⟩
      · have hk := hk.lit 13 c22 rfl
        refine cnd_false hk rfl rfl ?_
        apply wp_seq_k; intro K24 hK24
        apply wp_region_lit
        refine sf ⟨b2, 0, none⟩ rfl hk rfl rfl rfl fd31_0 rfl fun a hk => ?_
        refine sl rfl hk rfl rfl rfl ag3 (box_cell hs (k := 1) rfl rfl) fun a hk => ?_
        refine sv (.bool (x0.Kind == 6)) hk rfl rfl rfl fun a hk => ?_
        refine sa _ rfl hk rfl rfl rfl fun a hk => ?_
        show wpList _ _ _ [] _ _
        refine wpList_nil ?_
        refine hK24 _ _ ?_
        rcases cond_some H with ⟨c25, H⟩ | ⟨c25, H⟩
        · have hk := hk.lit 20 c25 rfl
          refine cnd_true hk rfl rfl ?_
          apply wp_seq_k; intro K26 hK26
          apply wp_region_lit
          refine sf ⟨b2, 2, none⟩ rfl hk rfl rfl rfl fd31_2 rfl fun a hk => ?_
          refine sl rfl hk rfl rfl rfl ag3 (box_cell hs (k := 1) rfl rfl) fun a hk => ?_
          obtain ⟨y27, h28, H⟩ := bind_some H
          refine sc rfl en102 hk rfl rfl rfl (impl_within_t _ x0.Value 1 4 _ h28) ?_
          rintro _ w ⟨rfl, hG⟩ a hk
          have hs := hs.call0 hG
          refine sa _ rfl hk rfl rfl rfl fun a hk => ?_
          show wpList _ _ _ [] _ _
          refine wpList_nil ?_
          refine hK26 _ _ ?_
          refine wp_ret ?_
          obtain rfl := Option.some.inj H
          exact fin hk _ [(.bool y27)] rfl ⟨rfl, trivial⟩ ⟨rfl, (hs.pick [] rfl).dnil⟩
        · have hk := hk.lit 20 c25 rfl
          refine cnd_false hk rfl rfl ?_
          refine wp_skip ?_
          refine hK18 _ _ ?_
          apply wp_seq_k; intro K29 hK29
          apply wp_region_lit
          refine sf ⟨b2, 2, none⟩ rfl hk rfl rfl rfl fd31_2 rfl fun a hk => ?_
          refine sl rfl hk rfl rfl rfl ag3 (box_cell hs (k := 1) rfl rfl) fun a hk => ?_
          obtain ⟨y30, h31, H⟩ := bind_some H
          refine sc rfl en83 hk rfl rfl rfl (impl_isValue_t _ x0.Value _ h31) ?_
          rintro _ w ⟨rfl, hG⟩ a hk
          have hs := hs.call0 hG
          refine sa _ rfl hk rfl rfl rfl fun a hk => ?_
          show wpList _ _ _ [] _ _
          refine wpList_nil ?_
          refine hK29 _ _ ?_
          refine wp_ret ?_
          obtain rfl := Option.some.inj H
          exact fin hk _ [(.bool y30)] rfl ⟨rfl, trivial⟩ ⟨rfl, (hs.pick [] rfl).dnil⟩

noncomputable def slices_Clone_impl_Entry_impl_Entry.f (l0 : List S_Entry) : Option (List S_Entry) :=
  (if l0.length ≤ 1073741824 then (some l0) else none)
set_option maxRecDepth 100000 in
set_option maxHeartbeats 0 in
theorem slices_Clone_impl_Entry_impl_Entry_t (w0 : World) (A0_ : Option Addr) (p0_ : Nat) (l0 : List S_Entry) (k0_ : Chunk) (v0_ : View L_Entry A0_ p0_ l0 k0_) (w0_ : Has w0 k0_) (r : List S_Entry) (H : slices_Clone_impl_Entry_impl_Entry.f l0 = some r) :
    Calls Try.prog 69 #[.slice A0_ l0.length p0_] w0 (Ret (fun v w => ∃ (A0 : Option Addr) (p0 : Nat) (k0 : Chunk), v = .slice A0 r.length p0 ∧ Own L_Entry 62 A0 p0 r k0 ∧ Sat [] w0 w [] [(0, k0)])) := by
  have hs : Sat [] w0 w0 [(1, k0_)] [] := Sat.init w0 [(1, k0_)] [] (by simp only [List.mem_cons, List.not_mem_nil, or_false]; rintro x (rfl) <;> assumption) (by simp) List.nodup_nil (by simp [blks])
  unfold slices_Clone_impl_Entry_impl_Entry.f at H
  rcases ite_some H with ⟨c, H⟩ | ⟨_, H⟩
  rotate_left
  · cases H
  obtain rfl := Option.some.inj H
  refine enter Try.func69 rfl Try.ntmps69 rfl fun a hk => ?_
  apply wp_seq_k; intro K1 hK1
  apply wp_region_lit
  refine sa _ rfl hk rfl rfl rfl fun a hk => ?_
  refine wpList_nil ?_
  refine hK1 _ _ ?_
  apply wp_seq_k; intro K3 hK3
  apply wp_seq_k; intro K2 hK2
  apply wp_region_lit
  refine sm _ rfl hk rfl rfl rfl fun a hk => ?_
  refine snl rfl hk rfl rfl rfl un26 fun a hk => ?_
  refine wpList_nil ?_
  refine hK2 _ _ ?_
  cases A0_ with
  | none =>
    obtain rfl := v0_.none_nil
    refine cnd_true hk rfl rfl ?_
    apply wp_seq_k; intro K4 hK4
    apply wp_region_lit
    refine sa _ rfl hk rfl rfl rfl fun a hk => ?_
    refine wpList_nil ?_
    refine hK4 _ _ ?_
    refine wp_ret ?_
    have hs := hs.addNil 9
    exact fin hk _ [(.slice none 0 0)] rfl ⟨rfl, trivial⟩ ⟨none, 0, [], rfl, Own.nil _ _, (hs.pick [(0, 9)] rfl).dnil⟩
  | some A0_ =>
    refine cnd_false hk rfl rfl ?_
    refine wp_skip ?_
    refine hK3 _ _ ?_
    apply wp_seq_k; intro K5 hK5
    apply wp_region_lit
    refine sbs0 2 L_Entry hs rfl hk rfl rfl un26 sz62 fun b k w a hk o hs => ?_
    refine sm _ rfl hk rfl rfl rfl fun a hk => ?_
    refine sap 2 (xs := ([] : List S_Entry)) (ys := l0) (flat_flat : (L_Entry).Flat) hs rfl o v0_ (hs.hasD (k := 1) rfl) rfl hk rfl rfl rfl rfl rfl rfl un26 mk62 rfl rfl rfl (by simpa using c) fun A p k w a hk o hs => ?_
    refine sa _ rfl hk rfl rfl rfl fun a hk => ?_
    refine wpList_nil ?_
    refine hK5 _ _ ?_
    refine wp_ret ?_
    exact fin hk _ [(.slice A ([] ++ l0).length p)] rfl ⟨rfl, trivial⟩ ⟨A, p, _, rfl, o, (hs.pick [(0, 2)] rfl).dnil⟩

noncomputable def slices_BinarySearchFunc_impl_Entry_impl_Entry_int.s0 (l0 : List S_Entry) (x1 : Int) (q2 : S_Entry → Int → Option (Int)) (u7 : Int) (u8 : Int) : Option ((Int × Int) ⊕ Ex (Int) (Int × Bool)) :=
  (bif (decide (u7 < u8)) then (if 0 ≤ (IntKind.wrap .i64 (Int.fdiv (IntKind.wrap .u64 (w64 (u7 + u8))) (2 ^ 1))) ∧ (IntKind.wrap .i64 (Int.fdiv (IntKind.wrap .u64 (w64 (u7 + u8))) (2 ^ 1))) < (l0.length : Int) then ((q2 (l0.getD (IntKind.wrap .i64 (Int.fdiv (IntKind.wrap .u64 (w64 (u7 + u8))) (2 ^ 1))).toNat z_Entry) x1).bind fun y27 => (((bif (decide (y27 < 0)) then (some ((w64 ((IntKind.wrap .i64 (Int.fdiv (IntKind.wrap .u64 (w64 (u7 + u8))) (2 ^ 1))) + 1)), u8)) else (some (u7, (IntKind.wrap .i64 (Int.fdiv (IntKind.wrap .u64 (w64 (u7 + u8))) (2 ^ 1)))))) : Option (Int × Int)).bind fun o => match o with | (u30, u31) => (some (.inl (u30, u31))))) else none) else (some (.inr (.out u7))))
noncomputable def slices_BinarySearchFunc_impl_Entry_impl_Entry_int.f (l0 : List S_Entry) (x1 : Int) (q2 : S_Entry → Int → Option (Int)) : Option (Int × Bool) :=
  ((loopO (fun s => slices_BinarySearchFunc_impl_Entry_impl_Entry_int.s0 l0 x1 q2 s.1 s.2) (0, (l0.length : Int))).bind fun o => match o with | .out u9 => (((bif (decide (u9 < (l0.length : Int))) then (if 0 ≤ u9 ∧ u9 < (l0.length : Int) then ((q2 (l0.getD u9.toNat z_Entry) x1).bind fun y51 => (some (u9, (y51 == 0)))) else none) else (some (u9, false))) : Option (Int × Bool)).bind fun o => match o with | (u40, u41) => (some (u40, u41))) | .ret r => (some r))
set_option maxRecDepth 100000 in
set_option maxHeartbeats 0 in
theorem slices_BinarySearchFunc_impl_Entry_impl_Entry_int_t (w0 : World) (A0_ : Option Addr) (p0_ : Nat) (l0 : List S_Entry) (k0_ : Chunk) (v0_ : View L_Entry A0_ p0_ l0 k0_) (w0_ : Has w0 k0_) (x1 : Int) (f2_ : FuncId) (c2_ : List Value) (e2_ : Enters Try.prog f2_) (q2 : S_Entry → Int → Option (Int)) (k2_ : Chunk) (t2_ : ∀ w, Has w k2_ → ∀ (z0 : S_Entry) (z1 : Int) (r : Int), q2 z0 z1 = some r → Calls Try.prog f2_ (([.agg #[.int .i64 z0.Key, .int .i64 z0.Value], .int .i64 z1] : List Value) ++ c2_).toArray w (Ret (fun v w2 => v = .int .i64 r ∧ Sat [] w w2 [] []))) (w2_ : Has w0 k2_) (r : Int × Bool) (H : slices_BinarySearchFunc_impl_Entry_impl_Entry_int.f l0 x1 q2 = some r) :
    Calls Try.prog 137 #[.slice A0_ l0.length p0_, .int .i64 x1, .func (.func f2_) #[] c2_.toArray] w0 (Ret (fun v w => v = .tuple #[.int .i64 r.1, .bool r.2] ∧ Sat [] w0 w [] [])) := by
  have hs : Sat [] w0 w0 [(1, k0_), (2, k2_)] [] := Sat.init w0 [(1, k0_), (2, k2_)] [] (by simp only [List.mem_cons, List.not_mem_nil, or_false]; rintro x (rfl | rfl) <;> assumption) (by simp) List.nodup_nil (by simp [blks])
  unfold slices_BinarySearchFunc_impl_Entry_impl_Entry_int.f at H
  refine enter Try.func137 rfl Try.ntmps137 rfl fun a hk => ?_
  apply wp_seq_k; intro K1 hK1
  apply wp_region_lit
  refine sa _ rfl hk rfl rfl rfl fun a hk => ?_
  refine sa _ rfl hk rfl rfl rfl fun a hk => ?_
  show wpList _ _ _ [] _ _
  refine wpList_nil ?_
  refine hK1 _ _ ?_
  apply wp_seq_k; intro K2 hK2
  apply wp_region_lit
  refine sm _ rfl hk rfl rfl rfl fun a hk => ?_
  refine sle rfl hk rfl rfl rfl un26 fun a hk => ?_
  refine sa _ rfl hk rfl rfl rfl fun a hk => ?_
  show wpList _ _ _ [] _ _
  refine wpList_nil ?_
  refine hK2 _ _ ?_
  apply wp_seq_k; intro K3 hK3
  apply wp_region_lit
  refine sm _ rfl hk rfl rfl rfl fun a hk => ?_
  refine sa _ rfl hk rfl rfl rfl fun a hk => ?_
  refine sa _ rfl hk rfl rfl rfl fun a hk => ?_
  show wpList _ _ _ [] _ _
  refine wpList_nil ?_
  refine hK3 _ _ ?_
  apply wp_seq_k; intro K4 hK4
  obtain ⟨o10, h11, HL12⟩ := bind_some H
  clear H
  obtain ⟨R13, hR13⟩ : ∃ R : Act → World → Prop, R = fun a w => ∃ (u9 : Int), o10 = .out u9 ∧ Kn [(0, (.slice A0_ l0.length p0_)), (1, (.int .i64 x1)), (2, (.func (.func f2_) #[] c2_.toArray)), (8, (.int .i64 (l0.length : Int))), (9, (.int .i64 u9))] 49 a ∧ Sat [] w0 w [(1, k0_), (2, k2_)] [] := ⟨_, rfl⟩
  refine wp_cutq R13 ?_ ?_
  · refine wp_block ?_
    obtain ⟨fu15, h11⟩ := loopO_some h11
    obtain ⟨I14, hI14⟩ : ∃ I : Nat → Act → World → Prop, I = fun fu a w => ∃ (u7 : Int) (u8 : Int), loopN (fun s => slices_BinarySearchFunc_impl_Entry_impl_Entry_int.s0 l0 x1 q2 s.1 s.2) fu (u7, u8) = some o10 ∧ Kn [(0, (.slice A0_ l0.length p0_)), (1, (.int .i64 x1)), (2, (.func (.func f2_) #[] c2_.toArray)), (8, (.int .i64 (l0.length : Int))), (9, (.int .i64 u7)), (10, (.int .i64 u8))] 49 a ∧ Sat [] w0 w [(1, k0_), (2, k2_)] [] := ⟨_, rfl⟩
    refine wp_loop_ghost I14 fu15 ?_ ?_
    · rw [hI14]
      exact ⟨0, (l0.length : Int), h11, (hk.c 0 rfl (hk.c 1 rfl (hk.c 2 rfl (hk.c 8 rfl (hk.c 9 rfl (hk.c 10 rfl hk.k)))))), (hs.pick [] rfl)⟩
    · clear h11 hk hs
      intro fu15 a w hI0
      rw [hI14] at hI0
      obtain ⟨u7, u8, hi, hk, hs⟩ := hI0
      obtain ⟨x16, H, h17⟩ := loop_round hi
      try dsimp only at H
      unfold slices_BinarySearchFunc_impl_Entry_impl_Entry_int.s0 at H
      apply wp_seq_k; intro K18 hK18
      apply wp_seq_k; intro K19 hK19
      apply wp_region_lit
      refine sm _ rfl hk rfl rfl rfl fun a hk => ?_
      refine sm _ rfl hk rfl rfl rfl fun a hk => ?_
      refine sv (.bool (decide (u7 < u8))) hk rfl rfl rfl fun a hk => ?_
      show wpList _ _ _ [] _ _
      refine wpList_nil ?_
      refine hK19 _ _ ?_
      rcases cond_some H with ⟨c20, H⟩ | ⟨c20, H⟩
      · have hk := hk.lit 17 c20 rfl
        refine cnd_true hk rfl rfl ?_
        refine wp_skip ?_
        refine hK18 _ _ ?_
        refine wp_block ?_
        apply wp_seq_k; intro K21 hK21
        apply wp_region_lit
        refine sm _ rfl hk rfl rfl rfl fun a hk => ?_
        refine sm _ rfl hk rfl rfl rfl fun a hk => ?_
        refine sv (.int .i64 (w64 (u7 + u8))) hk rfl rfl rfl fun a hk => ?_
        refine scn rfl hk rfl rfl rfl un186 un3 fun a hk => ?_
        refine sv (.int .u64 (Int.fdiv (IntKind.wrap .u64 (w64 (u7 + u8))) (2 ^ 1))) hk rfl rfl rfl fun a hk => ?_
        refine scn rfl hk rfl rfl rfl un3 un186 fun a hk => ?_
        refine sa _ rfl hk rfl rfl rfl fun a hk => ?_
        show wpList _ _ _ [] _ _
        refine wpList_nil ?_
        refine hK21 _ _ ?_
        apply wp_seq_k; intro K22 hK22
        apply wp_region_lit
        refine sm _ rfl hk rfl rfl rfl fun a hk => ?_
        refine sm _ rfl hk rfl rfl rfl fun a hk => ?_
        refine sm _ rfl hk rfl rfl rfl fun a hk => ?_
        rcases ite_some H with ⟨c23, H⟩ | ⟨_, H⟩
        rotate_left
        · cases H
        obtain ⟨b24, q25, hAc23⟩ := (v0_).some_ (IntKind.wrap .i64 (Int.fdiv (IntKind.wrap .u64 (w64 (u7 + u8))) (2 ^ 1))) c23.1 c23.2
        refine si rfl hk rfl rfl rfl rfl un26 sz62 c23.1 c23.2 hAc23 fun a hk => ?_
        obtain ⟨_, rfl, e26⟩ := (v0_).at_ z_Entry (IntKind.wrap .i64 (Int.fdiv (IntKind.wrap .u64 (w64 (u7 + u8))) (2 ^ 1))) c23.1 c23.2
        refine sln [.int .i64 ((l0.getD (IntKind.wrap .i64 (Int.fdiv (IntKind.wrap .u64 (w64 (u7 + u8))) (2 ^ 1))).toNat z_Entry).Key), .int .i64 ((l0.getD (IntKind.wrap .i64 (Int.fdiv (IntKind.wrap .u64 (w64 (u7 + u8))) (2 ^ 1))).toNat z_Entry).Value)] rfl hk rfl rfl rfl ag62 sz62 (cells_at e26 (hs.hasD (k := 1) rfl)) fun a hk => ?_
        refine sm _ rfl hk rfl rfl rfl fun a hk => ?_
        obtain ⟨y27, h28, H⟩ := bind_some H
        refine scv (vs := ([(.agg #[.int .i64 ((l0.getD (IntKind.wrap .i64 (Int.fdiv (IntKind.wrap .u64 (w64 (u7 + u8))) (2 ^ 1))).toNat z_Entry).Key), .int .i64 ((l0.getD (IntKind.wrap .i64 (Int.fdiv (IntKind.wrap .u64 (w64 (u7 + u8))) (2 ^ 1))).toNat z_Entry).Value)]), (.int .i64 x1)] : List Value) ++ c2_) rfl rfl e2_ hk rfl rfl rfl (t2_ _ (hs.hasD (k := 2) rfl) (l0.getD (IntKind.wrap .i64 (Int.fdiv (IntKind.wrap .u64 (w64 (u7 + u8))) (2 ^ 1))).toNat z_Entry) x1 _ h28) ?_
        rintro _ w ⟨rfl, hG⟩ a hk
        have hs := hs.call0 hG
        refine sv (.bool (decide (y27 < 0))) hk rfl rfl rfl fun a hk => ?_
        show wpList _ _ _ [] _ _
        refine wpList_nil ?_
        refine hK22 _ _ ?_
        obtain ⟨o32, h33, HL34⟩ := bind_some H
        clear H
        obtain ⟨R35, hR35⟩ : ∃ R : Act → World → Prop, R = fun a w => ∃ (u30 : Int) (u31 : Int), (u30, u31) = o32 ∧ Kn [(0, (.slice A0_ l0.length p0_)), (1, (.int .i64 x1)), (2, (.func (.func f2_) #[] c2_.toArray)), (8, (.int .i64 (l0.length : Int))), (9, (.int .i64 u30)), (10, (.int .i64 u31))] 49 a ∧ Sat [] w0 w [(1, k0_), (2, k2_)] [] := ⟨_, rfl⟩
        refine wp_cutq R35 ?_ ?_
        · have H := h33
          rcases cond_some H with ⟨c36, H⟩ | ⟨c36, H⟩
          · have hk := hk.lit 31 c36 rfl
            refine cnd_true hk rfl rfl ?_
            apply wp_region_lit
            refine sm _ rfl hk rfl rfl rfl fun a hk => ?_
            refine sv (.int .i64 (w64 ((IntKind.wrap .i64 (Int.fdiv (IntKind.wrap .u64 (w64 (u7 + u8))) (2 ^ 1))) + 1))) hk rfl rfl rfl fun a hk => ?_
            refine sa _ rfl hk rfl rfl rfl fun a hk => ?_
            show wpList _ _ _ [] _ _
            refine wpList_nil ?_
            obtain rfl := Option.some.inj H
            show R35 _ _
            rw [hR35]
            exact ⟨(w64 ((IntKind.wrap .i64 (Int.fdiv (IntKind.wrap .u64 (w64 (u7 + u8))) (2 ^ 1))) + 1)), u8, rfl, (hk.c 0 rfl (hk.c 1 rfl (hk.c 2 rfl (hk.c 8 rfl (hk.c 9 rfl (hk.c 10 rfl hk.k)))))), (hs.pick [] rfl)⟩
          · have hk := hk.lit 31 c36 rfl
            refine cnd_false hk rfl rfl ?_
            apply wp_region_lit
            refine sm _ rfl hk rfl rfl rfl fun a hk => ?_
            refine sa _ rfl hk rfl rfl rfl fun a hk => ?_
            show wpList _ _ _ [] _ _
            refine wpList_nil ?_
            obtain rfl := Option.some.inj H
            show R35 _ _
            rw [hR35]
            exact ⟨u7, (IntKind.wrap .i64 (Int.fdiv (IntKind.wrap .u64 (w64 (u7 + u8))) (2 ^ 1))), rfl, (hk.c 0 rfl (hk.c 1 rfl (hk.c 2 rfl (hk.c 8 rfl (hk.c 9 rfl (hk.c 10 rfl hk.k)))))), (hs.pick [] rfl)⟩
        · intro a w hR0
          rw [hR35] at hR0
          obtain ⟨u30, u31, rfl, hk, hs⟩ := hR0
          have H := HL34
          try dsimp only at H
          obtain rfl := Option.some.inj H
          obtain ⟨m37, hmm37, h17⟩ := h17
          show ∃ n', n' < _ ∧ I14 n' _ _
          refine ⟨m37, hmm37, ?_⟩
          rw [hI14]
          exact ⟨u30, u31, h17, (hk.c 0 rfl (hk.c 1 rfl (hk.c 2 rfl (hk.c 8 rfl (hk.c 9 rfl (hk.c 10 rfl hk.k)))))), (hs.pick [] rfl)⟩
      · have hk := hk.lit 17 c20 rfl
        refine cnd_false hk rfl rfl ?_
        refine wp_exit ?_
        obtain rfl := Option.some.inj H
        show R13 _ _
        rw [hR13]
        exact ⟨u7, h17.symm, (hk.c 0 rfl (hk.c 1 rfl (hk.c 2 rfl (hk.c 8 rfl (hk.c 9 rfl hk.k))))), (hs.pick [] rfl)⟩
  · intro a w hR0
    rw [hR13] at hR0
    obtain ⟨u9, rfl, hk, hs⟩ := hR0
    have H := HL12
    try dsimp only at H
    refine hK4 _ _ ?_
    apply wp_seq_k; intro K38 hK38
    obtain ⟨o42, h43, HL44⟩ := bind_some H
    clear H
    obtain ⟨R45, hR45⟩ : ∃ R : Act → World → Prop, R = fun a w => ∃ (u40 : Int) (u41 : Bool), (u40, u41) = o42 ∧ Kn [(6, (.int .i64 u40)), (7, (.bool u41))] 49 a ∧ Sat [] w0 w [(1, k0_), (2, k2_)] [] := ⟨_, rfl⟩
    refine wp_cutq R45 ?_ ?_
    · have H := h43
      apply wp_region_lit
      refine sm _ rfl hk rfl rfl rfl fun a hk => ?_
      refine sm _ rfl hk rfl rfl rfl fun a hk => ?_
      refine sm _ rfl hk rfl rfl rfl fun a hk => ?_
      refine sv (.bool (decide (u9 < (l0.length : Int)))) hk rfl rfl rfl fun a hk => ?_
      refine sm _ rfl hk rfl rfl rfl fun a hk => ?_
      rcases cond_some H with ⟨c46, H⟩ | ⟨c46, H⟩
      · have hk := hk.lit 39 c46 rfl
        refine sm _ rfl hk rfl rfl rfl fun a hk => ?_
        refine sm _ rfl hk rfl rfl rfl fun a hk => ?_
        refine sm _ rfl hk rfl rfl rfl fun a hk => ?_
        rcases ite_some H with ⟨c47, H⟩ | ⟨_, H⟩
        rotate_left
        · cases H
        obtain ⟨b48, q49, hAc47⟩ := (v0_).some_ u9 c47.1 c47.2
        refine si rfl hk rfl rfl rfl rfl un26 sz62 c47.1 c47.2 hAc47 fun a hk => ?_
        obtain ⟨_, rfl, e50⟩ := (v0_).at_ z_Entry u9 c47.1 c47.2
        refine sln [.int .i64 ((l0.getD u9.toNat z_Entry).Key), .int .i64 ((l0.getD u9.toNat z_Entry).Value)] rfl hk rfl rfl rfl ag62 sz62 (cells_at e50 (hs.hasD (k := 1) rfl)) fun a hk => ?_
        refine sm _ rfl hk rfl rfl rfl fun a hk => ?_
        obtain ⟨y51, h52, H⟩ := bind_some H
        refine scv (vs := ([(.agg #[.int .i64 ((l0.getD u9.toNat z_Entry).Key), .int .i64 ((l0.getD u9.toNat z_Entry).Value)]), (.int .i64 x1)] : List Value) ++ c2_) rfl rfl e2_ hk rfl rfl rfl (t2_ _ (hs.hasD (k := 2) rfl) (l0.getD u9.toNat z_Entry) x1 _ h52) ?_
        rintro _ w ⟨rfl, hG⟩ a hk
        have hs := hs.call0 hG
        refine sv (.bool (y51 == 0)) hk rfl rfl rfl fun a hk => ?_
        refine sv (.bool (y51 == 0)) hk rfl rfl rfl fun a hk => ?_
        refine sa _ rfl hk rfl rfl rfl fun a hk => ?_
        refine sa _ rfl hk rfl rfl rfl fun a hk => ?_
        show wpList _ _ _ [] _ _
        refine wpList_nil ?_
        obtain rfl := Option.some.inj H
        show R45 _ _
        rw [hR45]
        exact ⟨u9, (y51 == 0), rfl, (hk.c 6 rfl (hk.c 7 rfl hk.k)), (hs.pick [] rfl)⟩
      · have hk := hk.lit 39 c46 rfl
        refine sk hk rfl rfl rfl fun a hk => ?_
        refine sk hk rfl rfl rfl fun a hk => ?_
        refine sk hk rfl rfl rfl fun a hk => ?_
        refine sk hk rfl rfl rfl fun a hk => ?_
        refine sk hk rfl rfl rfl fun a hk => ?_
        refine sk hk rfl rfl rfl fun a hk => ?_
        refine sk hk rfl rfl rfl fun a hk => ?_
        refine sk hk rfl rfl rfl fun a hk => ?_
        refine sv (.bool false) hk rfl rfl rfl fun a hk => ?_
        refine sa _ rfl hk rfl rfl rfl fun a hk => ?_
        refine sa _ rfl hk rfl rfl rfl fun a hk => ?_
        show wpList _ _ _ [] _ _
        refine wpList_nil ?_
        obtain rfl := Option.some.inj H
        show R45 _ _
        rw [hR45]
        exact ⟨u9, false, rfl, (hk.c 6 rfl (hk.c 7 rfl hk.k)), (hs.pick [] rfl)⟩
    · intro a w hR0
      rw [hR45] at hR0
      obtain ⟨u40, u41, rfl, hk, hs⟩ := hR0
      have H := HL44
      try dsimp only at H
      refine hK38 _ _ ?_
      refine wp_ret ?_
      obtain rfl := Option.some.inj H
      exact fin hk _ [(.int .i64 u40), (.bool u41)] rfl ⟨rfl, ⟨rfl, trivial⟩⟩ ⟨rfl, (hs.pick [] rfl).dnil⟩

noncomputable def impl_find_c1.f (x0 : S_Entry) (x1 : Int) : Option (Int) :=
  (some (w64 (x0.Key - x1)))
set_option maxRecDepth 100000 in
set_option maxHeartbeats 0 in
theorem impl_find_c1_t (w0 : World) (x0 : S_Entry) (x1 : Int) (r : Int) (H : impl_find_c1.f x0 x1 = some r) :
    Calls Try.prog 138 #[.agg #[.int .i64 x0.Key, .int .i64 x0.Value], .int .i64 x1] w0 (Ret (fun v w => v = .int .i64 r ∧ Sat [] w0 w [] [])) := by
  have hs : Sat [] w0 w0 [] [] := Sat.init w0 [] [] (by simp) (by simp) List.nodup_nil (by simp [blks])
  unfold impl_find_c1.f at H
  refine enter Try.func138 rfl Try.ntmps138 rfl fun a hk => ?_
  apply wp_seq_k; intro K1 hK1
  apply wp_region_lit
  refine sbx 1 hs rfl hk rfl rfl rfl rfl fun b2 w a hk hs => ?_
  refine sa _ rfl hk rfl rfl rfl fun a hk => ?_
  show wpList _ _ _ [] _ _
  refine wpList_nil ?_
  refine hK1 _ _ ?_
  apply wp_seq_k; intro K3 hK3
  apply wp_region_lit
  refine sf ⟨b2, 0, none⟩ rfl hk rfl rfl rfl fd62_0 rfl fun a hk => ?_
  refine sl rfl hk rfl rfl rfl ag3 (box_cell hs (k := 1) rfl rfl) fun a hk => ?_
  refine sm _ rfl hk rfl rfl rfl fun a hk => ?_
  refine sv (.int .i64 (w64 (x0.Key - x1))) hk rfl rfl rfl fun a hk => ?_
  refine sa _ rfl hk rfl rfl rfl fun a hk => ?_
  show wpList _ _ _ [] _ _
  refine wpList_nil ?_
  refine hK3 _ _ ?_
  refine wp_ret ?_
  obtain rfl := Option.some.inj H
  exact fin hk _ [(.int .i64 (w64 (x0.Key - x1)))] rfl ⟨rfl, trivial⟩ ⟨rfl, (hs.pick [] rfl).dnil⟩

noncomputable def impl_find.f (l0 : List S_Entry) (x1 : Int) : Option (Int × Bool) :=
  ((slices_BinarySearchFunc_impl_Entry_impl_Entry_int.f l0 x1 impl_find_c1.f).bind fun y3 => (some (y3.1, y3.2)))
set_option maxRecDepth 100000 in
set_option maxHeartbeats 0 in
theorem impl_find_t (w0 : World) (A0_ : Option Addr) (p0_ : Nat) (l0 : List S_Entry) (k0_ : Chunk) (v0_ : View L_Entry A0_ p0_ l0 k0_) (w0_ : Has w0 k0_) (x1 : Int) (r : Int × Bool) (H : impl_find.f l0 x1 = some r) :
    Calls Try.prog 82 #[.slice A0_ l0.length p0_, .int .i64 x1] w0 (Ret (fun v w => v = .tuple #[.int .i64 r.1, .bool r.2] ∧ Sat [] w0 w [] [])) := by
  have hs : Sat [] w0 w0 [(1, k0_)] [] := Sat.init w0 [(1, k0_)] [] (by simp only [List.mem_cons, List.not_mem_nil, or_false]; rintro x (rfl) <;> assumption) (by simp) List.nodup_nil (by simp [blks])
  unfold impl_find.f at H
  refine enter Try.func82 rfl Try.ntmps82 rfl fun a hk => ?_
  apply wp_seq_k; intro K1 hK1
  apply wp_region_lit
  refine sa _ rfl hk rfl rfl rfl fun a hk => ?_
  refine sa _ rfl hk rfl rfl rfl fun a hk => ?_
  show wpList _ _ _ [] _ _
  refine wpList_nil ?_
  refine hK1 _ _ ?_
  apply wp_seq_k; intro K2 hK2
  apply wp_region_lit
  refine sm _ rfl hk rfl rfl rfl fun a hk => ?_
  refine sm _ rfl hk rfl rfl rfl fun a hk => ?_
  obtain ⟨y3, h4, H⟩ := bind_some H
  refine sc rfl en137 hk rfl rfl rfl (slices_BinarySearchFunc_impl_Entry_impl_Entry_int_t _ A0_ p0_ l0 _ v0_ (hs.hasD (k := 1) rfl) x1 138 [] en138 impl_find_c1.f [] (fun w _ z0 z1 r h => impl_find_c1_t w z0 z1 r h) (Has.nil _) _ h4) ?_
  rintro _ w ⟨rfl, hG⟩ a hk
  have hs := hs.call0 hG
  refine sv (.int .i64 y3.1) hk rfl rfl rfl fun a hk => ?_
  refine sv (.bool y3.2) hk rfl rfl rfl fun a hk => ?_
  refine sa _ rfl hk rfl rfl rfl fun a hk => ?_
  refine sa _ rfl hk rfl rfl rfl fun a hk => ?_
  show wpList _ _ _ [] _ _
  refine wpList_nil ?_
  refine hK2 _ _ ?_
  refine wp_ret ?_
  obtain rfl := Option.some.inj H
  exact fin hk _ [(.int .i64 y3.1), (.bool y3.2)] rfl ⟨rfl, ⟨rfl, trivial⟩⟩ ⟨rfl, (hs.pick [] rfl).dnil⟩

set_option maxRecDepth 100000 in
set_option maxHeartbeats 1000000 in
theorem slices_Delete_impl_Entry_impl_Entry_n {M : List Nat} {w00 w : World} {Δ Γ : List (Nat × Chunk)} (k : Nat) {A : Option Addr} {cap : Nat} {xs : List S_Entry} {c : Chunk} (i j : Nat)
    (hs : Sat M w00 w Δ Γ) (hg : kget Γ k = some c) (hown : Own L_Entry 62 A cap xs c) (hij : i ≤ j) (hj : j ≤ xs.length) (hn : xs.length ≤ 1073741824) :
    Calls Try.prog 129 #[.slice A xs.length cap, .int .i64 i, .int .i64 j] w (Ret (fun v w' => ∃ A1 cap1 c1, v = .slice A1 (delL xs i j).length cap1 ∧ Own L_Entry 62 A1 cap1 (delL xs i j) c1 ∧ Sat M w00 w' Δ ((k, c1) :: kdel Γ k))) := by
  have hfl : (L_Entry).Flat := flat_flat
  have hLs : (L_Entry).size = 2 := rfl
  have hmx : maxLen = 9223372036854775807 := rfl
  have hcap := hown.view.le
  have htop0 := hown.view.top
  refine enter Try.func129 rfl Try.ntmps129 rfl fun a hk => ?_
  apply wp_seq_k; intro K1 hK1
  apply wp_region_lit
  refine sa _ rfl hk rfl rfl rfl fun a hk => ?_
  show wpList _ _ _ [] _ _
  refine wpList_nil ?_
  refine hK1 _ _ ?_
  apply wp_seq_k; intro K2 hK2
  apply wp_region_lit
  refine sm _ rfl hk rfl rfl rfl fun a hk => ?_
  refine sm _ rfl hk rfl rfl rfl fun a hk => ?_
  refine sm _ rfl hk rfl rfl rfl fun a hk => ?_
  refine sm _ rfl hk rfl rfl rfl fun a hk => ?_
  refine sle rfl hk rfl rfl rfl un26 fun a hk => ?_
  refine sll_lhm rfl hk rfl rfl rfl rfl rfl rfl un26 sz62 (by omega) (by omega) (by omega) (by omega) fun v13 a hk => ?_
  show wpList _ _ _ [] _ _
  refine wpList_nil ?_
  refine hK2 _ _ ?_
  apply wp_seq_k; intro K4 hK4
  apply wp_seq_k; intro K3 hK3
  apply wp_region_lit
  refine sm _ rfl hk rfl rfl rfl fun a hk => ?_
  refine sm _ rfl hk rfl rfl rfl fun a hk => ?_
  refine sv (.bool (decide ((i : Int) = (j : Int)))) hk rfl rfl rfl fun a hk => ?_
  show wpList _ _ _ [] _ _
  refine wpList_nil ?_
  refine hK3 _ _ ?_
  by_cases heq : i = j
  · have hk := hk.lit 16 (decide_eq_true (by omega)) rfl
    refine cnd_true hk rfl rfl ?_
    apply wp_seq_k; intro K9 hK9
    apply wp_region_lit
    refine sm _ rfl hk rfl rfl rfl fun a hk => ?_
    refine sa _ rfl hk rfl rfl rfl fun a hk => ?_
    show wpList _ _ _ [] _ _
    refine wpList_nil ?_
    refine hK9 _ _ ?_
    refine wp_ret ?_
    have e : delL xs i j = xs := by rw [heq]; exact List.take_append_drop _ _
    exact fin hk _ [(.slice A xs.length cap)] rfl ⟨rfl, trivial⟩ ⟨A, cap, c, by rw [e]; rfl, by rw [e]; exact hown, hs.top hg⟩
  · have hk := hk.lit 16 (decide_eq_false (by omega)) rfl
    refine cnd_false hk rfl rfl ?_
    refine wp_skip ?_
    refine hK4 _ _ ?_
    have hxne : xs ≠ [] := by rintro rfl; simp at hj; omega
    obtain ⟨b, rfl, cs, ess, cd, rfl, hall, htake, hcs, hle, htop⟩ := hown.opened hxne
    have hall := hall.flat hfl
    have hxl := hall.flatten_len
    have h1x := Lay.ones hall
    rw [hLs] at hxl htake hcs
    have hcl : cs.toList.length = cap * 2 := by rw [Array.length_toList (xs := cs), hcs]
    have hbw : w.heap[b]? = some (.cells cs 62 (0, 0)) := hs.hasG hg _ (List.mem_cons_self ..)
    have holds : ∀ w : World, w.heap[b]? = some (.cells cs 62 (0, 0)) → ∀ j u, ess.flatten[j]? = some u → w.cell? ((⟨b, 0, none⟩ : Addr).add j) = some u := by
      intro w hbw j u hu
      rw [addr_add0, cell_of_row w b j cs 62 (0, 0) hbw]
      rw [← htake, List.getElem?_take] at hu
      split at hu
      · simpa using hu
      · cases hu
    have hs1 := hs.less (k := k) [(b, .cells cs 62 (0, 0))] cd hg (by simp)
    apply wp_seq_k; intro K5 hK5
    apply wp_region_lit
    refine sm _ rfl hk rfl rfl rfl fun a hk => ?_
    refine sle rfl hk rfl rfl rfl un26 fun a hk => ?_
    refine sa _ rfl hk rfl rfl rfl fun a hk => ?_
    show wpList _ _ _ [] _ _
    refine wpList_nil ?_
    refine hK5 _ _ ?_
    have elen := len_delL xs i j hij hj
    have hdl : (ess.flatten.drop (j * 2)).length = (xs.length - j) * 2 := by rw [List.length_drop, hxl]; omega
    obtain ⟨ad, had, had2⟩ : ∃ ad : Addr, (if cap = j then (some ⟨b, 0, none⟩ : Option Addr) else (some ⟨b, 0, none⟩ : Option Addr).map (·.add (j * 2))) = some ad ∧ (cap ≠ j → ad = ⟨b, j * 2, none⟩) := by
      by_cases h : cap = j
      · exact ⟨_, if_pos h, fun h2 => absurd h h2⟩
      · exact ⟨_, if_neg h, fun _ => addr_add0 b _⟩
    obtain ⟨inf, hinf, hbinf, hzinf, hszinf⟩ := mkB_spec mk62
    apply wp_seq_k; intro K6 hK6
    refine wp_region_tree (.q 0 (.q 1 (.q 2 (.q 3 (.q 4 (.q 5 (.alt 6 (.alt 7 .done .stop) .stop))))))) mo (by kernel_rfl) (hs1.dnil.pick [] rfl) fun _ => ?_
    have hs1 := hs1.drew
    refine tqst (.slice (some ⟨b, 0, none⟩) xs.length cap) hk rfl rfl rfl rfl (fun w hs => sm _ rfl hk rfl rfl rfl fun a hk => qe hk) fun a hk => ?_
    refine tqst (.int .i64 (i : Int)) hk rfl rfl rfl rfl (fun w hs => sm _ rfl hk rfl rfl rfl fun a hk => qe hk) fun a hk => ?_
    refine tqst _ hk rfl rfl rfl rfl (fun w hs => sll_h rfl hk rfl rfl rfl rfl un26 sz62 (by omega) (by omega) fun a hk => qe hk) fun a hk => ?_
    have hk := hk.re (v' := .slice (some ⟨b, 0, none⟩) i cap) 22 rfl sl_head
    refine tqst (.slice (some ⟨b, 0, none⟩) xs.length cap) hk rfl rfl rfl rfl (fun w hs => sm _ rfl hk rfl rfl rfl fun a hk => qe hk) fun a hk => ?_
    refine tqst (.int .i64 (j : Int)) hk rfl rfl rfl rfl (fun w hs => sm _ rfl hk rfl rfl rfl fun a hk => qe hk) fun a hk => ?_
    refine tqst _ hk rfl rfl rfl rfl (fun w hs => sll_l rfl hk rfl rfl rfl rfl un26 sz62 (by omega) (by omega) fun a hk => qe hk) fun a hk => ?_
    have hk := hk.re (v' := .slice (some ad) (xs.length - j) (cap - j)) 25 rfl (congrArg (fun A => Value.slice A (xs.length - j) (cap - j)) had)
    refine tsst hk rfl rfl (fun Kl hKl w hF => ?_) wt_stop
    have hs1 := hs1.f hF
    have hbw1 := box_row hs1 (kget_cons _ _ _)
    have hrun := fun ty => run_append_room (P := Try.prog) w 26 ty 62 inf un26 hinf b i cap cs hbw1 ad (xs.length - j) (cap - j) (ess.flatten.drop (j * 2)) (by rw [hdl, hszinf]) (fun q u hu => by
      have hne : cap ≠ j := by
        intro h
        have := (List.getElem?_eq_some_iff.1 hu).1
        omega
      rw [had2 hne, addr_add1]
      rw [List.getElem?_drop] at hu
      have := holds w hbw1 _ u hu
      rwa [addr_add0] at this) (fun u hu => h1x u (List.mem_of_mem_drop hu)) (by omega) (by rw [hdl, hszinf, hcs]; omega)
    rw [hszinf] at hrun
    refine sapz rfl hk rfl rfl rfl rfl hrun fun a hk => ?_
    have hs2 := hs1.write1 (cs.toList.take (i * 2) ++ ess.flatten.drop (j * 2) ++ cs.toList.drop (i * 2 + (ess.flatten.drop (j * 2)).length)).toArray (kget_cons _ _ _)
    simp only [kset, Nat.beq_refl, if_true] at hs2
    refine se (hs2.dnil.pick [] rfl) hk (hKl _ _ ?_)
    refine tsst hk rfl rfl (fun Kl2 hKl2 w hF => ?_) wt_stop
    have hs2 := hs2.f hF
    refine sa _ rfl hk rfl rfl rfl fun a hk => ?_
    refine se (hs2.dnil.pick [] rfl) hk (hKl2 _ _ ?_)
    refine wtl_nil fun w hF _ => ?_
    have hs2 := hs2.f hF
    refine hK6 _ _ ?_
    apply wp_seq_k; intro K7 hK7
    apply wp_region_lit
    refine sm _ rfl hk rfl rfl rfl fun a hk => ?_
    refine sm _ rfl hk rfl rfl rfl fun a hk => ?_
    refine sle rfl hk rfl rfl rfl un26 fun a hk => ?_
    refine sm _ rfl hk rfl rfl rfl fun a hk => ?_
    refine sll_lh rfl hk rfl rfl rfl rfl rfl un26 sz62 (by omega) (by omega) (by omega) fun a hk => ?_
    have hk := hk.re (v' := .slice (some ⟨b, (i + (xs.length - j)) * 2, none⟩) (xs.length - (i + (xs.length - j))) (cap - (i + (xs.length - j)))) 31 rfl (sl_off (by omega))
    have hput := put_len (cs := cs.toList) (V := ess.flatten.drop (j * 2)) (o := i * 2) (by rw [hdl, hcl]; omega)
    refine scl k hs2 (kget_cons _ _ _) rfl hk rfl rfl rfl un26 (by kernel_rfl : zeroB Try.prog 62 = some (.agg #[.int .i64 0, .int .i64 0])) (by decide) (by simp [Value.cells, Value.oneCell']) (by omega) (by rw [show (Value.cells (.agg #[.int .i64 0, .int .i64 0])).size = 2 from rfl, List.size_toArray, hput, hcl]; omega) fun w a hk hs3 => ?_
    simp only [kset, Nat.beq_refl, if_true] at hs3
    show wpList _ _ _ [] _ _
    refine wpList_nil ?_
    refine hK7 _ _ ?_
    apply wp_seq_k; intro K8 hK8
    apply wp_region_lit
    refine sm _ rfl hk rfl rfl rfl fun a hk => ?_
    refine sa _ rfl hk rfl rfl rfl fun a hk => ?_
    show wpList _ _ _ [] _ _
    refine wpList_nil ?_
    refine hK8 _ _ ?_
    refine wp_ret ?_
    have zl : (Builtin.zeroCells (Value.cells (.agg #[.int .i64 0, .int .i64 0])) (xs.length - (i + (xs.length - j)))).toList.length = (xs.length - (i + (xs.length - j))) * 2 := by
      rw [Array.length_toList (xs := Builtin.zeroCells _ _), size_zeroCells]; rfl
    refine fin hk _ [(.slice (some ⟨b, 0, none⟩) (i + (xs.length - j)) cap)] rfl ⟨rfl, trivial⟩ ⟨_, cap, _, by rw [elen, show xs.length - (j - i) = i + (xs.length - j) by omega]; rfl, own_del hall hij hj ?_ ?_ hle htop, hs3⟩
    · rw [hLs, List.toList_toArray, List.toList_toArray]
      exact del_new htake (by omega) (by rw [hdl]; omega) (by omega) (by omega)
    · rw [hLs, List.size_toArray, List.toList_toArray]
      simp only [List.length_append, List.length_take, List.length_drop, zl, hput, hcl, hxl]
      rw [show (Value.cells (.agg #[.int .i64 0, .int .i64 0])).size = 2 from rfl]
      omega
theorem slices_Delete_impl_Entry_impl_Entry_t {M : List Nat} {w00 w : World} {Δ Γ : List (Nat × Chunk)} (k : Nat) {A : Option Addr} {cap : Nat} {xs : List S_Entry} {c : Chunk} {i j : Int}
    (hs : Sat M w00 w Δ Γ) (hg : kget Γ k = some c) (hown : Own L_Entry 62 A cap xs c) (hi : (0 ≤ i ∧ i ≤ j ∧ j ≤ (xs.length : Int)) ∧ xs.length ≤ 1073741824) :
    Calls Try.prog 129 #[.slice A xs.length cap, .int .i64 i, .int .i64 j] w (Ret (fun v w' => ∃ A1 cap1 c1, v = .slice A1 (delL xs i.toNat j.toNat).length cap1 ∧ Own L_Entry 62 A1 cap1 (delL xs i.toNat j.toNat) c1 ∧ Sat M w00 w' Δ ((k, c1) :: kdel Γ k))) := by
  obtain ⟨n, rfl⟩ := Int.eq_ofNat_of_zero_le hi.1.1
  obtain ⟨m, rfl⟩ := Int.eq_ofNat_of_zero_le (show 0 ≤ j by omega)
  exact slices_Delete_impl_Entry_impl_Entry_n k n m hs hg hown (by omega) (by omega) hi.2

noncomputable def impl_scan.s0 (l0 : List S_Entry) (u9 : Int) (u10 : Int) (u16 : List Int) : Option ((Int × Int × (List Int)) ⊕ Ex ((List Int)) ((List Int))) :=
  (bif (decide (u9 > 0)) then (((bif (decide (u10 < (l0.length : Int))) then (if 0 ≤ u10 ∧ u10 < (l0.length : Int) then (if 0 ≤ u10 ∧ u10 < (l0.length : Int) then (if u16.length + ([(l0.getD u10.toNat z_Entry).Key, (l0.getD u10.toNat z_Entry).Value]).length ≤ 1073741824 then (some (u16 ++ ([(l0.getD u10.toNat z_Entry).Key, (l0.getD u10.toNat z_Entry).Value]))) else none) else none) else none) else (if u16.length + ([0, 0]).length ≤ 1073741824 then (some (u16 ++ ([0, 0]))) else none)) : Option ((List Int))).bind fun u41 => (some (.inl ((w64 (u9 - 1)), (w64 (u10 + 1)), u41)))) else (some (.inr (.out u16))))
noncomputable def impl_scan.f (l0 : List S_Entry) (x1 : Int) (x2 : Int) : Option ((List Int)) :=
  ((impl_find.f l0 x1).bind fun y3 => ((loopO (fun s => impl_scan.s0 l0 s.1 s.2.1 s.2.2) (x2, y3.1, ([] : List Int))).bind fun o => match o with | .out u21 => (some u21) | .ret r => (some r)))
set_option maxRecDepth 100000 in
set_option maxHeartbeats 0 in
theorem impl_scan_t (w0 : World) (A0_ : Option Addr) (p0_ : Nat) (l0 : List S_Entry) (k0_ : Chunk) (v0_ : View L_Entry A0_ p0_ l0 k0_) (w0_ : Has w0 k0_) (x1 : Int) (x2 : Int) (r : (List Int)) (H : impl_scan.f l0 x1 x2 = some r) :
    Calls Try.prog 130 #[.slice A0_ l0.length p0_, .int .i64 x1, .int .i64 x2] w0 (Ret (fun v w => ∃ (A0 : Option Addr) (p0 : Nat) (k0 : Chunk), v = .slice A0 r.length p0 ∧ Own (Lay.int .i64) 3 A0 p0 r k0 ∧ Sat [] w0 w [] [(0, k0)])) := by
  have hs : Sat [] w0 w0 [(1, k0_)] [] := Sat.init w0 [(1, k0_)] [] (by simp only [List.mem_cons, List.not_mem_nil, or_false]; rintro x (rfl) <;> assumption) (by simp) List.nodup_nil (by simp [blks])
  unfold impl_scan.f at H
  refine enter Try.func130 rfl Try.ntmps130 rfl fun a hk => ?_
  apply wp_seq_k; intro K1 hK1
  apply wp_region_lit
  refine sa _ rfl hk rfl rfl rfl fun a hk => ?_
  show wpList _ _ _ [] _ _
  refine wpList_nil ?_
  refine hK1 _ _ ?_
  apply wp_seq_k; intro K2 hK2
  apply wp_region_lit
  refine sm _ rfl hk rfl rfl rfl fun a hk => ?_
  refine sm _ rfl hk rfl rfl rfl fun a hk => ?_
  obtain ⟨y3, h4, H⟩ := bind_some H
  refine sc rfl en82 hk rfl rfl rfl (impl_find_t _ A0_ p0_ l0 _ v0_ (hs.hasD (k := 1) rfl) x1 _ h4) ?_
  rintro _ w ⟨rfl, hG⟩ a hk
  have hs := hs.call0 hG
  refine sm _ rfl hk rfl rfl rfl fun a hk => ?_
  refine sv (.int .i64 y3.1) hk rfl rfl rfl fun a hk => ?_
  refine sv (.bool y3.2) hk rfl rfl rfl fun a hk => ?_
  refine sa _ rfl hk rfl rfl rfl fun a hk => ?_
  refine sa _ rfl hk rfl rfl rfl fun a hk => ?_
  show wpList _ _ _ [] _ _
  refine wpList_nil ?_
  refine hK2 _ _ ?_
  apply wp_seq_k; intro K5 hK5
  apply wp_region_lit
  refine sa _ rfl hk rfl rfl rfl fun a hk => ?_
  show wpList _ _ _ [] _ _
  refine wpList_nil ?_
  refine hK5 _ _ ?_
  apply wp_seq_k; intro K6 hK6
  obtain ⟨o26, h27, HL28⟩ := bind_some H
  clear H
  obtain ⟨R29, hR29⟩ : ∃ R : Act → World → Prop, R = fun a w => ∃ (u21 : List Int) (A24 : Option Addr) (p25 : Nat) (k22 : Chunk), o26 = .out u21 ∧ Kn [(9, (.slice A24 u21.length p25))] 43 a ∧ Sat [] w0 w [(1, k0_)] [(4, k22)] ∧ Own (Lay.int .i64) 3 A24 p25 u21 k22 := ⟨_, rfl⟩
  refine wp_cutq R29 ?_ ?_
  · refine wp_block ?_
    obtain ⟨fu31, h27⟩ := loopO_some h27
    obtain ⟨I30, hI30⟩ : ∃ I : Nat → Act → World → Prop, I = fun fu a w => ∃ (u9 : Int) (u10 : Int) (u16 : List Int) (A19 : Option Addr) (p20 : Nat) (k17 : Chunk), loopN (fun s => impl_scan.s0 l0 s.1 s.2.1 s.2.2) fu (u9, u10, u16) = some o26 ∧ Kn [(0, (.slice A0_ l0.length p0_)), (2, (.int .i64 u9)), (7, (.int .i64 u10)), (9, (.slice A19 u16.length p20))] 43 a ∧ Sat [] w0 w [(1, k0_)] [(4, k17)] ∧ Own (Lay.int .i64) 3 A19 p20 u16 k17 := ⟨_, rfl⟩
    refine wp_loop_ghost I30 fu31 ?_ ?_
    · rw [hI30]
      exact ⟨x2, y3.1, ([] : List Int), none, 0, _, h27, (hk.c 0 rfl (hk.c 2 rfl (hk.c 7 rfl (hk.c 9 rfl hk.k)))), ((hs.addNil 1004).pick [(4, 1004)] rfl), Own.nil _ _⟩
    · clear h27 hk hs
      intro fu31 a w hI0
      rw [hI30] at hI0
      obtain ⟨u9, u10, u16, A19, p20, k17, hi, hk, hs, o18⟩ := hI0
      obtain ⟨x32, H, h33⟩ := loop_round hi
      try dsimp only at H
      unfold impl_scan.s0 at H
      apply wp_seq_k; intro K34 hK34
      apply wp_seq_k; intro K35 hK35
      apply wp_region_lit
      refine sm _ rfl hk rfl rfl rfl fun a hk => ?_
      refine sv (.bool (decide (u9 > 0))) hk rfl rfl rfl fun a hk => ?_
      show wpList _ _ _ [] _ _
      refine wpList_nil ?_
      refine hK35 _ _ ?_
      rcases cond_some H with ⟨c36, H⟩ | ⟨c36, H⟩
      · have hk := hk.lit 17 c36 rfl
        refine cnd_true hk rfl rfl ?_
        refine wp_skip ?_
        refine hK34 _ _ ?_
        apply wp_seq_k; intro K37 hK37
        refine wp_block ?_
        apply wp_seq_k; intro K38 hK38
        apply wp_seq_k; intro K39 hK39
        apply wp_region_lit
        refine sm _ rfl hk rfl rfl rfl fun a hk => ?_
        refine sm _ rfl hk rfl rfl rfl fun a hk => ?_
        refine sle rfl hk rfl rfl rfl un26 fun a hk => ?_
        refine sv (.bool (decide (u10 < (l0.length : Int)))) hk rfl rfl rfl fun a hk => ?_
        show wpList _ _ _ [] _ _
        refine wpList_nil ?_
        refine hK39 _ _ ?_
        obtain ⟨o46, h47, HL48⟩ := bind_some H
        clear H
        obtain ⟨R49, hR49⟩ : ∃ R : Act → World → Prop, R = fun a w => ∃ (u41 : List Int) (A44 : Option Addr) (p45 : Nat) (k42 : Chunk), u41 = o46 ∧ Kn [(0, (.slice A0_ l0.length p0_)), (2, (.int .i64 u9)), (7, (.int .i64 u10)), (9, (.slice A44 u41.length p45))] 43 a ∧ Sat [] w0 w [(1, k0_)] [(4, k42)] ∧ Own (Lay.int .i64) 3 A44 p45 u41 k42 := ⟨_, rfl⟩
        refine wp_cutq R49 ?_ ?_
        · have H := h47
          rcases cond_some H with ⟨c50, H⟩ | ⟨c50, H⟩
          · have hk := hk.lit 23 c50 rfl
            refine cnd_true hk rfl rfl ?_
            refine wp_region_tree (.q 0 (.q 1 (.q 2 (.q 3 (.q 4 (.q 5 (.q 6 (.alt 7 (.alt 8 (.alt 9 (.alt 10 (.alt 11 (.alt 12 (.last 13) .stop) .stop) .stop) .stop) .stop) .stop)))))))) mo (by kernel_rfl) (hs.pick [] rfl) fun _ => ?_
            have hs := hs.drew
            refine tqst (.slice A19 u16.length p20) hk rfl rfl rfl rfl (fun w hs => sm _ rfl hk rfl rfl rfl fun a hk => qe hk) fun a hk => ?_
            refine tqst (.slice A0_ l0.length p0_) hk rfl rfl rfl rfl (fun w hs => sm _ rfl hk rfl rfl rfl fun a hk => qe hk) fun a hk => ?_
            refine tqst (.int .i64 u10) hk rfl rfl rfl rfl (fun w hs => sm _ rfl hk rfl rfl rfl fun a hk => qe hk) fun a hk => ?_
            rcases ite_some H with ⟨c52, H⟩ | ⟨_, H⟩
            rotate_left
            · cases H
            obtain ⟨b53, q54, hAc52⟩ := (v0_).some_ u10 c52.1 c52.2
            refine tqst (.pointer (some (padd A0_ (u10.toNat * 2)))) hk rfl rfl rfl rfl (fun w hs => si rfl hk rfl rfl rfl rfl un26 sz62 c52.1 c52.2 hAc52 fun a hk => qe hk) fun a hk => ?_
            refine tqst (.pointer (some (padd A0_ (u10.toNat * 2)))) hk rfl rfl rfl rfl (fun w hs => sf (padd A0_ (u10.toNat * 2 + 0)) rfl hk rfl rfl rfl fd62_0 (padd_add _ _ _) fun a hk => qe hk) fun a hk => ?_
            obtain ⟨_, rfl, e55⟩ := (v0_).at_ z_Entry u10 c52.1 c52.2
            refine tqst (.int .i64 ((l0.getD u10.toNat z_Entry).Key)) hk rfl rfl rfl rfl (fun w hs => sl (v := (.int .i64 ((l0.getD u10.toNat z_Entry).Key))) rfl hk rfl rfl rfl ag3 ((e55 0 _ rfl).cell (hs.hasD (k := 1) rfl)) fun a hk => qe hk) fun a hk => ?_
            refine tqst (.slice A0_ l0.length p0_) hk rfl rfl rfl rfl (fun w hs => sm _ rfl hk rfl rfl rfl fun a hk => qe hk) fun a hk => ?_
            refine tsst hk rfl rfl (fun K_r51_7 hK_r51_7 w hF => ?_) wt_stop
            have hs := hs.f hF
            refine sm _ rfl hk rfl rfl rfl fun a hk => ?_
            refine se (hs.pick [] rfl) hk (hK_r51_7 _ _ ?_)
            refine tsst hk rfl rfl (fun K_r51_8 hK_r51_8 w hF => ?_) wt_stop
            have hs := hs.f hF
            rcases ite_some H with ⟨c56, H⟩ | ⟨_, H⟩
            rotate_left
            · cases H
            obtain ⟨b57, q58, hAc56⟩ := (v0_).some_ u10 c56.1 c56.2
            refine si rfl hk rfl rfl rfl rfl un26 sz62 c56.1 c56.2 hAc56 fun a hk => ?_
            refine se (hs.pick [] rfl) hk (hK_r51_8 _ _ ?_)
            refine tsst hk rfl rfl (fun K_r51_9 hK_r51_9 w hF => ?_) wt_stop
            have hs := hs.f hF
            refine sf (padd A0_ (u10.toNat * 2 + 1)) rfl hk rfl rfl rfl fd62_1 (padd_add _ _ _) fun a hk => ?_
            refine se (hs.pick [] rfl) hk (hK_r51_9 _ _ ?_)
            refine tsst hk rfl rfl (fun K_r51_10 hK_r51_10 w hF => ?_) wt_stop
            have hs := hs.f hF
            obtain ⟨_, rfl, e59⟩ := (v0_).at_ z_Entry u10 c56.1 c56.2
            refine sl (v := (.int .i64 ((l0.getD u10.toNat z_Entry).Value))) rfl hk rfl rfl rfl ag3 ((e59 1 _ rfl).cell (hs.hasD (k := 1) rfl)) fun a hk => ?_
            refine se (hs.pick [] rfl) hk (hK_r51_10 _ _ ?_)
            refine tsst hk rfl rfl (fun K_r51_11 hK_r51_11 w hF => ?_) wt_stop
            have hs := hs.f hF
            refine sbs (L := (Lay.int .i64)) (pv := [(0, (.int .i64 ((l0.getD u10.toNat z_Entry).Key))), (1, (.int .i64 ((l0.getD u10.toNat z_Entry).Value)))]) (xs := [(l0.getD u10.toNat z_Entry).Key, (l0.getD u10.toNat z_Entry).Value]) (ess := [[.int .i64 ((l0.getD u10.toNat z_Entry).Key)], [.int .i64 ((l0.getD u10.toNat z_Entry).Value)]]) 7 hs rfl hk rfl rfl rfl un27 (bs3_0 ((l0.getD u10.toNat z_Entry).Key) ((l0.getD u10.toNat z_Entry).Value)) (AllOwn.cons0 ⟨rfl, rfl⟩ (AllOwn.cons0 ⟨rfl, rfl⟩ AllOwn.nil)) rfl rfl rfl fun b60 k61 w a hk o62 hs => ?_
            refine se (hs.pick [] rfl) hk (hK_r51_11 _ _ ?_)
            refine tsst hk rfl rfl (fun K_r51_12 hK_r51_12 w hF => ?_) wt_stop
            have hs := hs.f hF
            rcases ite_some H with ⟨c63, H⟩ | ⟨_, H⟩
            rotate_left
            · cases H
            refine sap 4 (xs := u16) (ys := [(l0.getD u10.toNat z_Entry).Key, (l0.getD u10.toNat z_Entry).Value]) (flat_flat : ((Lay.int .i64)).Flat) hs rfl o18 o62.view (hs.hasG (k := 7) rfl) rfl hk rfl rfl rfl rfl rfl rfl un27 mk3 rfl rfl rfl c63 fun A64 p65 k66 w a hk o67 hs => ?_
            refine se (hs.pick [] rfl) hk (hK_r51_12 _ _ ?_)
            refine tlst hk rfl rfl fun K_r51_13 hK_r51_13 w hF => ?_
            have hs := hs.f hF
            refine sa _ rfl hk rfl rfl rfl fun a hk => ?_
            refine se trivial hk (hK_r51_13 _ _ fun w hF => ?_)
            have hs := hs.f hF
            obtain rfl := Option.some.inj H
            show R49 _ _
            rw [hR49]
            exact ⟨(u16 ++ ([(l0.getD u10.toNat z_Entry).Key, (l0.getD u10.toNat z_Entry).Value])), A64, p65, _, rfl, (hk.c 0 rfl (hk.c 2 rfl (hk.c 7 rfl (hk.c 9 rfl hk.k)))), (hs.pick [(4, 4)] rfl), o67⟩
          · have hk := hk.lit 23 c50 rfl
            refine cnd_false hk rfl rfl ?_
            apply wp_region_lit
            refine sm _ rfl hk rfl rfl rfl fun a hk => ?_
            refine sbs (L := (Lay.int .i64)) (pv := [(0, (.int .i64 0)), (1, (.int .i64 0))]) (xs := [0, 0]) (ess := [[.int .i64 0], [.int .i64 0]]) 8 hs rfl hk rfl rfl rfl un27 (bs3_0 0 0) (AllOwn.cons0 ⟨rfl, rfl⟩ (AllOwn.cons0 ⟨rfl, rfl⟩ AllOwn.nil)) rfl rfl rfl fun b68 k69 w a hk o70 hs => ?_
            rcases ite_some H with ⟨c71, H⟩ | ⟨_, H⟩
            rotate_left
            · cases H
            refine sap 4 (xs := u16) (ys := [0, 0]) (flat_flat : ((Lay.int .i64)).Flat) hs rfl o18 o70.view (hs.hasG (k := 8) rfl) rfl hk rfl rfl rfl rfl rfl rfl un27 mk3 rfl rfl rfl c71 fun A72 p73 k74 w a hk o75 hs => ?_
            refine sa _ rfl hk rfl rfl rfl fun a hk => ?_
            show wpList _ _ _ [] _ _
            refine wpList_nil ?_
            obtain rfl := Option.some.inj H
            show R49 _ _
            rw [hR49]
            exact ⟨(u16 ++ ([0, 0])), A72, p73, _, rfl, (hk.c 0 rfl (hk.c 2 rfl (hk.c 7 rfl (hk.c 9 rfl hk.k)))), (hs.pick [(4, 4)] rfl), o75⟩
        · intro a w hR0
          rw [hR49] at hR0
          obtain ⟨u41, A44, p45, k42, rfl, hk, hs, o43⟩ := hR0
          have H := HL48
          try dsimp only at H
          refine hK38 _ _ ?_
          apply wp_region_lit
          refine sm _ rfl hk rfl rfl rfl fun a hk => ?_
          refine sv (.int .i64 (w64 (u10 + 1))) hk rfl rfl rfl fun a hk => ?_
          refine sa _ rfl hk rfl rfl rfl fun a hk => ?_
          show wpList _ _ _ [] _ _
          refine wpList_nil ?_
          refine hK37 _ _ ?_
          apply wp_region_lit
          refine sm _ rfl hk rfl rfl rfl fun a hk => ?_
          refine sv (.int .i64 (w64 (u9 - 1))) hk rfl rfl rfl fun a hk => ?_
          refine sa _ rfl hk rfl rfl rfl fun a hk => ?_
          show wpList _ _ _ [] _ _
          refine wpList_nil ?_
          obtain rfl := Option.some.inj H
          obtain ⟨m76, hmm76, h33⟩ := h33
          show ∃ n', n' < _ ∧ I30 n' _ _
          refine ⟨m76, hmm76, ?_⟩
          rw [hI30]
          exact ⟨(w64 (u9 - 1)), (w64 (u10 + 1)), u41, A44, p45, _, h33, (hk.c 0 rfl (hk.c 2 rfl (hk.c 7 rfl (hk.c 9 rfl hk.k)))), (hs.pick [(4, 4)] rfl), o43⟩
      · have hk := hk.lit 17 c36 rfl
        refine cnd_false hk rfl rfl ?_
        refine wp_exit ?_
        obtain rfl := Option.some.inj H
        show R29 _ _
        rw [hR29]
        exact ⟨u16, A19, p20, _, h33.symm, (hk.c 9 rfl hk.k), (hs.pick [(4, 4)] rfl), o18⟩
  · intro a w hR0
    rw [hR29] at hR0
    obtain ⟨u21, A24, p25, k22, rfl, hk, hs, o23⟩ := hR0
    have H := HL28
    try dsimp only at H
    refine hK6 _ _ ?_
    apply wp_seq_k; intro K77 hK77
    apply wp_region_lit
    refine sm _ rfl hk rfl rfl rfl fun a hk => ?_
    refine sa _ rfl hk rfl rfl rfl fun a hk => ?_
    show wpList _ _ _ [] _ _
    refine wpList_nil ?_
    refine hK77 _ _ ?_
    refine wp_ret ?_
    obtain rfl := Option.some.inj H
    exact fin hk _ [(.slice A24 u21.length p25)] rfl ⟨rfl, trivial⟩ ⟨A24, p25, _, rfl, o23, (hs.pick [(0, 4)] rfl).dnil⟩

noncomputable def slices_Reverse_impl_Entry_impl_Entry.s0 (l0 : List S_Entry) (u_r8_13_7 : List S_Entry) (u_r8_13_11 : Int) (u_r8_13_12 : Int) : Option (((List S_Entry) × Int × Int) ⊕ Ex (Unit) ((List S_Entry))) :=
  (bif (decide (u_r8_13_11 < u_r8_13_12)) then (if 0 ≤ u_r8_13_12 ∧ u_r8_13_12 < (l0.length : Int) then (if 0 ≤ u_r8_13_11 ∧ u_r8_13_11 < (l0.length : Int) then (if 0 ≤ u_r8_13_11 ∧ u_r8_13_11 < (l0.length : Int) then (if 0 ≤ u_r8_13_12 ∧ u_r8_13_12 < (l0.length : Int) then (some (.inl (((u_r8_13_7.set u_r8_13_11.toNat (u_r8_13_7.getD u_r8_13_12.toNat z_Entry)).set u_r8_13_12.toNat (u_r8_13_7.getD u_r8_13_11.toNat z_Entry)), (w64 (u_r8_13_11 + 1)), (w64 (u_r8_13_12 - 1))))) else none) else none) else none) else none) else (some (.inr (.out ()))))
noncomputable def slices_Reverse_impl_Entry_impl_Entry.f (l0 : List S_Entry) : Option ((List S_Entry)) :=
  ((loopO (fun s => slices_Reverse_impl_Entry_impl_Entry.s0 l0 s.1 s.2.1 s.2.2) (l0, 0, (w64 ((l0.length : Int) - 1)))).bind fun o => match o with | .out _ => none | .ret r => (some r))
set_option maxRecDepth 100000 in
set_option maxHeartbeats 0 in
theorem slices_Reverse_impl_Entry_impl_Entry_t (w0 : World) (A0_ : Option Addr) (p0_ : Nat) (l0 : List S_Entry) (k0_ : Chunk) (v0_ : Own L_Entry 62 A0_ p0_ l0 k0_) (hs0 : Sat (blks [(103261, k0_)]) w0 w0 [] [(103261, k0_)]) (r : (List S_Entry)) (H : slices_Reverse_impl_Entry_impl_Entry.f l0 = some r) :
    Calls Try.prog 191 #[.slice A0_ l0.length p0_] w0 (Ret (fun v w => ∃ (k0 : Chunk), v = .tuple #[] ∧ (Own L_Entry 62 A0_ p0_ r k0 ∧ r.length = l0.length) ∧ Sat (blks [(103261, k0_)]) w0 w [] [(0, k0)])) := by
  have hs := hs0
  unfold slices_Reverse_impl_Entry_impl_Entry.f at H
  refine enter Try.func191 rfl Try.ntmps191 rfl fun a hk => ?_
  apply wp_seq_k; intro K1 hK1
  apply wp_region_lit
  refine sm _ rfl hk rfl rfl rfl fun a hk => ?_
  refine sle rfl hk rfl rfl rfl un26 fun a hk => ?_
  refine sv (.int .i64 (w64 ((l0.length : Int) - 1))) hk rfl rfl rfl fun a hk => ?_
  refine sa _ rfl hk rfl rfl rfl fun a hk => ?_
  refine sa _ rfl hk rfl rfl rfl fun a hk => ?_
  show wpList _ _ _ [] _ _
  refine wpList_nil ?_
  refine hK1 _ _ ?_
  obtain ⟨o_r8_13_17, h_r8_13_18, HL_r8_13_19⟩ := bind_some H
  clear H
  obtain ⟨R_r8_13_20, hR_r8_13_20⟩ : ∃ R : Act → World → Prop, R = fun a w => o_r8_13_17 = .out () ∧ Kn [] 28 a ∧ Sat (blks [(103261, k0_)]) w0 w [] [] := ⟨_, rfl⟩
  refine wp_cutq R_r8_13_20 ?_ ?_
  · refine wp_block ?_
    obtain ⟨fu_r8_13_22, h_r8_13_18⟩ := loopO_some h_r8_13_18
    obtain ⟨I_r8_13_21, hI_r8_13_21⟩ : ∃ I : Nat → Act → World → Prop, I = fun fu a w => ∃ (u_r8_13_7 : List S_Entry) (u_r8_13_11 : Int) (u_r8_13_12 : Int) (k_r8_13_8 : Chunk), loopN (fun s => slices_Reverse_impl_Entry_impl_Entry.s0 l0 s.1 s.2.1 s.2.2) fu (u_r8_13_7, u_r8_13_11, u_r8_13_12) = some o_r8_13_17 ∧ Kn [(0, (.slice A0_ l0.length p0_)), (2, (.int .i64 u_r8_13_11)), (3, (.int .i64 u_r8_13_12))] 28 a ∧ Sat (blks [(103261, k0_)]) w0 w [] [(103261, k_r8_13_8)] ∧ Own L_Entry 62 A0_ p0_ u_r8_13_7 k_r8_13_8 ∧ u_r8_13_7.length = l0.length := ⟨_, rfl⟩
    refine wp_loop_ghost I_r8_13_21 fu_r8_13_22 ?_ ?_
    · rw [hI_r8_13_21]
      exact ⟨l0, 0, (w64 ((l0.length : Int) - 1)), _, h_r8_13_18, (hk.c 0 rfl (hk.c 2 rfl (hk.c 3 rfl hk.k))), (hs.pick [(103261, 103261)] rfl), v0_, rfl⟩
    · clear h_r8_13_18 hk hs
      intro fu_r8_13_22 a w hI0
      rw [hI_r8_13_21] at hI0
      obtain ⟨u_r8_13_7, u_r8_13_11, u_r8_13_12, k_r8_13_8, hi, hk, hs, o_r8_13_9, lh_r8_13_10⟩ := hI0
      obtain ⟨x_r8_13_23, H, h_r8_13_24⟩ := loop_round hi
      try dsimp only at H
      unfold slices_Reverse_impl_Entry_impl_Entry.s0 at H
      apply wp_seq_k; intro K2 hK2
      apply wp_seq_k; intro K3 hK3
      apply wp_region_lit
      refine sm _ rfl hk rfl rfl rfl fun a hk => ?_
      refine sm _ rfl hk rfl rfl rfl fun a hk => ?_
      refine sv (.bool (decide (u_r8_13_11 < u_r8_13_12))) hk rfl rfl rfl fun a hk => ?_
      show wpList _ _ _ [] _ _
      refine wpList_nil ?_
      refine hK3 _ _ ?_
      rcases cond_some H with ⟨c_r8_13_26, H⟩ | ⟨c_r8_13_26, H⟩
      · have hk := hk.lit 9 c_r8_13_26 rfl
        refine cnd_true hk rfl rfl ?_
        refine wp_skip ?_
        refine hK2 _ _ ?_
        apply wp_seq_k; intro K4 hK4
        refine wp_block ?_
        rcases ite_some H with ⟨c_r_r8_13_27_6_1, H⟩ | ⟨_, H⟩
        rotate_left
        · cases H
        rcases ite_some H with ⟨c_r_r8_13_27_10_1, H⟩ | ⟨_, H⟩
        rotate_left
        · cases H
        rcases ite_some H with ⟨c_r_r8_13_27_12_1, H⟩ | ⟨_, H⟩
        rotate_left
        · cases H
        rcases ite_some H with ⟨c_r_r8_13_27_14_1, H⟩ | ⟨_, H⟩
        rotate_left
        · cases H
        obtain ⟨R_r8_13_28, hR_r8_13_28⟩ : ∃ R : Act → World → Prop, R = fun a w => ∃ (k_r_r8_13_27_15_1 : Chunk), Kn [(0, (.slice A0_ l0.length p0_)), (2, (.int .i64 u_r8_13_11)), (3, (.int .i64 u_r8_13_12))] 28 a ∧ Sat (blks [(103261, k0_)]) w0 w [] [(103261, k_r_r8_13_27_15_1)] ∧ Own L_Entry 62 A0_ p0_ ((u_r8_13_7.set u_r8_13_11.toNat (u_r8_13_7.getD u_r8_13_12.toNat z_Entry)).set u_r8_13_12.toNat (u_r8_13_7.getD u_r8_13_11.toNat z_Entry)) k_r_r8_13_27_15_1 ∧ ((u_r8_13_7.set u_r8_13_11.toNat (u_r8_13_7.getD u_r8_13_12.toNat z_Entry)).set u_r8_13_12.toNat (u_r8_13_7.getD u_r8_13_11.toNat z_Entry)).length = l0.length := ⟨_, rfl⟩
        refine wp_cutq R_r8_13_28 ?_ ?_
        · skip
          refine wp_region_tree (.q 0 (.q 1 (.q 2 (.q 3 (.q 4 (.q 5 (.q 6 (.q 8 (.q 9 (.q 10 (.alt 7 (.alt 11 (.alt 12 (.alt 13 (.alt 14 (.last 15) .stop) .stop) .stop) .stop) (.alt 11 (.alt 7 (.alt 12 (.alt 13 (.alt 14 (.last 15) .stop) .stop) .stop) .stop) .stop)))))))))))) mo (by kernel_rfl) (hs.pick [] rfl) fun _ => ?_
          have hs := hs.drew
          refine tqst (.slice A0_ l0.length p0_) hk rfl rfl rfl rfl (fun w hs => sm _ rfl hk rfl rfl rfl fun a hk => qe hk) fun a hk => ?_
          refine tqst (.int .i64 u_r8_13_11) hk rfl rfl rfl rfl (fun w hs => sm _ rfl hk rfl rfl rfl fun a hk => qe hk) fun a hk => ?_
          refine tqst (.slice A0_ l0.length p0_) hk rfl rfl rfl rfl (fun w hs => sm _ rfl hk rfl rfl rfl fun a hk => qe hk) fun a hk => ?_
          refine tqst (.int .i64 u_r8_13_12) hk rfl rfl rfl rfl (fun w hs => sm _ rfl hk rfl rfl rfl fun a hk => qe hk) fun a hk => ?_
          refine tqst (.slice A0_ l0.length p0_) hk rfl rfl rfl rfl (fun w hs => sm _ rfl hk rfl rfl rfl fun a hk => qe hk) fun a hk => ?_
          refine tqst (.int .i64 u_r8_13_12) hk rfl rfl rfl rfl (fun w hs => sm _ rfl hk rfl rfl rfl fun a hk => qe hk) fun a hk => ?_
          obtain ⟨b_r_r8_13_27_6_2, q_r_r8_13_27_6_3, hAc_r_r8_13_27_6_1⟩ := (o_r8_13_9.view).some_ u_r8_13_12 c_r_r8_13_27_6_1.1 (by rw [lh_r8_13_10]; exact c_r_r8_13_27_6_1.2)
          refine tqst (.pointer (some (padd A0_ (u_r8_13_12.toNat * 2)))) hk rfl rfl rfl rfl (fun w hs => si rfl hk rfl rfl rfl rfl un26 sz62 c_r_r8_13_27_6_1.1 c_r_r8_13_27_6_1.2 hAc_r_r8_13_27_6_1 fun a hk => qe hk) fun a hk => ?_
          refine tqst (.slice A0_ l0.length p0_) hk rfl rfl rfl rfl (fun w hs => sm _ rfl hk rfl rfl rfl fun a hk => qe hk) fun a hk => ?_
          refine tqst (.int .i64 u_r8_13_11) hk rfl rfl rfl rfl (fun w hs => sm _ rfl hk rfl rfl rfl fun a hk => qe hk) fun a hk => ?_
          obtain ⟨b_r_r8_13_27_10_2, q_r_r8_13_27_10_3, hAc_r_r8_13_27_10_1⟩ := (o_r8_13_9.view).some_ u_r8_13_11 c_r_r8_13_27_10_1.1 (by rw [lh_r8_13_10]; exact c_r_r8_13_27_10_1.2)
          refine tqst (.pointer (some (padd A0_ (u_r8_13_11.toNat * 2)))) hk rfl rfl rfl rfl (fun w hs => si rfl hk rfl rfl rfl rfl un26 sz62 c_r_r8_13_27_10_1.1 c_r_r8_13_27_10_1.2 hAc_r_r8_13_27_10_1 fun a hk => qe hk) fun a hk => ?_
          refine tsst hk rfl rfl (fun K_r_r8_13_27_7 hK_r_r8_13_27_7 w hF => ?_) ?_
          · skip
            have hs := hs.f hF
            obtain ⟨_, rfl, e_r_r8_13_27_7_1⟩ := (o_r8_13_9.view).at_ z_Entry u_r8_13_12 c_r_r8_13_27_6_1.1 (by rw [lh_r8_13_10]; exact c_r_r8_13_27_6_1.2)
            refine sln [.int .i64 ((u_r8_13_7.getD u_r8_13_12.toNat z_Entry).Key), .int .i64 ((u_r8_13_7.getD u_r8_13_12.toNat z_Entry).Value)] rfl hk rfl rfl rfl ag62 sz62 (cells_at e_r_r8_13_27_7_1 (hs.hasG (k := 103261) rfl)) fun a hk => ?_
            refine se (hs.pick [] rfl) hk (hK_r_r8_13_27_7 _ _ ?_)
            refine tsst hk rfl rfl (fun K_r_r8_13_27_11 hK_r_r8_13_27_11 w hF => ?_) wt_stop
            have hs := hs.f hF
            obtain ⟨_, rfl, e_r_r8_13_27_11_1⟩ := (o_r8_13_9.view).at_ z_Entry u_r8_13_11 c_r_r8_13_27_10_1.1 (by rw [lh_r8_13_10]; exact c_r_r8_13_27_10_1.2)
            refine sln [.int .i64 ((u_r8_13_7.getD u_r8_13_11.toNat z_Entry).Key), .int .i64 ((u_r8_13_7.getD u_r8_13_11.toNat z_Entry).Value)] rfl hk rfl rfl rfl ag62 sz62 (cells_at e_r_r8_13_27_11_1 (hs.hasG (k := 103261) rfl)) fun a hk => ?_
            refine se (hs.pick [] rfl) hk (hK_r_r8_13_27_11 _ _ ?_)
            refine tsst hk rfl rfl (fun K_r_r8_13_27_12 hK_r_r8_13_27_12 w hF => ?_) wt_stop
            have hs := hs.f hF
            obtain ⟨b_r_r8_13_27_12_2, q_r_r8_13_27_12_3, hAc_r_r8_13_27_12_1⟩ := (o_r8_13_9.view).some_ u_r8_13_11 c_r_r8_13_27_12_1.1 (by rw [lh_r8_13_10]; exact c_r_r8_13_27_12_1.2)
            refine si rfl hk rfl rfl rfl rfl un26 sz62 c_r_r8_13_27_12_1.1 c_r_r8_13_27_12_1.2 hAc_r_r8_13_27_12_1 fun a hk => ?_
            refine se (hs.pick [] rfl) hk (hK_r_r8_13_27_12 _ _ ?_)
            refine tsst hk rfl rfl (fun K_r_r8_13_27_13 hK_r_r8_13_27_13 w hF => ?_) wt_stop
            have hs := hs.f hF
            refine so (j := 0) 103261 z_Entry (u_r8_13_7.getD u_r8_13_12.toNat z_Entry) hs rfl o_r8_13_9 c_r_r8_13_27_12_1.1 (by rw [lh_r8_13_10]; exact c_r_r8_13_27_12_1.2) rfl hk rfl rfl rfl rfl rfl sz62 (by simp [Value.cells, Value.oneCell']) (Nat.le_of_ble_eq_true rfl) (fun _ _ h => ⟨by rw [h.1]; rfl, h.2⟩) fun k_r_r8_13_27_13_1 w a hk o_r_r8_13_27_13_2 hs => ?_
            have lh_r_r8_13_27_13_3 : (u_r8_13_7.set u_r8_13_11.toNat (u_r8_13_7.getD u_r8_13_12.toNat z_Entry)).length = l0.length := by rw [List.length_set]; exact lh_r8_13_10
            refine se (hs.pick [] rfl) hk (hK_r_r8_13_27_13 _ _ ?_)
            refine tsst hk rfl rfl (fun K_r_r8_13_27_14 hK_r_r8_13_27_14 w hF => ?_) wt_stop
            have hs := hs.f hF
            obtain ⟨b_r_r8_13_27_14_2, q_r_r8_13_27_14_3, hAc_r_r8_13_27_14_1⟩ := (o_r_r8_13_27_13_2.view).some_ u_r8_13_12 c_r_r8_13_27_14_1.1 (by rw [lh_r_r8_13_27_13_3]; exact c_r_r8_13_27_14_1.2)
            refine si rfl hk rfl rfl rfl rfl un26 sz62 c_r_r8_13_27_14_1.1 c_r_r8_13_27_14_1.2 hAc_r_r8_13_27_14_1 fun a hk => ?_
            refine se (hs.pick [] rfl) hk (hK_r_r8_13_27_14 _ _ ?_)
            refine tlst hk rfl rfl fun K_r_r8_13_27_15 hK_r_r8_13_27_15 w hF => ?_
            have hs := hs.f hF
            refine so (j := 0) 103261 z_Entry (u_r8_13_7.getD u_r8_13_11.toNat z_Entry) hs rfl o_r_r8_13_27_13_2 c_r_r8_13_27_14_1.1 (by rw [lh_r_r8_13_27_13_3]; exact c_r_r8_13_27_14_1.2) rfl hk rfl rfl rfl rfl rfl sz62 (by simp [Value.cells, Value.oneCell']) (Nat.le_of_ble_eq_true rfl) (fun _ _ h => ⟨by rw [h.1]; rfl, h.2⟩) fun k_r_r8_13_27_15_1 w a hk o_r_r8_13_27_15_2 hs => ?_
            have lh_r_r8_13_27_15_3 : ((u_r8_13_7.set u_r8_13_11.toNat (u_r8_13_7.getD u_r8_13_12.toNat z_Entry)).set u_r8_13_12.toNat (u_r8_13_7.getD u_r8_13_11.toNat z_Entry)).length = l0.length := by rw [List.length_set]; exact lh_r_r8_13_27_13_3
            refine se trivial hk (hK_r_r8_13_27_15 _ _ fun w hF => ?_)
            have hs := hs.f hF
            show R_r8_13_28 _ _
            rw [hR_r8_13_28]
            exact ⟨k_r_r8_13_27_15_1, (hk.c 0 rfl (hk.c 2 rfl (hk.c 3 rfl hk.k))), (hs.pick [(103261, 103261)] rfl), o_r_r8_13_27_15_2, lh_r_r8_13_27_15_3⟩
          refine tsst hk rfl rfl (fun K_r_r8_13_27_11 hK_r_r8_13_27_11 w hF => ?_) wt_stop
          have hs := hs.f hF
          obtain ⟨_, rfl, e_r_r8_13_27_11_1⟩ := (o_r8_13_9.view).at_ z_Entry u_r8_13_11 c_r_r8_13_27_10_1.1 (by rw [lh_r8_13_10]; exact c_r_r8_13_27_10_1.2)
          refine sln [.int .i64 ((u_r8_13_7.getD u_r8_13_11.toNat z_Entry).Key), .int .i64 ((u_r8_13_7.getD u_r8_13_11.toNat z_Entry).Value)] rfl hk rfl rfl rfl ag62 sz62 (cells_at e_r_r8_13_27_11_1 (hs.hasG (k := 103261) rfl)) fun a hk => ?_
          refine se (hs.pick [] rfl) hk (hK_r_r8_13_27_11 _ _ ?_)
          refine tsst hk rfl rfl (fun K_r_r8_13_27_7 hK_r_r8_13_27_7 w hF => ?_) wt_stop
          have hs := hs.f hF
          obtain ⟨_, rfl, e_r_r8_13_27_7_1⟩ := (o_r8_13_9.view).at_ z_Entry u_r8_13_12 c_r_r8_13_27_6_1.1 (by rw [lh_r8_13_10]; exact c_r_r8_13_27_6_1.2)
          refine sln [.int .i64 ((u_r8_13_7.getD u_r8_13_12.toNat z_Entry).Key), .int .i64 ((u_r8_13_7.getD u_r8_13_12.toNat z_Entry).Value)] rfl hk rfl rfl rfl ag62 sz62 (cells_at e_r_r8_13_27_7_1 (hs.hasG (k := 103261) rfl)) fun a hk => ?_
          refine se (hs.pick [] rfl) hk (hK_r_r8_13_27_7 _ _ ?_)
          refine tsst hk rfl rfl (fun K_r_r8_13_27_12 hK_r_r8_13_27_12 w hF => ?_) wt_stop
          have hs := hs.f hF
          obtain ⟨b_r_r8_13_27_12_2, q_r_r8_13_27_12_3, hAc_r_r8_13_27_12_1⟩ := (o_r8_13_9.view).some_ u_r8_13_11 c_r_r8_13_27_12_1.1 (by rw [lh_r8_13_10]; exact c_r_r8_13_27_12_1.2)
          refine si rfl hk rfl rfl rfl rfl un26 sz62 c_r_r8_13_27_12_1.1 c_r_r8_13_27_12_1.2 hAc_r_r8_13_27_12_1 fun a hk => ?_
          refine se (hs.pick [] rfl) hk (hK_r_r8_13_27_12 _ _ ?_)
          refine tsst hk rfl rfl (fun K_r_r8_13_27_13 hK_r_r8_13_27_13 w hF => ?_) wt_stop
          have hs := hs.f hF
          refine so (j := 0) 103261 z_Entry (u_r8_13_7.getD u_r8_13_12.toNat z_Entry) hs rfl o_r8_13_9 c_r_r8_13_27_12_1.1 (by rw [lh_r8_13_10]; exact c_r_r8_13_27_12_1.2) rfl hk rfl rfl rfl rfl rfl sz62 (by simp [Value.cells, Value.oneCell']) (Nat.le_of_ble_eq_true rfl) (fun _ _ h => ⟨by rw [h.1]; rfl, h.2⟩) fun k_r_r8_13_27_13_1 w a hk o_r_r8_13_27_13_2 hs => ?_
          have lh_r_r8_13_27_13_3 : (u_r8_13_7.set u_r8_13_11.toNat (u_r8_13_7.getD u_r8_13_12.toNat z_Entry)).length = l0.length := by rw [List.length_set]; exact lh_r8_13_10
          refine se (hs.pick [] rfl) hk (hK_r_r8_13_27_13 _ _ ?_)
          refine tsst hk rfl rfl (fun K_r_r8_13_27_14 hK_r_r8_13_27_14 w hF => ?_) wt_stop
          have hs := hs.f hF
          obtain ⟨b_r_r8_13_27_14_2, q_r_r8_13_27_14_3, hAc_r_r8_13_27_14_1⟩ := (o_r_r8_13_27_13_2.view).some_ u_r8_13_12 c_r_r8_13_27_14_1.1 (by rw [lh_r_r8_13_27_13_3]; exact c_r_r8_13_27_14_1.2)
          refine si rfl hk rfl rfl rfl rfl un26 sz62 c_r_r8_13_27_14_1.1 c_r_r8_13_27_14_1.2 hAc_r_r8_13_27_14_1 fun a hk => ?_
          refine se (hs.pick [] rfl) hk (hK_r_r8_13_27_14 _ _ ?_)
          refine tlst hk rfl rfl fun K_r_r8_13_27_15 hK_r_r8_13_27_15 w hF => ?_
          have hs := hs.f hF
          refine so (j := 0) 103261 z_Entry (u_r8_13_7.getD u_r8_13_11.toNat z_Entry) hs rfl o_r_r8_13_27_13_2 c_r_r8_13_27_14_1.1 (by rw [lh_r_r8_13_27_13_3]; exact c_r_r8_13_27_14_1.2) rfl hk rfl rfl rfl rfl rfl sz62 (by simp [Value.cells, Value.oneCell']) (Nat.le_of_ble_eq_true rfl) (fun _ _ h => ⟨by rw [h.1]; rfl, h.2⟩) fun k_r_r8_13_27_15_1 w a hk o_r_r8_13_27_15_2 hs => ?_
          have lh_r_r8_13_27_15_3 : ((u_r8_13_7.set u_r8_13_11.toNat (u_r8_13_7.getD u_r8_13_12.toNat z_Entry)).set u_r8_13_12.toNat (u_r8_13_7.getD u_r8_13_11.toNat z_Entry)).length = l0.length := by rw [List.length_set]; exact lh_r_r8_13_27_13_3
          refine se trivial hk (hK_r_r8_13_27_15 _ _ fun w hF => ?_)
          have hs := hs.f hF
          show R_r8_13_28 _ _
          rw [hR_r8_13_28]
          exact ⟨k_r_r8_13_27_15_1, (hk.c 0 rfl (hk.c 2 rfl (hk.c 3 rfl hk.k))), (hs.pick [(103261, 103261)] rfl), o_r_r8_13_27_15_2, lh_r_r8_13_27_15_3⟩
        · intro a w hR0
          rw [hR_r8_13_28] at hR0
          obtain ⟨k_r_r8_13_27_15_1, hk, hs, o_r_r8_13_27_15_2, lh_r_r8_13_27_15_3⟩ := hR0
          refine hK4 _ _ ?_
          apply wp_region_lit
          refine sm _ rfl hk rfl rfl rfl fun a hk => ?_
          refine sv (.int .i64 (w64 (u_r8_13_11 + 1))) hk rfl rfl rfl fun a hk => ?_
          refine sm _ rfl hk rfl rfl rfl fun a hk => ?_
          refine sv (.int .i64 (w64 (u_r8_13_12 - 1))) hk rfl rfl rfl fun a hk => ?_
          refine sa _ rfl hk rfl rfl rfl fun a hk => ?_
          refine sa _ rfl hk rfl rfl rfl fun a hk => ?_
          show wpList _ _ _ [] _ _
          refine wpList_nil ?_
          obtain rfl := Option.some.inj H
          obtain ⟨m_r8_13_29, hmm_r8_13_29, h_r8_13_24⟩ := h_r8_13_24
          show ∃ n', n' < _ ∧ I_r8_13_21 n' _ _
          refine ⟨m_r8_13_29, hmm_r8_13_29, ?_⟩
          rw [hI_r8_13_21]
          exact ⟨((u_r8_13_7.set u_r8_13_11.toNat (u_r8_13_7.getD u_r8_13_12.toNat z_Entry)).set u_r8_13_12.toNat (u_r8_13_7.getD u_r8_13_11.toNat z_Entry)), (w64 (u_r8_13_11 + 1)), (w64 (u_r8_13_12 - 1)), _, h_r8_13_24, (hk.c 0 rfl (hk.c 2 rfl (hk.c 3 rfl hk.k))), (hs.pick [(103261, 103261)] rfl), o_r_r8_13_27_15_2, lh_r_r8_13_27_15_3⟩
      · have hk := hk.lit 9 c_r8_13_26 rfl
        refine cnd_false hk rfl rfl ?_
        refine wp_exit ?_
        obtain rfl := Option.some.inj H
        show R_r8_13_20 _ _
        rw [hR_r8_13_20]
        exact ⟨h_r8_13_24.symm, hk.k, (hs.pick [] rfl)⟩
  · intro a w hR0
    rw [hR_r8_13_20] at hR0
    obtain ⟨rfl, hk, hs⟩ := hR0
    have H := HL_r8_13_19
    try dsimp only at H
    cases H

set_option maxRecDepth 100000 in
set_option maxHeartbeats 1000000 in
theorem ov188 {w : World} {A : Value} {b1 o1 n1 c1 b2 o2 n2 c2 : Nat} {cs1 cs2 : Array Value} {T1 T2 : TypeId} (h1 : w.heap[b1]? = some (.cells cs1 T1 (0, 0))) (h2 : w.heap[b2]? = some (.cells cs2 T2 (0, 0))) (hne : b1 ≠ b2) (h0 : cs2.size ≠ 0) :
    (callFunc 188 #[.slice (some ⟨b1, o1, none⟩) n1 c1, .slice (some ⟨b2, o2, none⟩) n2 c2]).run Try.prog w = .ok (.value (.bool false)) w := by
  rw [run_callFunc_extern Try.func188 (by kernel_rfl) (by kernel_rfl) (by kernel_rfl) (e := Extern.SlicesOverlaps.overlaps #[26, 26] #[4]) (by kernel_rfl),
    Lib.run_overlaps_apart w 26 4 62 un26 2 (fun w => Go.Z.run_sizeOf sz62) ⟨b1, o1, none⟩ ⟨b2, o2, none⟩ n1 c1 n2 c2 hne T1 T2 cs1.size cs2.size (by simp [World.shape?, h1]) (by simp [World.shape?, h2]) h0 (by simp [World.frozen?, h1]) (by simp [World.frozen?, h1])]
  rfl
set_option maxRecDepth 100000 in
set_option maxHeartbeats 1000000 in
theorem slices_Insert_impl_Entry_impl_Entry_n {M : List Nat} {w00 w : World} {Δ Γ : List (Nat × Chunk)} (k k2 : Nat) {A A' : Option Addr} {cap cap' : Nat} {xs ys : List S_Entry} {c c2 : Chunk} (i : Nat)
    (hs : Sat M w00 w Δ Γ) (hg : kget Γ k = some c) (hown : Own L_Entry 62 A cap xs c) (hg2 : kget (kdel Γ k) k2 = some c2) (hv : Own L_Entry 62 A' cap' ys c2) (hpos : 0 < ys.length) (hi : i ≤ xs.length) (hn : xs.length + ys.length ≤ 1073741824) :
    Calls Try.prog 183 #[.slice A xs.length cap, .int .i64 i, .slice A' ys.length cap'] w (Ret (fun v w' => ∃ A1 cap1 c1, v = .slice A1 (insL xs i ys).length cap1 ∧ Own L_Entry 62 A1 cap1 (insL xs i ys) c1 ∧ Sat M w00 w' Δ ((k, c1) :: kdel Γ k))) := by
  have hfl : (L_Entry).Flat := flat_flat
  have hLs : (L_Entry).size = 2 := rfl
  have hw2 : Has w c2 := (hs.drop k).hasG hg2
  obtain ⟨fss, dn, hdr, e2, hy, hsrc⟩ := own_src hv hw2
  have hy := hy.flat hfl
  obtain ⟨b2, rfl, cs2, ess2, cd2, rfl, -, -, hcs2, hle2, htop2⟩ := hv.opened (by intro e; rw [e] at hpos; exact absurd hpos (by simp))
  have hmx : maxLen = 9223372036854775807 := rfl
  have hfll := hy.flatten_len
  have h1y := Lay.ones hy
  refine enter Try.func183 rfl Try.ntmps183 rfl fun a hk => ?_
  apply wp_seq_k; intro K1 hK1
  apply wp_region_lit
  refine sa _ rfl hk rfl rfl rfl fun a hk => ?_
  show wpList _ _ _ [] _ _
  refine wpList_nil ?_
  refine hK1 _ _ ?_
  apply wp_seq_k; intro K2 hK2
  apply wp_region_lit
  refine sm _ rfl hk rfl rfl rfl fun a hk => ?_
  refine sm _ rfl hk rfl rfl rfl fun a hk => ?_
  refine sll_l rfl hk rfl rfl rfl rfl un26 sz62 (by omega) (by omega) fun a hk => ?_
  show wpList _ _ _ [] _ _
  refine wpList_nil ?_
  refine hK2 _ _ ?_
  apply wp_seq_k; intro K3 hK3
  apply wp_region_lit
  refine sm _ rfl hk rfl rfl rfl fun a hk => ?_
  refine sle rfl hk rfl rfl rfl un26 fun a hk => ?_
  refine sa _ rfl hk rfl rfl rfl fun a hk => ?_
  show wpList _ _ _ [] _ _
  refine wpList_nil ?_
  refine hK3 _ _ ?_
  apply wp_seq_k; intro K5 hK5
  apply wp_seq_k; intro K4 hK4
  apply wp_region_lit
  refine sm _ rfl hk rfl rfl rfl fun a hk => ?_
  refine sv (.bool (decide ((ys.length : Int) = 0))) hk rfl rfl rfl fun a hk => ?_
  show wpList _ _ _ [] _ _
  refine wpList_nil ?_
  refine hK4 _ _ ?_
  have hk := hk.lit 16 (decide_eq_false (by omega)) rfl
  refine cnd_false hk rfl rfl ?_
  refine wp_skip ?_
  refine hK5 _ _ ?_
  apply wp_seq_k; intro K6 hK6
  apply wp_region_lit
  refine sm _ rfl hk rfl rfl rfl fun a hk => ?_
  refine sle rfl hk rfl rfl rfl un26 fun a hk => ?_
  refine sa _ rfl hk rfl rfl rfl fun a hk => ?_
  show wpList _ _ _ [] _ _
  refine wpList_nil ?_
  refine hK6 _ _ ?_
  apply wp_seq_k; intro K8 hK8
  apply wp_seq_k; intro K7 hK7
  apply wp_region_lit
  refine sm _ rfl hk rfl rfl rfl fun a hk => ?_
  refine sm _ rfl hk rfl rfl rfl fun a hk => ?_
  refine sv (.bool (decide ((i : Int) = (xs.length : Int)))) hk rfl rfl rfl fun a hk => ?_
  show wpList _ _ _ [] _ _
  refine wpList_nil ?_
  refine hK7 _ _ ?_
  by_cases hin : i = xs.length
  · have hk := hk.lit 22 (decide_eq_true (by omega)) rfl
    refine cnd_true hk rfl rfl ?_
    apply wp_seq_k; intro K9 hK9
    apply wp_region_lit
    refine sm _ rfl hk rfl rfl rfl fun a hk => ?_
    refine sm _ rfl hk rfl rfl rfl fun a hk => ?_
    refine sap k hfl hs hg hown hv.view hw2 rfl hk rfl rfl rfl rfl rfl rfl un26 mk62 rfl rfl rfl hn fun A1 p1 c1 w a hk o hs => ?_
    refine sa _ rfl hk rfl rfl rfl fun a hk => ?_
    show wpList _ _ _ [] _ _
    refine wpList_nil ?_
    refine hK9 _ _ ?_
    refine wp_ret ?_
    have e : insL xs i ys = xs ++ ys := by simp [insL, hin]
    exact fin hk _ [(.slice A1 (xs ++ ys).length p1)] rfl ⟨rfl, trivial⟩ ⟨A1, p1, c1, by rw [e]; rfl, by rw [e]; exact o, hs⟩
  · have hk := hk.lit 22 (decide_eq_false (by omega)) rfl
    refine cnd_false hk rfl rfl ?_
    refine wp_skip ?_
    refine hK8 _ _ ?_
    have hxne : xs ≠ [] := by rintro rfl; exact hin (Nat.le_zero.1 hi)
    obtain ⟨b, rfl, cs, ess, cd, rfl, hall, htake, hcs, hle, htop⟩ := hown.opened hxne
    have hall := hall.flat hfl
    have hxl := hall.flatten_len
    have h1x := Lay.ones hall
    rw [hLs] at hxl hfll htake hcs hcs2
    have hcl : cs.toList.length = cap * 2 := by rw [Array.length_toList (xs := cs), hcs]
    have hbw : w.heap[b]? = some (.cells cs 62 (0, 0)) := hs.hasG hg _ (List.mem_cons_self ..)
    have hbw2 : w.heap[b2]? = some (.cells cs2 62 (0, 0)) := hw2 _ (List.mem_cons_self ..)
    have hbne : b2 ≠ b := by
      rintro rfl
      have h3 := kget_perm hg
      have h4 := h3.nodup_iff.1 hs.nodup
      have h5 : b2 ∈ blks (kdel Γ k) := by
        obtain ⟨s, h6⟩ := kget_mem hg2
        exact blks_mem.2 ⟨_, h6, _, List.mem_cons_self ..⟩
      exact (List.nodup_append.1 h4).2.2 b2 (by simp [cblk]) b2 h5 rfl
    have holds : ∀ w : World, w.heap[b]? = some (.cells cs 62 (0, 0)) → ∀ j u, ess.flatten[j]? = some u → w.cell? ((⟨b, 0, none⟩ : Addr).add j) = some u := by
      intro w hbw j u hu
      rw [addr_add0, cell_of_row w b j cs 62 (0, 0) hbw]
      rw [← htake, List.getElem?_take] at hu
      split at hu
      · simpa using hu
      · cases hu
    have hdropc : ∀ w : World, w.heap[b]? = some (.cells cs 62 (0, 0)) → ∀ j u, (ess.flatten.drop (i * 2))[j]? = some u → w.cell? ((⟨b, i * 2, none⟩ : Addr).add j) = some u := by
      intro w hbw j u hu
      rw [List.getElem?_drop] at hu
      have := holds w hbw _ u hu
      rw [addr_add0] at this
      rw [addr_add1]; exact this
    have hysrc : ∀ w : World, Has w ((b2, .cells cs2 62 (0, 0)) :: cd2) → ∀ j u, fss.flatten[j]? = some u → w.cell? ((⟨b2, 0, none⟩ : Addr).add j) = some u := by
      intro w1 hw1
      rcases hsrc with ⟨h0, m, h3⟩ | ⟨a3, m, h3, h4⟩
      · omega
      · obtain ⟨rfl, rfl⟩ : a3 = ⟨b2, 0, none⟩ ∧ m = cap' := by cases h3; exact ⟨rfl, rfl⟩
        intro j u hu
        have h5 := h4 j u hu
        rw [addr_add0] at h5 ⊢
        rw [cell_of_row w b2 j cs2 62 (0, 0) hbw2] at h5
        rw [cell_of_row w1 b2 j cs2 62 (0, 0) (hw1 _ (List.mem_cons_self ..))]; exact h5
    have hs1 := hs.less (k := k) [(b, .cells cs 62 (0, 0))] cd hg (by simp)
    have hcap : (cap : Int) ≤ 9223372036854775807 := by omega
    apply wp_seq_k; intro K11 hK11
    apply wp_seq_k; intro K10 hK10
    apply wp_region_lit
    refine sm _ rfl hk rfl rfl rfl fun a hk => ?_
    refine sm _ rfl hk rfl rfl rfl fun a hk => ?_
    refine sv (.int .i64 (w64 ((xs.length : Int) + (ys.length : Int)))) hk rfl rfl rfl fun a hk => ?_
    refine sm _ rfl hk rfl rfl rfl fun a hk => ?_
    refine scap rfl hk rfl rfl rfl un26 fun a hk => ?_
    refine sv (.bool (decide ((cap : Int) < w64 ((xs.length : Int) + (ys.length : Int))))) hk rfl rfl rfl fun a hk => ?_
    show wpList _ _ _ [] _ _
    refine wpList_nil ?_
    refine hK10 _ _ ?_
    have en : w64 ((xs.length : Int) + (ys.length : Int)) = ((xs.length + ys.length : Nat) : Int) := by rw [w64id (by omega) (by omega)]; omega
    have ei : w64 ((i : Int) + (ys.length : Int)) = ((i + ys.length : Nat) : Int) := by rw [w64id (by omega) (by omega)]; omega
    have elen := len_insL xs i ys hi
    have hdl : (ess.flatten.drop (i * 2)).length = (xs.length - i) * 2 := by rw [List.length_drop, hxl]; omega
    by_cases hroom : cap < xs.length + ys.length
    · have hk := hk.lit 31 (decide_eq_true (by rw [en]; omega)) rfl
      refine cnd_true hk rfl rfl ?_
      apply wp_seq_k; intro K12 hK12
      apply wp_region_lit
      refine sm _ rfl hk rfl rfl rfl fun a hk => ?_
      refine sm _ rfl hk rfl rfl rfl fun a hk => ?_
      refine sll_h rfl hk rfl rfl rfl rfl un26 sz62 (by omega) (by omega) fun a hk => ?_
      have hk := hk.re (v' := .slice (some ⟨b, 0, none⟩) i cap) 34 rfl sl_head
      refine sm _ rfl hk rfl rfl rfl fun a hk => ?_
      refine sm _ rfl hk rfl rfl rfl fun a hk => ?_
      refine sv (.int .i64 (w64 ((xs.length : Int) + (ys.length : Int)))) hk rfl rfl rfl fun a hk => ?_
      rw [en] at hk
      refine sm _ rfl hk rfl rfl rfl fun a hk => ?_
      refine sv (.int .i64 (w64 (((xs.length + ys.length : Nat) : Int) - (i : Int)))) hk rfl rfl rfl fun a hk => ?_
      have em : w64 (((xs.length + ys.length : Nat) : Int) - (i : Int)) = ((xs.length + ys.length - i : Nat) : Int) := by rw [w64id (by omega) (by omega)]; omega
      rw [em] at hk
      obtain ⟨inf, hinf, hbinf, hzinf, hszinf⟩ := mkB_spec mk62
      have hby : inf.bytes ≤ 131072 := hbinf
      have hprod : (xs.length + ys.length) * inf.bytes ≤ 140737488355328 := by
        have := Nat.mul_le_mul hn hby
        omega
      have hgc := grownCap_ge w (i + (xs.length + ys.length - i)) cap 62
      have hgm := grownCap_le_maxLen w (i + (xs.length + ys.length - i)) cap 62 (by omega)
      have htk : (ess.flatten.take (i * 2)).length = i * 2 := by rw [List.length_take, hxl]; omega
      have hfc : (Builtin.firstCells inf.size i (.slice (some ⟨b, 0, none⟩) i cap)).run Try.prog w.drew = .ok (ess.flatten.take (i * 2)).toArray w.drew :=
        run_firstCells_some (P := Try.prog) w.drew inf.size i ⟨b, 0, none⟩ i cap (ess.flatten.take (i * 2)) (by rw [htk, hszinf]) (fun j u hu => by
          have : ess.flatten[j]? = some u := by
            rw [List.getElem?_take] at hu
            split at hu
            · exact hu
            · cases hu
          have := holds w hbw j u this
          simpa using this)
      have hpb : (xs.length + ys.length - i) * inf.bytes ≤ 281474976710656 := by
        have := Nat.mul_le_mul_right inf.bytes (show xs.length + ys.length - i ≤ xs.length + ys.length by omega)
        omega
      have hrun := fun ty => Lib.run_append_grow_zeros (P := Try.prog) w 26 3 ty 62 inf _ .i64 .i64 un26 (by kernel_rfl : Try.prog.underlying 3 = some (.int .i64)) hinf hzinf (some ⟨b, 0, none⟩) i cap _ hfc (xs.length + ys.length - i) (by omega) (by omega) (by omega) (by omega) hpb (growslice_fits (by omega) (by rw [show i + (xs.length + ys.length - i) = xs.length + ys.length by omega]; exact hprod))
      generalize hgv : grownCap w (i + (xs.length + ys.length - i)) cap 62 = gc at hrun hgc hgm
      generalize hcn : ((ess.flatten.take (i * 2)).toArray ++ Builtin.zeroCells (Value.cells (.agg #[.int .i64 0, .int .i64 0])) (xs.length + ys.length - i) ++ Builtin.zeroCells (Value.cells (.agg #[.int .i64 0, .int .i64 0])) (gc - (i + (xs.length + ys.length - i)))) = cn at hrun
      have hcnl : cn.size = gc * 2 := by
        rw [← hcn]
        simp only [Array.size_append, size_zeroCells, List.size_toArray, htk]
        have : (Value.cells (.agg #[.int .i64 0, .int .i64 0])).size = 2 := rfl
        rw [this]; omega
      have hcnt : cn.toList.take (i * 2) = ess.flatten.take (i * 2) := by
        rw [← hcn]
        simp only [Array.toList_append, List.toList_toArray, List.append_assoc]
        exact List.take_left' htk
      refine sapz rfl hk rfl rfl rfl rfl hrun fun a hk => ?_
      have hs2 : Sat M w00 (w.drew.alloc (.cells cn 62 (0, 0))) Δ ((k, [(w.heap.size, .cells cn 62 (0, 0))]) :: (k, [(b, .cells cs 62 (0, 0))]) :: kdel Γ k) := hs1.drew.alloc k (.cells cn 62 (0, 0))
      have hcln : cn.toList.length = gc * 2 := by rw [Array.length_toList (xs := cn), hcnl]
      generalize hbn : w.heap.size = nb at hk hs2
      have hbw1 : (w.drew.alloc (.cells cn 62 (0, 0))).heap[b]? = some (.cells cs 62 (0, 0)) := (hs2.drop k).hasG (by simp only [kdel, Nat.beq_refl, if_true]; exact kget_cons _ _ _) _ (List.mem_singleton.2 rfl)
      generalize w.drew.alloc (.cells cn 62 (0, 0)) = w at hs2 hbw1
      refine sa _ rfl hk rfl rfl rfl fun a hk => ?_
      show wpList _ _ _ [] _ _
      refine wpList_nil ?_
      refine hK12 _ _ ?_
      have eg : i + (xs.length + ys.length - i) = xs.length + ys.length := by omega
      rw [eg] at hk hgc
      apply wp_seq_k; intro K16 hK16
      apply wp_region_lit
      refine sm _ rfl hk rfl rfl rfl fun a hk => ?_
      refine sm _ rfl hk rfl rfl rfl fun a hk => ?_
      refine sll_l rfl hk rfl rfl rfl rfl un26 sz62 (by omega) (by omega) fun a hk => ?_
      have hk := hk.re (v' := .slice (some ⟨nb, i * 2, none⟩) (xs.length + ys.length - i) (gc - i)) 43 rfl (sl_off (by omega))
      refine sm _ rfl hk rfl rfl rfl fun a hk => ?_
      have hk2 : ∀ {w}, Sat M w00 w Δ ((k, [(nb, .cells cn 62 (0, 0))]) :: (k, [(b, .cells cs 62 (0, 0))]) :: kdel Γ k) → Has w ((b2, .cells cs2 62 (0, 0)) :: cd2) := fun h => by
        have h := (h.drop k)
        simp only [kdel, Nat.beq_refl, if_true] at h
        have h := (h.drop k)
        simp only [kdel, Nat.beq_refl, if_true] at h
        exact h.hasG hg2
      refine scp k _ fss.flatten hs2 (kget_cons _ _ _) (hysrc _ (hk2 hs2)) h1y (by rw [hfll]; simp only [Nat.min_def]; split <;> omega) (by rw [hfll, hcnl]; omega) rfl hk rfl rfl rfl rfl un26 sz62 rfl fun w a hk hs3 => ?_
      simp only [kset, Nat.beq_refl, if_true] at hs3
      show wpList _ _ _ [] _ _
      refine wpList_nil ?_
      refine hK16 _ _ ?_
      apply wp_seq_k; intro K15 hK15
      refine wp_region_tree (.q 0 (.q 1 (.q 2 (.q 3 (.q 4 (.q 5 (.q 6 (.q 7 (.alt 8 .done .stop))))))))) mo (by kernel_rfl) (hs3.dnil.pick [] rfl) fun _ => ?_
      have hs3 := hs3.drew
      refine tqst (.slice (some ⟨nb, 0, none⟩) (xs.length + ys.length) gc) hk rfl rfl rfl rfl (fun w hs => sm _ rfl hk rfl rfl rfl fun a hk => qe hk) fun a hk => ?_
      refine tqst (.int .i64 (i : Int)) hk rfl rfl rfl rfl (fun w hs => sm _ rfl hk rfl rfl rfl fun a hk => qe hk) fun a hk => ?_
      refine tqst (.int .i64 (ys.length : Int)) hk rfl rfl rfl rfl (fun w hs => sm _ rfl hk rfl rfl rfl fun a hk => qe hk) fun a hk => ?_
      refine tqst (.int .i64 (w64 ((i : Int) + (ys.length : Int)))) hk rfl rfl rfl rfl (fun w hs => sv (.int .i64 (w64 ((i : Int) + (ys.length : Int)))) hk rfl rfl rfl fun a hk => qe hk) fun a hk => ?_
      rw [ei] at hk
      refine tqst _ hk rfl rfl rfl rfl (fun w hs => sll_l rfl hk rfl rfl rfl rfl un26 sz62 (by omega) (by omega) fun a hk => qe hk) fun a hk => ?_
      have hk := hk.re (v' := .slice (some ⟨nb, (i + ys.length) * 2, none⟩) (xs.length + ys.length - (i + ys.length)) (gc - (i + ys.length))) 50 rfl (sl_off (by omega))
      refine tqst (.slice (some ⟨b, 0, none⟩) xs.length cap) hk rfl rfl rfl rfl (fun w hs => sm _ rfl hk rfl rfl rfl fun a hk => qe hk) fun a hk => ?_
      refine tqst (.int .i64 (i : Int)) hk rfl rfl rfl rfl (fun w hs => sm _ rfl hk rfl rfl rfl fun a hk => qe hk) fun a hk => ?_
      refine tqst _ hk rfl rfl rfl rfl (fun w hs => sll_l rfl hk rfl rfl rfl rfl un26 sz62 (by omega) (by omega) fun a hk => qe hk) fun a hk => ?_
      have hk := hk.re (v' := .slice (some ⟨b, i * 2, none⟩) (xs.length - i) (cap - i)) 53 rfl (sl_off (by omega))
      refine tsst hk rfl rfl (fun Kl hKl w hF => ?_) wt_stop
      have hs3 := hs3.f hF
      have hbw3 : w.heap[b]? = some (.cells cs 62 (0, 0)) := (hs3.drop k).hasG (by simp only [kdel, Nat.beq_refl, if_true]; exact kget_cons _ _ _) _ (List.mem_singleton.2 rfl)
      refine scp k _ (ess.flatten.drop (i * 2)) hs3 (kget_cons _ _ _) (hdropc _ hbw3) (fun u hu => h1x u (List.mem_of_mem_drop hu)) (by rw [hdl]; simp only [Nat.min_def]; split <;> omega) (by rw [List.size_toArray, put_len (by rw [hfll, hcln]; omega), hdl, hcln]; omega) rfl hk rfl rfl rfl rfl un26 sz62 rfl fun w a hk hs4 => ?_
      refine se (hs4.dnil.pick [] rfl) hk (hKl _ _ ?_)
      refine wtl_nil fun w hF _ => ?_
      have hs4 := hs4.f hF
      simp only [kset, Nat.beq_refl, if_true] at hs4
      refine hK15 _ _ ?_
      apply wp_seq_k; intro K17 hK17
      apply wp_region_lit
      refine sm _ rfl hk rfl rfl rfl fun a hk => ?_
      refine sa _ rfl hk rfl rfl rfl fun a hk => ?_
      show wpList _ _ _ [] _ _
      refine wpList_nil ?_
      refine hK17 _ _ ?_
      refine wp_ret ?_
      have hs5 := hs4.drop2 k
      refine fin hk _ [(.slice (some ⟨nb, 0, none⟩) (xs.length + ys.length) gc)] rfl ⟨rfl, trivial⟩ ⟨_, gc, _, by rw [elen]; rfl, own_ins hall hy hi ?_ ?_ (by omega) hgm, hs5⟩
      · have := ins_new (cs0 := cn.toList) (E0 := ess.flatten) (V := fss.flatten) (p := i * 2) (q := ys.length * 2) (N := xs.length * 2) hcnt hxl hfll (by omega) (by rw [hcln]; omega)
        rw [hLs, List.toList_toArray, List.toList_toArray, Nat.add_mul, Nat.add_mul]
        exact this
      · rw [hLs, List.size_toArray, List.toList_toArray, put_len (by rw [put_len (by rw [hfll, hcln]; omega), hdl, hcln]; omega), put_len (by rw [hfll, hcln]; omega), hcln]
    · have hk := hk.lit 31 (decide_eq_false (by rw [en]; omega)) rfl
      refine cnd_false hk rfl rfl ?_
      refine wp_skip ?_
      refine hK11 _ _ ?_
      apply wp_seq_k; intro K12 hK12
      apply wp_region_lit
      refine sm _ rfl hk rfl rfl rfl fun a hk => ?_
      refine sm _ rfl hk rfl rfl rfl fun a hk => ?_
      refine sm _ rfl hk rfl rfl rfl fun a hk => ?_
      refine sv (.int .i64 (w64 ((xs.length : Int) + (ys.length : Int)))) hk rfl rfl rfl fun a hk => ?_
      rw [en] at hk
      refine sll_h rfl hk rfl rfl rfl rfl un26 sz62 (by omega) (by omega) fun a hk => ?_
      have hk := hk.re (v' := .slice (some ⟨b, 0, none⟩) (xs.length + ys.length) cap) 60 rfl sl_head
      refine sa _ rfl hk rfl rfl rfl fun a hk => ?_
      show wpList _ _ _ [] _ _
      refine wpList_nil ?_
      refine hK12 _ _ ?_
      apply wp_seq_k; intro K14 hK14
      apply wp_seq_k; intro K13 hK13
      apply wp_region_lit
      refine sm _ rfl hk rfl rfl rfl fun a hk => ?_
      refine sm _ rfl hk rfl rfl rfl fun a hk => ?_
      refine sm _ rfl hk rfl rfl rfl fun a hk => ?_
      refine sm _ rfl hk rfl rfl rfl fun a hk => ?_
      refine sv (.int .i64 (w64 ((i : Int) + (ys.length : Int)))) hk rfl rfl rfl fun a hk => ?_
      rw [ei] at hk
      refine sll_l rfl hk rfl rfl rfl rfl un26 sz62 (by omega) (by omega) fun a hk => ?_
      have hk := hk.re (v' := .slice (some ⟨b, (i + ys.length) * 2, none⟩) (xs.length + ys.length - (i + ys.length)) (cap - (i + ys.length))) 66 rfl (sl_off (by omega))
      refine sce1 rfl (ov188 (A := .bool false) hbw2 hbw hbne (by omega)) hk rfl rfl rfl fun a hk => ?_
      refine sv (.bool true) hk rfl rfl rfl fun a hk => ?_
      show wpList _ _ _ [] _ _
      refine wpList_nil ?_
      refine hK13 _ _ ?_
      refine cnd_true hk rfl rfl ?_
      apply wp_seq_k; intro K15 hK15
      refine wp_region_tree (.q 0 (.q 1 (.q 2 (.q 3 (.q 4 (.q 5 (.q 6 (.q 7 (.alt 8 .done .stop))))))))) mo (by kernel_rfl) (hs1.dnil.pick [] rfl) fun _ => ?_
      have hs1 := hs1.drew
      refine tqst (.slice (some ⟨b, 0, none⟩) (xs.length + ys.length) cap) hk rfl rfl rfl rfl (fun w hs => sm _ rfl hk rfl rfl rfl fun a hk => qe hk) fun a hk => ?_
      refine tqst (.int .i64 (i : Int)) hk rfl rfl rfl rfl (fun w hs => sm _ rfl hk rfl rfl rfl fun a hk => qe hk) fun a hk => ?_
      refine tqst (.int .i64 (ys.length : Int)) hk rfl rfl rfl rfl (fun w hs => sm _ rfl hk rfl rfl rfl fun a hk => qe hk) fun a hk => ?_
      refine tqst (.int .i64 (w64 ((i : Int) + (ys.length : Int)))) hk rfl rfl rfl rfl (fun w hs => sv (.int .i64 (w64 ((i : Int) + (ys.length : Int)))) hk rfl rfl rfl fun a hk => qe hk) fun a hk => ?_
      rw [ei] at hk
      refine tqst _ hk rfl rfl rfl rfl (fun w hs => sll_l rfl hk rfl rfl rfl rfl un26 sz62 (by omega) (by omega) fun a hk => qe hk) fun a hk => ?_
      have hk := hk.re (v' := .slice (some ⟨b, (i + ys.length) * 2, none⟩) (xs.length + ys.length - (i + ys.length)) (cap - (i + ys.length))) 73 rfl (sl_off (by omega))
      refine tqst (.slice (some ⟨b, 0, none⟩) (xs.length + ys.length) cap) hk rfl rfl rfl rfl (fun w hs => sm _ rfl hk rfl rfl rfl fun a hk => qe hk) fun a hk => ?_
      refine tqst (.int .i64 (i : Int)) hk rfl rfl rfl rfl (fun w hs => sm _ rfl hk rfl rfl rfl fun a hk => qe hk) fun a hk => ?_
      refine tqst _ hk rfl rfl rfl rfl (fun w hs => sll_l rfl hk rfl rfl rfl rfl un26 sz62 (by omega) (by omega) fun a hk => qe hk) fun a hk => ?_
      have hk := hk.re (v' := .slice (some ⟨b, i * 2, none⟩) (xs.length + ys.length - i) (cap - i)) 76 rfl (sl_off (by omega))
      refine tsst hk rfl rfl (fun Kl hKl w hF => ?_) wt_stop
      have hs2 := hs1.f hF
      refine scp k _ (ess.flatten.drop (i * 2)) hs2 (kget_cons _ _ _) (hdropc _ (box_row hs2 (kget_cons _ _ _))) (fun u hu => h1x u (List.mem_of_mem_drop hu)) (by rw [hdl]; simp only [Nat.min_def]; split <;> omega) (by rw [hdl, hcs]; omega) rfl hk rfl rfl rfl rfl un26 sz62 rfl fun w a hk hs3 => ?_
      refine se (hs3.dnil.pick [] rfl) hk (hKl _ _ ?_)
      refine wtl_nil fun w hF _ => ?_
      have hs3 := hs3.f hF
      simp only [kset, Nat.beq_refl, if_true] at hs3
      refine hK15 _ _ ?_
      apply wp_seq_k; intro K16 hK16
      apply wp_region_lit
      refine sm _ rfl hk rfl rfl rfl fun a hk => ?_
      refine sm _ rfl hk rfl rfl rfl fun a hk => ?_
      refine sll_l rfl hk rfl rfl rfl rfl un26 sz62 (by omega) (by omega) fun a hk => ?_
      have hk := hk.re (v' := .slice (some ⟨b, i * 2, none⟩) (xs.length + ys.length - i) (cap - i)) 80 rfl (sl_off (by omega))
      refine sm _ rfl hk rfl rfl rfl fun a hk => ?_
      have hw3 : Has w ((b2, .cells cs2 62 (0, 0)) :: cd2) := (by have := hs3.drop k; simpa only [kdel, Nat.beq_refl, if_true] using this : Sat M w00 w Δ (kdel Γ k)).hasG hg2
      refine scp k _ fss.flatten hs3 (kget_cons _ _ _) (hysrc _ hw3) h1y (by rw [hfll]; simp only [Nat.min_def]; split <;> omega) (by rw [List.size_toArray, put_len (by rw [hdl, hcl]; omega), hfll, hcl]; omega) rfl hk rfl rfl rfl rfl un26 sz62 rfl fun w a hk hs4 => ?_
      show wpList _ _ _ [] _ _
      refine wpList_nil ?_
      refine hK16 _ _ ?_
      simp only [kset, Nat.beq_refl, if_true] at hs4
      apply wp_seq_k; intro K17 hK17
      apply wp_region_lit
      refine sm _ rfl hk rfl rfl rfl fun a hk => ?_
      refine sa _ rfl hk rfl rfl rfl fun a hk => ?_
      show wpList _ _ _ [] _ _
      refine wpList_nil ?_
      refine hK17 _ _ ?_
      refine wp_ret ?_
      refine fin hk _ [(.slice (some ⟨b, 0, none⟩) (xs.length + ys.length) cap)] rfl ⟨rfl, trivial⟩ ⟨_, cap, _, by rw [elen]; rfl, own_ins hall hy hi ?_ ?_ (by omega) htop, hs4⟩
      · have := ins_old (cs := cs.toList) (E0 := ess.flatten) (V := fss.flatten) (p := i * 2) (q := ys.length * 2) (N := xs.length * 2) htake hxl hfll (by omega) (by rw [hcl]; omega)
        rw [hLs, List.toList_toArray, List.toList_toArray, Nat.add_mul, Nat.add_mul]
        exact this
      · rw [hLs, List.size_toArray, List.toList_toArray, put_len (by rw [put_len (by rw [hdl, hcl]; omega), hfll, hcl]; omega), put_len (by rw [hdl, hcl]; omega), hcl]
theorem slices_Insert_impl_Entry_impl_Entry_t {M : List Nat} {w00 w : World} {Δ Γ : List (Nat × Chunk)} (k k2 : Nat) {A A' : Option Addr} {cap cap' : Nat} {xs ys : List S_Entry} {c c2 : Chunk} {i : Int}
    (hs : Sat M w00 w Δ Γ) (hg : kget Γ k = some c) (hown : Own L_Entry 62 A cap xs c) (hg2 : kget (kdel Γ k) k2 = some c2) (hv : Own L_Entry 62 A' cap' ys c2) (hpos : 0 < ys.length) (hi : (0 ≤ i ∧ i ≤ (xs.length : Int)) ∧ xs.length + ys.length ≤ 1073741824) :
    Calls Try.prog 183 #[.slice A xs.length cap, .int .i64 i, .slice A' ys.length cap'] w (Ret (fun v w' => ∃ A1 cap1 c1, v = .slice A1 (insL xs i.toNat ys).length cap1 ∧ Own L_Entry 62 A1 cap1 (insL xs i.toNat ys) c1 ∧ Sat M w00 w' Δ ((k, c1) :: kdel Γ k))) := by
  obtain ⟨n, rfl⟩ := Int.eq_ofNat_of_zero_le hi.1.1
  exact slices_Insert_impl_Entry_impl_Entry_n k k2 n hs hg hown hg2 hv hpos (by omega) hi.2

noncomputable def impl_put.f (l0 : List S_Entry) (x1 : Int) (x2 : Int) : Option ((List S_Entry) × Bool) :=
  ((impl_find.f l0 x1).bind fun y3 => ((slices_Clone_impl_Entry_impl_Entry.f l0).bind fun y6 => (((bif y3.2 then (if 0 ≤ y3.1 ∧ y3.1 < (y6.length : Int) then (some (.out (y6.set (y3.1).toNat (⟨(y6.getD (y3.1).toNat z_Entry).Key, x2⟩ : S_Entry)))) else none) else (bif ((l0.length : Int) == 11) then (some (.ret (l0, false))) else (if (0 ≤ y3.1 ∧ y3.1 ≤ (y6.length : Int)) ∧ y6.length + ([(⟨x1, x2⟩ : S_Entry)]).length ≤ 1073741824 then (some (.out (insL y6 y3.1.toNat ([(⟨x1, x2⟩ : S_Entry)])))) else none))) : Option (Ex ((List S_Entry)) ((List S_Entry) × Bool))).bind fun o => match o with | .out u15 => (some (u15, true)) | .ret r => (some r))))
set_option maxRecDepth 100000 in
set_option maxHeartbeats 0 in
theorem impl_put_t (w0 : World) (A0_ : Option Addr) (p0_ : Nat) (l0 : List S_Entry) (k0_ : Chunk) (v0_ : View L_Entry A0_ p0_ l0 k0_) (w0_ : Has w0 k0_) (x1 : Int) (x2 : Int) (r : (List S_Entry) × Bool) (H : impl_put.f l0 x1 x2 = some r) :
    Calls Try.prog 167 #[.slice A0_ l0.length p0_, .int .i64 x1, .int .i64 x2] w0 (Ret (fun v w => ∃ (A0 : Option Addr) (p0 : Nat), ∃ (kS : Chunk), v = .tuple #[.slice A0 r.1.length p0, .bool r.2] ∧ View L_Entry A0 p0 r.1 (k0_ ++ kS) ∧ Sat [] w0 w [] [(0, kS)])) := by
  have hs : Sat [] w0 w0 [(1, k0_)] [] := Sat.init w0 [(1, k0_)] [] (by simp only [List.mem_cons, List.not_mem_nil, or_false]; rintro x (rfl) <;> assumption) (by simp) List.nodup_nil (by simp [blks])
  unfold impl_put.f at H
  refine enter Try.func167 rfl Try.ntmps167 rfl fun a hk => ?_
  apply wp_seq_k; intro K1 hK1
  apply wp_region_lit
  refine sa _ rfl hk rfl rfl rfl fun a hk => ?_
  refine sa _ rfl hk rfl rfl rfl fun a hk => ?_
  show wpList _ _ _ [] _ _
  refine wpList_nil ?_
  refine hK1 _ _ ?_
  apply wp_seq_k; intro K2 hK2
  apply wp_region_lit
  refine sm _ rfl hk rfl rfl rfl fun a hk => ?_
  refine sm _ rfl hk rfl rfl rfl fun a hk => ?_
  obtain ⟨y3, h4, H⟩ := bind_some H
  refine sc rfl en82 hk rfl rfl rfl (impl_find_t _ A0_ p0_ l0 _ v0_ (hs.hasD (k := 1) rfl) x1 _ h4) ?_
  rintro _ w ⟨rfl, hG⟩ a hk
  have hs := hs.call0 hG
  refine sm _ rfl hk rfl rfl rfl fun a hk => ?_
  refine sv (.int .i64 y3.1) hk rfl rfl rfl fun a hk => ?_
  refine sv (.bool y3.2) hk rfl rfl rfl fun a hk => ?_
  refine sa _ rfl hk rfl rfl rfl fun a hk => ?_
  refine sa _ rfl hk rfl rfl rfl fun a hk => ?_
  show wpList _ _ _ [] _ _
  refine wpList_nil ?_
  refine hK2 _ _ ?_
  apply wp_seq_k; intro K5 hK5
  apply wp_region_lit
  refine sm _ rfl hk rfl rfl rfl fun a hk => ?_
  obtain ⟨y6, h7, H⟩ := bind_some H
  refine sc rfl en69 hk rfl rfl rfl (slices_Clone_impl_Entry_impl_Entry_t _ A0_ p0_ l0 _ v0_ (hs.hasD (k := 1) rfl) _ h7) ?_
  rintro _ w ⟨A8, p9, k10, rfl, o11, hG⟩ a hk
  have hs := hs.call0k hG [2] rfl
  refine sa _ rfl hk rfl rfl rfl fun a hk => ?_
  show wpList _ _ _ [] _ _
  refine wpList_nil ?_
  refine hK5 _ _ ?_
  apply wp_seq_k; intro K12 hK12
  refine wp_block ?_
  apply wp_seq_k; intro K13 hK13
  apply wp_region_lit
  refine sm _ rfl hk rfl rfl rfl fun a hk => ?_
  refine sa _ rfl hk rfl rfl rfl fun a hk => ?_
  show wpList _ _ _ [] _ _
  refine wpList_nil ?_
  refine hK13 _ _ ?_
  obtain ⟨o20, h21, HL22⟩ := bind_some H
  clear H
  obtain ⟨R23, hR23⟩ : ∃ R : Act → World → Prop, R = fun a w => ∃ (u15 : List S_Entry) (A18 : Option Addr) (p19 : Nat) (k16 : Chunk), .out u15 = o20 ∧ Kn [(10, (.slice A18 u15.length p19))] 39 a ∧ Sat [] w0 w [(1, k0_)] [(2, k16)] ∧ Own L_Entry 62 A18 p19 u15 k16 := ⟨_, rfl⟩
  refine wp_cutq R23 ?_ ?_
  · have H := h21
    rcases cond_some H with ⟨c24, H⟩ | ⟨c24, H⟩
    · have hk := hk.lit 26 c24 rfl
      refine cnd_true hk rfl rfl ?_
      apply wp_region_lit
      refine sm _ rfl hk rfl rfl rfl fun a hk => ?_
      refine sm _ rfl hk rfl rfl rfl fun a hk => ?_
      refine sm _ rfl hk rfl rfl rfl fun a hk => ?_
      rcases ite_some H with ⟨c25, H⟩ | ⟨_, H⟩
      rotate_left
      · cases H
      obtain ⟨b26, q27, hAc25⟩ := (o11.view).some_ y3.1 c25.1 c25.2
      refine si rfl hk rfl rfl rfl rfl un26 sz62 c25.1 c25.2 hAc25 fun a hk => ?_
      refine sf (padd A8 ((y3.1).toNat * 2 + 1)) rfl hk rfl rfl rfl fd62_1 (padd_add _ _ _) fun a hk => ?_
      refine so (j := 1) 2 z_Entry (⟨(y6.getD (y3.1).toNat z_Entry).Key, x2⟩ : S_Entry) hs rfl o11 c25.1 c25.2 rfl hk rfl rfl rfl rfl rfl sz3 (by simp [Value.cells, Value.oneCell']) (Nat.le_of_ble_eq_true rfl) (fun _ _ h => ⟨by rw [h.1]; rfl, h.2⟩) fun k28 w a hk o29 hs => ?_
      have lh30 : (y6.set (y3.1).toNat (⟨(y6.getD (y3.1).toNat z_Entry).Key, x2⟩ : S_Entry)).length = y6.length := by rw [List.length_set]
      show wpList _ _ _ [] _ _
      refine wpList_nil ?_
      obtain rfl := Option.some.inj H
      show R23 _ _
      rw [hR23]
      exact ⟨(y6.set (y3.1).toNat (⟨(y6.getD (y3.1).toNat z_Entry).Key, x2⟩ : S_Entry)), A8, p9, _, rfl, (hk.cl 10 rfl (by rw [lh30]) hk.k), (hs.pick [(2, 2)] rfl), o29⟩
    · have hk := hk.lit 26 c24 rfl
      refine cnd_false hk rfl rfl ?_
      apply wp_seq_k; intro K31 hK31
      apply wp_region_lit
      refine sm _ rfl hk rfl rfl rfl fun a hk => ?_
      refine sle rfl hk rfl rfl rfl un26 fun a hk => ?_
      refine sv (.bool ((l0.length : Int) == 11)) hk rfl rfl rfl fun a hk => ?_
      refine sa _ rfl hk rfl rfl rfl fun a hk => ?_
      show wpList _ _ _ [] _ _
      refine wpList_nil ?_
      refine hK31 _ _ ?_
      rcases cond_some H with ⟨c32, H⟩ | ⟨c32, H⟩
      · have hk := hk.lit 33 c32 rfl
        refine cnd_true hk rfl rfl ?_
        apply wp_seq_k; intro K33 hK33
        apply wp_region_lit
        refine sm _ rfl hk rfl rfl rfl fun a hk => ?_
        refine sa _ rfl hk rfl rfl rfl fun a hk => ?_
        refine sa _ rfl hk rfl rfl rfl fun a hk => ?_
        show wpList _ _ _ [] _ _
        refine wpList_nil ?_
        refine hK33 _ _ ?_
        refine wp_ret ?_
        obtain rfl := Option.some.inj H
        have H := HL22
        try dsimp only at H
        obtain rfl := Option.some.inj H
        exact fin hk _ [(.slice A0_ l0.length p0_), (.bool false)] rfl ⟨rfl, ⟨rfl, trivial⟩⟩ ⟨A0_, p0_, _, rfl, (v0_).sub (Sub.l _ (Sub.refl _)), ((hs.addNil 3000).pick [(0, 3000)] rfl).dnil⟩
      · have hk := hk.lit 33 c32 rfl
        refine cnd_false hk rfl rfl ?_
        apply wp_region_lit
        refine sm _ rfl hk rfl rfl rfl fun a hk => ?_
        refine sm _ rfl hk rfl rfl rfl fun a hk => ?_
        refine sm _ rfl hk rfl rfl rfl fun a hk => ?_
        refine sm _ rfl hk rfl rfl rfl fun a hk => ?_
        refine sbd (pv := [(0, (.int .i64 x1)), (1, (.int .i64 x2))]) rfl hk rfl rfl rfl (bd62_1 x1 x2) fun a hk => ?_
        refine sbs (L := L_Entry) (pv := [(0, (.agg #[.int .i64 x1, .int .i64 x2]))]) (xs := [(⟨x1, x2⟩ : S_Entry)]) (ess := [[.int .i64 x1, .int .i64 x2]]) 4 hs rfl hk rfl rfl rfl un26 (bs62_2 x1 x2) (AllOwn.cons0 ⟨rfl, rfl⟩ AllOwn.nil) rfl rfl rfl fun b34 k35 w a hk o36 hs => ?_
        rcases ite_some H with ⟨c37, H⟩ | ⟨_, H⟩
        rotate_left
        · cases H
        refine sc rfl en183 hk rfl rfl rfl (slices_Insert_impl_Entry_impl_Entry_t 2 4 (xs := y6) (ys := [(⟨x1, x2⟩ : S_Entry)]) hs rfl o11 rfl o36 (by simp) c37) ?_
        rintro _ w ⟨A38, p39, k40, rfl, o41, hs⟩ a hk
        refine sa _ rfl hk rfl rfl rfl fun a hk => ?_
        show wpList _ _ _ [] _ _
        refine wpList_nil ?_
        obtain rfl := Option.some.inj H
        show R23 _ _
        rw [hR23]
        exact ⟨(insL y6 y3.1.toNat ([(⟨x1, x2⟩ : S_Entry)])), A38, p39, _, rfl, (hk.c 10 rfl hk.k), (hs.pick [(2, 2)] rfl), o41⟩
  · intro a w hR0
    rw [hR23] at hR0
    obtain ⟨u15, A18, p19, k16, rfl, hk, hs, o17⟩ := hR0
    have H := HL22
    try dsimp only at H
    refine hK12 _ _ ?_
    apply wp_seq_k; intro K42 hK42
    apply wp_region_lit
    refine sm _ rfl hk rfl rfl rfl fun a hk => ?_
    refine sa _ rfl hk rfl rfl rfl fun a hk => ?_
    refine sa _ rfl hk rfl rfl rfl fun a hk => ?_
    show wpList _ _ _ [] _ _
    refine wpList_nil ?_
    refine hK42 _ _ ?_
    refine wp_ret ?_
    obtain rfl := Option.some.inj H
    exact fin hk _ [(.slice A18 u15.length p19), (.bool true)] rfl ⟨rfl, ⟨rfl, trivial⟩⟩ ⟨A18, p19, _, rfl, (o17.view).sub (Sub.r _ (Sub.refl _)), (hs.pick [(0, 2)] rfl).dnil⟩

noncomputable def impl_do2.f (l0 : List S_Entry) (x1 : S_Op) (x2 : Int) : Option ((List S_Entry) × (List Int) × Int) :=
  (((bif (x1.Kind == 5) then (some ((w64 (x1.Value + x2)), [(w64 (x1.Value + x2))])) else (some (x1.Value, ([] : List Int)))) : Option (Int × (List Int))).bind fun o => match o with | (u8, u9) => ((impl_put.f l0 x1.Key u8).bind fun y24 => (bif (!y24.2) then (some (l0, ([] : List Int), 7)) else ((impl_isValue.f u8).bind fun y35 => (bif (!y35) then (some (l0, ([] : List Int), 4)) else (some (y24.1, u9, 0)))))))
set_option maxRecDepth 100000 in
set_option maxHeartbeats 0 in
theorem impl_do2_t (w0 : World) (A0_ : Option Addr) (p0_ : Nat) (l0 : List S_Entry) (k0_ : Chunk) (v0_ : View L_Entry A0_ p0_ l0 k0_) (w0_ : Has w0 k0_) (x1 : S_Op) (x2 : Int) (r : (List S_Entry) × (List Int) × Int) (H : impl_do2.f l0 x1 x2 = some r) :
    Calls Try.prog 131 #[.slice A0_ l0.length p0_, .agg #[.int .i64 x1.Kind, .int .i64 x1.Key, .int .i64 x1.Value], .int .i64 x2] w0 (Ret (fun v w => ∃ (A0 : Option Addr) (p0 : Nat), ∃ (A1 : Option Addr) (p1 : Nat) (k1 : Chunk), ∃ (kS : Chunk), v = .tuple #[.slice A0 r.1.length p0, .slice A1 r.2.1.length p1, .int .i64 r.2.2] ∧ View L_Entry A0 p0 r.1 (k0_ ++ kS) ∧ Own (Lay.int .i64) 3 A1 p1 r.2.1 k1 ∧ Sat [] w0 w [] [(0, k1), (1, kS)])) := by
  have hs : Sat [] w0 w0 [(1, k0_)] [] := Sat.init w0 [(1, k0_)] [] (by simp only [List.mem_cons, List.not_mem_nil, or_false]; rintro x (rfl) <;> assumption) (by simp) List.nodup_nil (by simp [blks])
  unfold impl_do2.f at H
  refine enter Try.func131 rfl Try.ntmps131 rfl fun a hk => ?_
  apply wp_seq_k; intro K1 hK1
  apply wp_region_lit
  refine sbx 2 hs rfl hk rfl rfl rfl rfl fun b2 w a hk hs => ?_
  refine sa _ rfl hk rfl rfl rfl fun a hk => ?_
  refine sa _ rfl hk rfl rfl rfl fun a hk => ?_
  refine sa _ rfl hk rfl rfl rfl fun a hk => ?_
  show wpList _ _ _ [] _ _
  refine wpList_nil ?_
  refine hK1 _ _ ?_
  apply wp_seq_k; intro K3 hK3
  apply wp_region_lit
  refine sf ⟨b2, 2, none⟩ rfl hk rfl rfl rfl fd31_2 rfl fun a hk => ?_
  refine sl rfl hk rfl rfl rfl ag3 (box_cell hs (k := 2) rfl rfl) fun a hk => ?_
  refine sa _ rfl hk rfl rfl rfl fun a hk => ?_
  show wpList _ _ _ [] _ _
  refine wpList_nil ?_
  refine hK3 _ _ ?_
  apply wp_seq_k; intro K4 hK4
  apply wp_region_lit
  refine sa _ rfl hk rfl rfl rfl fun a hk => ?_
  show wpList _ _ _ [] _ _
  refine wpList_nil ?_
  refine hK4 _ _ ?_
  apply wp_seq_k; intro K5 hK5
  apply wp_seq_k; intro K6 hK6
  apply wp_region_lit
  refine sf ⟨b2, 0, none⟩ rfl hk rfl rfl rfl fd31_0 rfl fun a hk => ?_
  refine sl rfl hk rfl rfl rfl ag3 (box_cell hs (k := 2) rfl rfl) fun a hk => ?_
  refine sv (.bool (x1.Kind == 5)) hk rfl rfl rfl fun a hk => ?_
  show wpList _ _ _ [] _ _
  refine wpList_nil ?_
  refine hK6 _ _ ?_
  obtain ⟨o14, h15, HL16⟩ := bind_some H
  clear H
  obtain ⟨R17, hR17⟩ : ∃ R : Act → World → Prop, R = fun a w => ∃ (u8 : Int) (u9 : List Int) (A12 : Option Addr) (p13 : Nat) (k10 : Chunk), (u8, u9) = o14 ∧ Kn [(0, (.slice A0_ l0.length p0_)), (4, (.pointer (some ⟨b2, 0, none⟩))), (9, (.int .i64 u8)), (10, (.slice A12 u9.length p13))] 42 a ∧ Sat [] w0 w [(1, k0_)] [(3, k10), (2, [(b2, .cells #[.int .i64 x1.Kind, .int .i64 x1.Key, .int .i64 x1.Value] 31 (0, 0))])] ∧ Own (Lay.int .i64) 3 A12 p13 u9 k10 := ⟨_, rfl⟩
  refine wp_cutq R17 ?_ ?_
  · have H := h15
    rcases cond_some H with ⟨c18, H⟩ | ⟨c18, H⟩
    · have hk := hk.lit 17 c18 rfl
      refine cnd_true hk rfl rfl ?_
      apply wp_seq_k; intro K19 hK19
      apply wp_region_lit
      refine sm _ rfl hk rfl rfl rfl fun a hk => ?_
      refine sm _ rfl hk rfl rfl rfl fun a hk => ?_
      refine sv (.int .i64 (w64 (x1.Value + x2))) hk rfl rfl rfl fun a hk => ?_
      refine sa _ rfl hk rfl rfl rfl fun a hk => ?_
      show wpList _ _ _ [] _ _
      refine wpList_nil ?_
      refine hK19 _ _ ?_
      apply wp_region_lit
      refine sm _ rfl hk rfl rfl rfl fun a hk => ?_
      refine sbs (L := (Lay.int .i64)) (pv := [(0, (.int .i64 (w64 (x1.Value + x2))))]) (xs := [(w64 (x1.Value + x2))]) (ess := [[.int .i64 (w64 (x1.Value + x2))]]) 4 hs rfl hk rfl rfl rfl un27 (bs3_3 (w64 (x1.Value + x2))) (AllOwn.cons0 ⟨rfl, rfl⟩ AllOwn.nil) rfl rfl rfl fun b20 k21 w a hk o22 hs => ?_
      refine sa _ rfl hk rfl rfl rfl fun a hk => ?_
      show wpList _ _ _ [] _ _
      refine wpList_nil ?_
      obtain rfl := Option.some.inj H
      show R17 _ _
      rw [hR17]
      exact ⟨(w64 (x1.Value + x2)), [(w64 (x1.Value + x2))], (some ⟨b20, 0, none⟩), 1, _, rfl, (hk.c 0 rfl (hk.c 4 rfl (hk.c 9 rfl (hk.c 10 rfl hk.k)))), (hs.pick [(3, 4), (2, 2)] rfl), o22⟩
    · have hk := hk.lit 17 c18 rfl
      refine cnd_false hk rfl rfl ?_
      refine wp_skip ?_
      obtain rfl := Option.some.inj H
      show R17 _ _
      rw [hR17]
      exact ⟨x1.Value, ([] : List Int), none, 0, _, rfl, (hk.c 0 rfl (hk.c 4 rfl (hk.c 9 rfl (hk.c 10 rfl hk.k)))), ((hs.addNil 1003).pick [(3, 1003), (2, 2)] rfl), Own.nil _ _⟩
  · intro a w hR0
    rw [hR17] at hR0
    obtain ⟨u8, u9, A12, p13, k10, rfl, hk, hs, o11⟩ := hR0
    have H := HL16
    try dsimp only at H
    refine hK5 _ _ ?_
    apply wp_seq_k; intro K23 hK23
    apply wp_region_lit
    refine sm _ rfl hk rfl rfl rfl fun a hk => ?_
    refine sf ⟨b2, 1, none⟩ rfl hk rfl rfl rfl fd31_1 rfl fun a hk => ?_
    refine sl rfl hk rfl rfl rfl ag3 (box_cell hs (k := 2) rfl rfl) fun a hk => ?_
    refine sm _ rfl hk rfl rfl rfl fun a hk => ?_
    obtain ⟨y24, h25, H⟩ := bind_some H
    refine sc rfl en167 hk rfl rfl rfl (impl_put_t _ A0_ p0_ l0 _ v0_ (hs.hasD (k := 1) rfl) x1.Key u8 _ h25) ?_
    rintro _ w ⟨A27, p28, k26, rfl, v29, hG⟩ a hk
    have hs := hs.call0k hG [5] rfl
    refine sm _ rfl hk rfl rfl rfl fun a hk => ?_
    refine sv (.slice A27 y24.1.length p28) hk rfl rfl rfl fun a hk => ?_
    refine sv (.bool y24.2) hk rfl rfl rfl fun a hk => ?_
    refine sa _ rfl hk rfl rfl rfl fun a hk => ?_
    refine sa _ rfl hk rfl rfl rfl fun a hk => ?_
    show wpList _ _ _ [] _ _
    refine wpList_nil ?_
    refine hK23 _ _ ?_
    apply wp_seq_k; intro K30 hK30
    refine wp_block ?_
    apply wp_seq_k; intro K31 hK31
    apply wp_region_lit
    refine sm _ rfl hk rfl rfl rfl fun a hk => ?_
    refine sv (.bool (!y24.2)) hk rfl rfl rfl fun a hk => ?_
    refine sa _ rfl hk rfl rfl rfl fun a hk => ?_
    show wpList _ _ _ [] _ _
    refine wpList_nil ?_
    refine hK31 _ _ ?_
    rcases cond_some H with ⟨c32, H⟩ | ⟨c32, H⟩
    · have hk := hk.lit 31 c32 rfl
      refine cnd_true hk rfl rfl ?_
      apply wp_seq_k; intro K33 hK33
      apply wp_region_lit
      refine sm _ rfl hk rfl rfl rfl fun a hk => ?_
      refine sa _ rfl hk rfl rfl rfl fun a hk => ?_
      refine sa _ rfl hk rfl rfl rfl fun a hk => ?_
      refine sa _ rfl hk rfl rfl rfl fun a hk => ?_
      show wpList _ _ _ [] _ _
      refine wpList_nil ?_
      refine hK33 _ _ ?_
      refine wp_ret ?_
      obtain rfl := Option.some.inj H
      have hs := hs.addNil 6
      exact fin hk _ [(.slice A0_ l0.length p0_), (.slice none 0 0), (.int .i64 7)] rfl ⟨rfl, ⟨rfl, ⟨rfl, trivial⟩⟩⟩ ⟨A0_, p0_, none, 0, [], _, rfl, (v0_).sub (Sub.l _ (Sub.refl _)), Own.nil _ _, ((hs.addNil 3000).pick [(0, 6), (1, 3000)] rfl).dnil⟩
    · have hk := hk.lit 31 c32 rfl
      refine cnd_false hk rfl rfl ?_
      apply wp_seq_k; intro K34 hK34
      apply wp_region_lit
      refine sm _ rfl hk rfl rfl rfl fun a hk => ?_
      obtain ⟨y35, h36, H⟩ := bind_some H
      refine sc rfl en83 hk rfl rfl rfl (impl_isValue_t _ u8 _ h36) ?_
      rintro _ w ⟨rfl, hG⟩ a hk
      have hs := hs.call0 hG
      refine sv (.bool (!y35)) hk rfl rfl rfl fun a hk => ?_
      refine sa _ rfl hk rfl rfl rfl fun a hk => ?_
      show wpList _ _ _ [] _ _
      refine wpList_nil ?_
      refine hK34 _ _ ?_
      rcases cond_some H with ⟨c37, H⟩ | ⟨c37, H⟩
      · have hk := hk.lit 35 c37 rfl
        refine cnd_true hk rfl rfl ?_
        apply wp_seq_k; intro K38 hK38
        apply wp_region_lit
        refine sm _ rfl hk rfl rfl rfl fun a hk => ?_
        refine sa _ rfl hk rfl rfl rfl fun a hk => ?_
        refine sa _ rfl hk rfl rfl rfl fun a hk => ?_
        refine sa _ rfl hk rfl rfl rfl fun a hk => ?_
        show wpList _ _ _ [] _ _
        refine wpList_nil ?_
        refine hK38 _ _ ?_
        refine wp_ret ?_
        obtain rfl := Option.some.inj H
        have hs := hs.addNil 7
        exact fin hk _ [(.slice A0_ l0.length p0_), (.slice none 0 0), (.int .i64 4)] rfl ⟨rfl, ⟨rfl, ⟨rfl, trivial⟩⟩⟩ ⟨A0_, p0_, none, 0, [], _, rfl, (v0_).sub (Sub.l _ (Sub.refl _)), Own.nil _ _, ((hs.addNil 3000).pick [(0, 7), (1, 3000)] rfl).dnil⟩
      · have hk := hk.lit 35 c37 rfl
        refine cnd_false hk rfl rfl ?_
        refine wp_skip ?_
        refine hK30 _ _ ?_
        apply wp_seq_k; intro K39 hK39
        apply wp_region_lit
        refine sm _ rfl hk rfl rfl rfl fun a hk => ?_
        refine sm _ rfl hk rfl rfl rfl fun a hk => ?_
        refine sa _ rfl hk rfl rfl rfl fun a hk => ?_
        refine sa _ rfl hk rfl rfl rfl fun a hk => ?_
        refine sa _ rfl hk rfl rfl rfl fun a hk => ?_
        show wpList _ _ _ [] _ _
        refine wpList_nil ?_
        refine hK39 _ _ ?_
        refine wp_ret ?_
        obtain rfl := Option.some.inj H
        exact fin hk _ [(.slice A27 y24.1.length p28), (.slice A12 u9.length p13), (.int .i64 0)] rfl ⟨rfl, ⟨rfl, ⟨rfl, trivial⟩⟩⟩ ⟨A27, p28, A12, p13, _, _, rfl, (v29).sub (Sub.refl _), o11, (hs.pick [(0, 3), (1, 5)] rfl).dnil⟩

noncomputable def impl_do.f (l0 : List S_Entry) (x1 : S_Op) : Option ((List S_Entry) × (List Int) × Int) :=
  ((impl_find.f l0 x1.Key).bind fun y4 => (((bif y4.2 then (if 0 ≤ y4.1 ∧ y4.1 < (l0.length : Int) then (some ((l0.getD (y4.1).toNat z_Entry).Value)) else none) else (some 0)) : Option (Int)).bind fun u10 => (bif (x1.Kind == 1) then (bif y4.2 then (some (l0, [1, u10], 0)) else (some (l0, [0, 0], 0))) else (bif (x1.Kind == 3) then (bif y4.2 then ((slices_Clone_impl_Entry_impl_Entry.f l0).bind fun y41 => (if (0 ≤ y4.1 ∧ y4.1 ≤ (w64 (y4.1 + 1)) ∧ (w64 (y4.1 + 1)) ≤ (y41.length : Int)) ∧ y41.length ≤ 1073741824 then (some ((delL y41 y4.1.toNat (w64 (y4.1 + 1)).toNat), [1], 0)) else none)) else (some (l0, [0], 0))) else (bif (x1.Kind == 4) then (((bif (!y4.2) then (some true) else (some (u10 != x1.Value))) : Option (Bool)).bind fun u64 => (bif u64 then (some (l0, ([] : List Int), 14)) else (some (l0, ([] : List Int), 0)))) else (bif (x1.Kind == 6) then ((impl_scan.f l0 x1.Key x1.Value).bind fun y76 => (some (l0, y76, 0))) else ((impl_do2.f l0 x1 u10).bind fun y83 => (some (y83.1, y83.2.1, y83.2.2)))))))))
set_option maxRecDepth 100000 in
set_option maxHeartbeats 0 in
theorem impl_do_t (w0 : World) (A0_ : Option Addr) (p0_ : Nat) (l0 : List S_Entry) (k0_ : Chunk) (v0_ : View L_Entry A0_ p0_ l0 k0_) (w0_ : Has w0 k0_) (x1 : S_Op) (r : (List S_Entry) × (List Int) × Int) (H : impl_do.f l0 x1 = some r) :
    Calls Try.prog 68 #[.slice A0_ l0.length p0_, .agg #[.int .i64 x1.Kind, .int .i64 x1.Key, .int .i64 x1.Value]] w0 (Ret (fun v w => ∃ (A0 : Option Addr) (p0 : Nat), ∃ (A1 : Option Addr) (p1 : Nat) (k1 : Chunk), ∃ (kS : Chunk), v = .tuple #[.slice A0 r.1.length p0, .slice A1 r.2.1.length p1, .int .i64 r.2.2] ∧ View L_Entry A0 p0 r.1 (k0_ ++ kS) ∧ Own (Lay.int .i64) 3 A1 p1 r.2.1 k1 ∧ Sat [] w0 w [] [(0, k1), (1, kS)])) := by
  have hs : Sat [] w0 w0 [(1, k0_)] [] := Sat.init w0 [(1, k0_)] [] (by simp only [List.mem_cons, List.not_mem_nil, or_false]; rintro x (rfl) <;> assumption) (by simp) List.nodup_nil (by simp [blks])
  unfold impl_do.f at H
  refine enter Try.func68 rfl Try.ntmps68 rfl fun a hk => ?_
  apply wp_seq_k; intro K1 hK1
  apply wp_region_lit
  refine sbx 2 hs rfl hk rfl rfl rfl rfl fun b2 w a hk hs => ?_
  refine sa _ rfl hk rfl rfl rfl fun a hk => ?_
  refine sa _ rfl hk rfl rfl rfl fun a hk => ?_
  refine sa _ rfl hk rfl rfl rfl fun a hk => ?_
  show wpList _ _ _ [] _ _
  refine wpList_nil ?_
  refine hK1 _ _ ?_
  apply wp_seq_k; intro K3 hK3
  apply wp_region_lit
  refine sm _ rfl hk rfl rfl rfl fun a hk => ?_
  refine sf ⟨b2, 1, none⟩ rfl hk rfl rfl rfl fd31_1 rfl fun a hk => ?_
  refine sl rfl hk rfl rfl rfl ag3 (box_cell hs (k := 2) rfl rfl) fun a hk => ?_
  obtain ⟨y4, h5, H⟩ := bind_some H
  refine sc rfl en82 hk rfl rfl rfl (impl_find_t _ A0_ p0_ l0 _ v0_ (hs.hasD (k := 1) rfl) x1.Key _ h5) ?_
  rintro _ w ⟨rfl, hG⟩ a hk
  have hs := hs.call0 hG
  refine sm _ rfl hk rfl rfl rfl fun a hk => ?_
  refine sv (.int .i64 y4.1) hk rfl rfl rfl fun a hk => ?_
  refine sv (.bool y4.2) hk rfl rfl rfl fun a hk => ?_
  refine sa _ rfl hk rfl rfl rfl fun a hk => ?_
  refine sa _ rfl hk rfl rfl rfl fun a hk => ?_
  show wpList _ _ _ [] _ _
  refine wpList_nil ?_
  refine hK3 _ _ ?_
  apply wp_seq_k; intro K6 hK6
  apply wp_region_lit
  refine sa _ rfl hk rfl rfl rfl fun a hk => ?_
  show wpList _ _ _ [] _ _
  refine wpList_nil ?_
  refine hK6 _ _ ?_
  apply wp_seq_k; intro K7 hK7
  apply wp_seq_k; intro K8 hK8
  apply wp_region_lit
  refine sm _ rfl hk rfl rfl rfl fun a hk => ?_
  show wpList _ _ _ [] _ _
  refine wpList_nil ?_
  refine hK8 _ _ ?_
  obtain ⟨o11, h12, HL13⟩ := bind_some H
  clear H
  obtain ⟨R14, hR14⟩ : ∃ R : Act → World → Prop, R = fun a w => ∃ (u10 : Int), u10 = o11 ∧ Kn [(0, (.slice A0_ l0.length p0_)), (3, (.pointer (some ⟨b2, 0, none⟩))), (7, (.int .i64 y4.1)), (8, (.bool y4.2)), (9, (.int .i64 u10))] 73 a ∧ Sat [] w0 w [(1, k0_)] [(2, [(b2, .cells #[.int .i64 x1.Kind, .int .i64 x1.Key, .int .i64 x1.Value] 31 (0, 0))])] := ⟨_, rfl⟩
  refine wp_cutq R14 ?_ ?_
  · have H := h12
    rcases cond_some H with ⟨c15, H⟩ | ⟨c15, H⟩
    · have hk := hk.lit 17 c15 rfl
      refine cnd_true hk rfl rfl ?_
      apply wp_region_lit
      refine sm _ rfl hk rfl rfl rfl fun a hk => ?_
      refine sm _ rfl hk rfl rfl rfl fun a hk => ?_
      rcases ite_some H with ⟨c16, H⟩ | ⟨_, H⟩
      rotate_left
      · cases H
      obtain ⟨b17, q18, hAc16⟩ := (v0_).some_ y4.1 c16.1 c16.2
      refine si rfl hk rfl rfl rfl rfl un26 sz62 c16.1 c16.2 hAc16 fun a hk => ?_
      refine sf (padd A0_ ((y4.1).toNat * 2 + 1)) rfl hk rfl rfl rfl fd62_1 (padd_add _ _ _) fun a hk => ?_
      obtain ⟨_, rfl, e19⟩ := (v0_).at_ z_Entry y4.1 c16.1 c16.2
      refine sl (v := (.int .i64 ((l0.getD (y4.1).toNat z_Entry).Value))) rfl hk rfl rfl rfl ag3 ((e19 1 _ rfl).cell (hs.hasD (k := 1) rfl)) fun a hk => ?_
      refine sa _ rfl hk rfl rfl rfl fun a hk => ?_
      show wpList _ _ _ [] _ _
      refine wpList_nil ?_
      obtain rfl := Option.some.inj H
      show R14 _ _
      rw [hR14]
      exact ⟨(l0.getD (y4.1).toNat z_Entry).Value, rfl, (hk.c 0 rfl (hk.c 3 rfl (hk.c 7 rfl (hk.c 8 rfl (hk.c 9 rfl hk.k))))), (hs.pick [(2, 2)] rfl)⟩
    · have hk := hk.lit 17 c15 rfl
      refine cnd_false hk rfl rfl ?_
      refine wp_skip ?_
      obtain rfl := Option.some.inj H
      show R14 _ _
      rw [hR14]
      exact ⟨0, rfl, (hk.c 0 rfl (hk.c 3 rfl (hk.c 7 rfl (hk.c 8 rfl (hk.c 9 rfl hk.k))))), (hs.pick [(2, 2)] rfl)⟩
  · intro a w hR0
    rw [hR14] at hR0
    obtain ⟨u10, rfl, hk, hs⟩ := hR0
    have H := HL13
    try dsimp only at H
    refine hK7 _ _ ?_
    apply wp_seq_k; intro K20 hK20
    apply wp_seq_k; intro K21 hK21
    apply wp_region_lit
    refine sf ⟨b2, 0, none⟩ rfl hk rfl rfl rfl fd31_0 rfl fun a hk => ?_
    refine sl rfl hk rfl rfl rfl ag3 (box_cell hs (k := 2) rfl rfl) fun a hk => ?_
    show wpList _ _ _ [] _ _
    refine wpList_nil ?_
    refine hK21 _ _ ?_
    refine wp_block ?_
    apply wp_seq_k; intro K22 hK22
    apply wp_region_lit
    refine sv (.bool (x1.Kind == 1)) hk rfl rfl rfl fun a hk => ?_
    refine sa _ rfl hk rfl rfl rfl fun a hk => ?_
    show wpList _ _ _ [] _ _
    refine wpList_nil ?_
    refine hK22 _ _ ?_
    rcases cond_some H with ⟨c23, H⟩ | ⟨c23, H⟩
    · have hk := hk.lit 25 c23 rfl
      refine cnd_true hk rfl rfl ?_
      apply wp_seq_k; intro K24 hK24
      apply wp_seq_k; intro K25 hK25
      apply wp_region_lit
      refine sm _ rfl hk rfl rfl rfl fun a hk => ?_
      show wpList _ _ _ [] _ _
      refine wpList_nil ?_
      refine hK25 _ _ ?_
      rcases cond_some H with ⟨c26, H⟩ | ⟨c26, H⟩
      · have hk := hk.lit 27 c26 rfl
        refine cnd_true hk rfl rfl ?_
        apply wp_seq_k; intro K27 hK27
        apply wp_region_lit
        refine sm _ rfl hk rfl rfl rfl fun a hk => ?_
        refine sm _ rfl hk rfl rfl rfl fun a hk => ?_
        refine sbs (L := (Lay.int .i64)) (pv := [(0, (.int .i64 1)), (1, (.int .i64 u10))]) (xs := [1, u10]) (ess := [[.int .i64 1], [.int .i64 u10]]) 4 hs rfl hk rfl rfl rfl un27 (bs3_0 1 u10) (AllOwn.cons0 ⟨rfl, rfl⟩ (AllOwn.cons0 ⟨rfl, rfl⟩ AllOwn.nil)) rfl rfl rfl fun b28 k29 w a hk o30 hs => ?_
        refine sa _ rfl hk rfl rfl rfl fun a hk => ?_
        refine sa _ rfl hk rfl rfl rfl fun a hk => ?_
        refine sa _ rfl hk rfl rfl rfl fun a hk => ?_
        show wpList _ _ _ [] _ _
        refine wpList_nil ?_
        refine hK27 _ _ ?_
        refine wp_ret ?_
        obtain rfl := Option.some.inj H
        exact fin hk _ [(.slice A0_ l0.length p0_), (.slice (some ⟨b28, 0, none⟩) 2 2), (.int .i64 0)] rfl ⟨rfl, ⟨rfl, ⟨rfl, trivial⟩⟩⟩ ⟨A0_, p0_, (some ⟨b28, 0, none⟩), 2, _, _, rfl, (v0_).sub (Sub.l _ (Sub.refl _)), o30, ((hs.addNil 3000).pick [(0, 4), (1, 3000)] rfl).dnil⟩
      · have hk := hk.lit 27 c26 rfl
        refine cnd_false hk rfl rfl ?_
        refine wp_skip ?_
        refine hK24 _ _ ?_
        apply wp_seq_k; intro K31 hK31
        apply wp_region_lit
        refine sm _ rfl hk rfl rfl rfl fun a hk => ?_
        refine sbs (L := (Lay.int .i64)) (pv := [(0, (.int .i64 0)), (1, (.int .i64 0))]) (xs := [0, 0]) (ess := [[.int .i64 0], [.int .i64 0]]) 5 hs rfl hk rfl rfl rfl un27 (bs3_0 0 0) (AllOwn.cons0 ⟨rfl, rfl⟩ (AllOwn.cons0 ⟨rfl, rfl⟩ AllOwn.nil)) rfl rfl rfl fun b32 k33 w a hk o34 hs => ?_
        refine sa _ rfl hk rfl rfl rfl fun a hk => ?_
        refine sa _ rfl hk rfl rfl rfl fun a hk => ?_
        refine sa _ rfl hk rfl rfl rfl fun a hk => ?_
        show wpList _ _ _ [] _ _
        refine wpList_nil ?_
        refine hK31 _ _ ?_
        refine wp_ret ?_
        obtain rfl := Option.some.inj H
        exact fin hk _ [(.slice A0_ l0.length p0_), (.slice (some ⟨b32, 0, none⟩) 2 2), (.int .i64 0)] rfl ⟨rfl, ⟨rfl, ⟨rfl, trivial⟩⟩⟩ ⟨A0_, p0_, (some ⟨b32, 0, none⟩), 2, _, _, rfl, (v0_).sub (Sub.l _ (Sub.refl _)), o34, ((hs.addNil 3000).pick [(0, 5), (1, 3000)] rfl).dnil⟩
    · have hk := hk.lit 25 c23 rfl
      refine cnd_false hk rfl rfl ?_
      apply wp_seq_k; intro K35 hK35
      apply wp_region_lit
      refine sv (.bool (x1.Kind == 3)) hk rfl rfl rfl fun a hk => ?_
      refine sa _ rfl hk rfl rfl rfl fun a hk => ?_
      show wpList _ _ _ [] _ _
      refine wpList_nil ?_
      refine hK35 _ _ ?_
      rcases cond_some H with ⟨c36, H⟩ | ⟨c36, H⟩
      · have hk := hk.lit 33 c36 rfl
        refine cnd_true hk rfl rfl ?_
        apply wp_seq_k; intro K37 hK37
        apply wp_seq_k; intro K38 hK38
        apply wp_region_lit
        refine sm _ rfl hk rfl rfl rfl fun a hk => ?_
        show wpList _ _ _ [] _ _
        refine wpList_nil ?_
        refine hK38 _ _ ?_
        rcases cond_some H with ⟨c39, H⟩ | ⟨c39, H⟩
        · have hk := hk.lit 35 c39 rfl
          refine cnd_true hk rfl rfl ?_
          apply wp_seq_k; intro K40 hK40
          apply wp_region_lit
          refine sm _ rfl hk rfl rfl rfl fun a hk => ?_
          obtain ⟨y41, h42, H⟩ := bind_some H
          refine sc rfl en69 hk rfl rfl rfl (slices_Clone_impl_Entry_impl_Entry_t _ A0_ p0_ l0 _ v0_ (hs.hasD (k := 1) rfl) _ h42) ?_
          rintro _ w ⟨A43, p44, k45, rfl, o46, hG⟩ a hk
          have hs := hs.call0k hG [6] rfl
          refine sm _ rfl hk rfl rfl rfl fun a hk => ?_
          refine sm _ rfl hk rfl rfl rfl fun a hk => ?_
          refine sv (.int .i64 (w64 (y4.1 + 1))) hk rfl rfl rfl fun a hk => ?_
          rcases ite_some H with ⟨c47, H⟩ | ⟨_, H⟩
          rotate_left
          · cases H
          refine sc rfl en129 hk rfl rfl rfl (slices_Delete_impl_Entry_impl_Entry_t 6 (xs := y41) hs rfl o46 c47) ?_
          rintro _ w ⟨A48, p49, k50, rfl, o51, hs⟩ a hk
          refine sbs (L := (Lay.int .i64)) (pv := [(0, (.int .i64 1))]) (xs := [1]) (ess := [[.int .i64 1]]) 7 hs rfl hk rfl rfl rfl un27 (bs3_3 1) (AllOwn.cons0 ⟨rfl, rfl⟩ AllOwn.nil) rfl rfl rfl fun b52 k53 w a hk o54 hs => ?_
          refine sa _ rfl hk rfl rfl rfl fun a hk => ?_
          refine sa _ rfl hk rfl rfl rfl fun a hk => ?_
          refine sa _ rfl hk rfl rfl rfl fun a hk => ?_
          show wpList _ _ _ [] _ _
          refine wpList_nil ?_
          refine hK40 _ _ ?_
          refine wp_ret ?_
          obtain rfl := Option.some.inj H
          exact fin hk _ [(.slice A48 (delL y41 y4.1.toNat (w64 (y4.1 + 1)).toNat).length p49), (.slice (some ⟨b52, 0, none⟩) 1 1), (.int .i64 0)] rfl ⟨rfl, ⟨rfl, ⟨rfl, trivial⟩⟩⟩ ⟨A48, p49, (some ⟨b52, 0, none⟩), 1, _, _, rfl, (o51.view).sub (Sub.r _ (Sub.refl _)), o54, (hs.pick [(0, 7), (1, 6)] rfl).dnil⟩
        · have hk := hk.lit 35 c39 rfl
          refine cnd_false hk rfl rfl ?_
          refine wp_skip ?_
          refine hK37 _ _ ?_
          apply wp_seq_k; intro K55 hK55
          apply wp_region_lit
          refine sm _ rfl hk rfl rfl rfl fun a hk => ?_
          refine sbs (L := (Lay.int .i64)) (pv := [(0, (.int .i64 0))]) (xs := [0]) (ess := [[.int .i64 0]]) 8 hs rfl hk rfl rfl rfl un27 (bs3_3 0) (AllOwn.cons0 ⟨rfl, rfl⟩ AllOwn.nil) rfl rfl rfl fun b56 k57 w a hk o58 hs => ?_
          refine sa _ rfl hk rfl rfl rfl fun a hk => ?_
          refine sa _ rfl hk rfl rfl rfl fun a hk => ?_
          refine sa _ rfl hk rfl rfl rfl fun a hk => ?_
          show wpList _ _ _ [] _ _
          refine wpList_nil ?_
          refine hK55 _ _ ?_
          refine wp_ret ?_
          obtain rfl := Option.some.inj H
          exact fin hk _ [(.slice A0_ l0.length p0_), (.slice (some ⟨b56, 0, none⟩) 1 1), (.int .i64 0)] rfl ⟨rfl, ⟨rfl, ⟨rfl, trivial⟩⟩⟩ ⟨A0_, p0_, (some ⟨b56, 0, none⟩), 1, _, _, rfl, (v0_).sub (Sub.l _ (Sub.refl _)), o58, ((hs.addNil 3000).pick [(0, 8), (1, 3000)] rfl).dnil⟩
      · have hk := hk.lit 33 c36 rfl
        refine cnd_false hk rfl rfl ?_
        apply wp_seq_k; intro K59 hK59
        apply wp_region_lit
        refine sv (.bool (x1.Kind == 4)) hk rfl rfl rfl fun a hk => ?_
        refine sa _ rfl hk rfl rfl rfl fun a hk => ?_
        show wpList _ _ _ [] _ _
        refine wpList_nil ?_
        refine hK59 _ _ ?_
        rcases cond_some H with ⟨c60, H⟩ | ⟨c60, H⟩
        · have hk := hk.lit 45 c60 rfl
          refine cnd_true hk rfl rfl ?_
          apply wp_seq_k; intro K61 hK61
          apply wp_seq_k; intro K62 hK62
          obtain ⟨o65, h66, HL67⟩ := bind_some H
          clear H
          obtain ⟨R68, hR68⟩ : ∃ R : Act → World → Prop, R = fun a w => ∃ (u64 : Bool), u64 = o65 ∧ Kn [(0, (.slice A0_ l0.length p0_)), (54, (.bool u64))] 73 a ∧ Sat [] w0 w [(1, k0_)] [] := ⟨_, rfl⟩
          refine wp_cutq R68 ?_ ?_
          · have H := h66
            apply wp_region_lit
            refine sm _ rfl hk rfl rfl rfl fun a hk => ?_
            refine sv (.bool (!y4.2)) hk rfl rfl rfl fun a hk => ?_
            refine sm _ rfl hk rfl rfl rfl fun a hk => ?_
            rcases cond_some H with ⟨c69, H⟩ | ⟨c69, H⟩
            · have hk := hk.lit 49 c69 rfl
              refine sk hk rfl rfl rfl fun a hk => ?_
              refine sk hk rfl rfl rfl fun a hk => ?_
              refine sk hk rfl rfl rfl fun a hk => ?_
              refine sk hk rfl rfl rfl fun a hk => ?_
              refine sv (.bool true) hk rfl rfl rfl fun a hk => ?_
              show wpList _ _ _ [] _ _
              refine wpList_nil ?_
              obtain rfl := Option.some.inj H
              show R68 _ _
              rw [hR68]
              exact ⟨true, rfl, (hk.c 0 rfl (hk.c 54 rfl hk.k)), (hs.pick [] rfl)⟩
            · have hk := hk.lit 49 c69 rfl
              refine sm _ rfl hk rfl rfl rfl fun a hk => ?_
              refine sf ⟨b2, 2, none⟩ rfl hk rfl rfl rfl fd31_2 rfl fun a hk => ?_
              refine sl rfl hk rfl rfl rfl ag3 (box_cell hs (k := 2) rfl rfl) fun a hk => ?_
              refine sv (.bool (u10 != x1.Value)) hk rfl rfl rfl fun a hk => ?_
              refine sv (.bool (u10 != x1.Value)) hk rfl rfl rfl fun a hk => ?_
              show wpList _ _ _ [] _ _
              refine wpList_nil ?_
              obtain rfl := Option.some.inj H
              show R68 _ _
              rw [hR68]
              exact ⟨(u10 != x1.Value), rfl, (hk.c 0 rfl (hk.c 54 rfl hk.k)), (hs.pick [] rfl)⟩
          · intro a w hR0
            rw [hR68] at hR0
            obtain ⟨u64, rfl, hk, hs⟩ := hR0
            have H := HL67
            try dsimp only at H
            refine hK62 _ _ ?_
            rcases cond_some H with ⟨c70, H⟩ | ⟨c70, H⟩
            · have hk := hk.lit 54 c70 rfl
              refine cnd_true hk rfl rfl ?_
              apply wp_seq_k; intro K71 hK71
              apply wp_region_lit
              refine sm _ rfl hk rfl rfl rfl fun a hk => ?_
              refine sa _ rfl hk rfl rfl rfl fun a hk => ?_
              refine sa _ rfl hk rfl rfl rfl fun a hk => ?_
              refine sa _ rfl hk rfl rfl rfl fun a hk => ?_
              show wpList _ _ _ [] _ _
              refine wpList_nil ?_
              refine hK71 _ _ ?_
              refine wp_ret ?_
              obtain rfl := Option.some.inj H
              have hs := hs.addNil 10
              exact fin hk _ [(.slice A0_ l0.length p0_), (.slice none 0 0), (.int .i64 14)] rfl ⟨rfl, ⟨rfl, ⟨rfl, trivial⟩⟩⟩ ⟨A0_, p0_, none, 0, [], _, rfl, (v0_).sub (Sub.l _ (Sub.refl _)), Own.nil _ _, ((hs.addNil 3000).pick [(0, 10), (1, 3000)] rfl).dnil⟩
            · have hk := hk.lit 54 c70 rfl
              refine cnd_false hk rfl rfl ?_
              refine wp_skip ?_
              refine hK61 _ _ ?_
              apply wp_seq_k; intro K72 hK72
              apply wp_region_lit
              refine sm _ rfl hk rfl rfl rfl fun a hk => ?_
              refine sa _ rfl hk rfl rfl rfl fun a hk => ?_
              refine sa _ rfl hk rfl rfl rfl fun a hk => ?_
              refine sa _ rfl hk rfl rfl rfl fun a hk => ?_
              show wpList _ _ _ [] _ _
              refine wpList_nil ?_
              refine hK72 _ _ ?_
              refine wp_ret ?_
              obtain rfl := Option.some.inj H
              have hs := hs.addNil 11
              exact fin hk _ [(.slice A0_ l0.length p0_), (.slice none 0 0), (.int .i64 0)] rfl ⟨rfl, ⟨rfl, ⟨rfl, trivial⟩⟩⟩ ⟨A0_, p0_, none, 0, [], _, rfl, (v0_).sub (Sub.l _ (Sub.refl _)), Own.nil _ _, ((hs.addNil 3000).pick [(0, 11), (1, 3000)] rfl).dnil⟩
        · have hk := hk.lit 45 c60 rfl
          refine cnd_false hk rfl rfl ?_
          apply wp_seq_k; intro K73 hK73
          apply wp_region_lit
          refine sv (.bool (x1.Kind == 6)) hk rfl rfl rfl fun a hk => ?_
          refine sa _ rfl hk rfl rfl rfl fun a hk => ?_
          show wpList _ _ _ [] _ _
          refine wpList_nil ?_
          refine hK73 _ _ ?_
          rcases cond_some H with ⟨c74, H⟩ | ⟨c74, H⟩
          · have hk := hk.lit 57 c74 rfl
            refine cnd_true hk rfl rfl ?_
            apply wp_seq_k; intro K75 hK75
            apply wp_region_lit
            refine sm _ rfl hk rfl rfl rfl fun a hk => ?_
            refine sm _ rfl hk rfl rfl rfl fun a hk => ?_
            refine sf ⟨b2, 1, none⟩ rfl hk rfl rfl rfl fd31_1 rfl fun a hk => ?_
            refine sl rfl hk rfl rfl rfl ag3 (box_cell hs (k := 2) rfl rfl) fun a hk => ?_
            refine sf ⟨b2, 2, none⟩ rfl hk rfl rfl rfl fd31_2 rfl fun a hk => ?_
            refine sl rfl hk rfl rfl rfl ag3 (box_cell hs (k := 2) rfl rfl) fun a hk => ?_
            obtain ⟨y76, h77, H⟩ := bind_some H
            refine sc rfl en130 hk rfl rfl rfl (impl_scan_t _ A0_ p0_ l0 _ v0_ (hs.hasD (k := 1) rfl) x1.Key x1.Value _ h77) ?_
            rintro _ w ⟨A78, p79, k80, rfl, o81, hG⟩ a hk
            have hs := hs.call0k hG [12] rfl
            refine sa _ rfl hk rfl rfl rfl fun a hk => ?_
            refine sa _ rfl hk rfl rfl rfl fun a hk => ?_
            refine sa _ rfl hk rfl rfl rfl fun a hk => ?_
            show wpList _ _ _ [] _ _
            refine wpList_nil ?_
            refine hK75 _ _ ?_
            refine wp_ret ?_
            obtain rfl := Option.some.inj H
            exact fin hk _ [(.slice A0_ l0.length p0_), (.slice A78 y76.length p79), (.int .i64 0)] rfl ⟨rfl, ⟨rfl, ⟨rfl, trivial⟩⟩⟩ ⟨A0_, p0_, A78, p79, _, _, rfl, (v0_).sub (Sub.l _ (Sub.refl _)), o81, ((hs.addNil 3000).pick [(0, 12), (1, 3000)] rfl).dnil⟩
          · have hk := hk.lit 57 c74 rfl
            refine cnd_false hk rfl rfl ?_
            refine wp_skip ?_
            refine hK20 _ _ ?_
            apply wp_seq_k; intro K82 hK82
            apply wp_region_lit
            refine sm _ rfl hk rfl rfl rfl fun a hk => ?_
            refine sln [.int .i64 x1.Kind, .int .i64 x1.Key, .int .i64 x1.Value] rfl hk rfl rfl rfl ag31 sz31 (box_cells hs (k := 2) rfl) fun a hk => ?_
            refine sm _ rfl hk rfl rfl rfl fun a hk => ?_
            obtain ⟨y83, h84, H⟩ := bind_some H
            refine sc rfl en131 hk rfl rfl rfl (impl_do2_t _ A0_ p0_ l0 _ v0_ (hs.hasD (k := 1) rfl) x1 u10 _ h84) ?_
            rintro _ w ⟨A86, p87, A89, p90, k91, k85, rfl, v88, o92, hG⟩ a hk
            have hs := hs.call0k hG [14, 13] rfl
            refine sv (.slice A86 y83.1.length p87) hk rfl rfl rfl fun a hk => ?_
            refine sv (.slice A89 y83.2.1.length p90) hk rfl rfl rfl fun a hk => ?_
            refine sv (.int .i64 y83.2.2) hk rfl rfl rfl fun a hk => ?_
            refine sa _ rfl hk rfl rfl rfl fun a hk => ?_
            refine sa _ rfl hk rfl rfl rfl fun a hk => ?_
            refine sa _ rfl hk rfl rfl rfl fun a hk => ?_
            show wpList _ _ _ [] _ _
            refine wpList_nil ?_
            refine hK82 _ _ ?_
            refine wp_ret ?_
            obtain rfl := Option.some.inj H
            exact fin hk _ [(.slice A86 y83.1.length p87), (.slice A89 y83.2.1.length p90), (.int .i64 y83.2.2)] rfl ⟨rfl, ⟨rfl, ⟨rfl, trivial⟩⟩⟩ ⟨A86, p87, A89, p90, _, _, rfl, (v88).sub (Sub.refl _), o92, (hs.pick [(0, 14), (1, 13)] rfl).dnil⟩

noncomputable def impl_MapDo.f (l0 : List S_Entry) (x1 : S_Op) : Option ((List S_Entry) × (List Int) × Int) :=
  (bif (decide ((l0.length : Int) > 4096)) then (some (([] : List S_Entry), ([] : List Int), 2)) else ((((impl_MapOK.f l0).bind fun y14 => (bif (!y14) then (some true) else ((impl_OpOK.f x1).bind fun y17 => (some (!y17))))) : Option (Bool)).bind fun u9 => (bif u9 then (some (([] : List S_Entry), ([] : List Int), 1)) else ((impl_do.f l0 x1).bind fun y22 => ((slices_Clone_impl_Entry_impl_Entry.f y22.1).bind fun y33 => (some (y33, y22.2.1, y22.2.2)))))))
set_option maxRecDepth 100000 in
set_option maxHeartbeats 0 in
theorem impl_MapDo_t (w0 : World) (A0_ : Option Addr) (p0_ : Nat) (l0 : List S_Entry) (k0_ : Chunk) (v0_ : View L_Entry A0_ p0_ l0 k0_) (w0_ : Has w0 k0_) (x1 : S_Op) (r : (List S_Entry) × (List Int) × Int) (H : impl_MapDo.f l0 x1 = some r) :
    Calls Try.prog 15 #[.slice A0_ l0.length p0_, .agg #[.int .i64 x1.Kind, .int .i64 x1.Key, .int .i64 x1.Value]] w0 (Ret (fun v w => ∃ (A0 : Option Addr) (p0 : Nat) (k0 : Chunk), ∃ (A1 : Option Addr) (p1 : Nat) (k1 : Chunk), v = .tuple #[.slice A0 r.1.length p0, .slice A1 r.2.1.length p1, .int .i64 r.2.2] ∧ Own L_Entry 62 A0 p0 r.1 k0 ∧ Own (Lay.int .i64) 3 A1 p1 r.2.1 k1 ∧ Sat [] w0 w [] [(0, k0), (1, k1)])) := by
  have hs : Sat [] w0 w0 [(1, k0_)] [] := Sat.init w0 [(1, k0_)] [] (by simp only [List.mem_cons, List.not_mem_nil, or_false]; rintro x (rfl) <;> assumption) (by simp) List.nodup_nil (by simp [blks])
  unfold impl_MapDo.f at H
  refine enter Try.func15 rfl Try.ntmps15 rfl fun a hk => ?_
  apply wp_seq_k; intro K1 hK1
  apply wp_region_lit
  refine sbx 2 hs rfl hk rfl rfl rfl rfl fun b2 w a hk hs => ?_
  refine sa _ rfl hk rfl rfl rfl fun a hk => ?_
  refine sa _ rfl hk rfl rfl rfl fun a hk => ?_
  refine sa _ rfl hk rfl rfl rfl fun a hk => ?_
  show wpList _ _ _ [] _ _
  refine wpList_nil ?_
  refine hK1 _ _ ?_
  apply wp_seq_k; intro K3 hK3
  refine wp_block ?_
  apply wp_seq_k; intro K4 hK4
  apply wp_region_lit
  refine sm _ rfl hk rfl rfl rfl fun a hk => ?_
  refine sle rfl hk rfl rfl rfl un26 fun a hk => ?_
  refine sv (.bool (decide ((l0.length : Int) > 4096))) hk rfl rfl rfl fun a hk => ?_
  refine sa _ rfl hk rfl rfl rfl fun a hk => ?_
  show wpList _ _ _ [] _ _
  refine wpList_nil ?_
  refine hK4 _ _ ?_
  rcases cond_some H with ⟨c5, H⟩ | ⟨c5, H⟩
  · have hk := hk.lit 10 c5 rfl
    refine cnd_true hk rfl rfl ?_
    apply wp_seq_k; intro K6 hK6
    apply wp_region_lit
    refine sa _ rfl hk rfl rfl rfl fun a hk => ?_
    refine sa _ rfl hk rfl rfl rfl fun a hk => ?_
    refine sa _ rfl hk rfl rfl rfl fun a hk => ?_
    show wpList _ _ _ [] _ _
    refine wpList_nil ?_
    refine hK6 _ _ ?_
    refine wp_ret ?_
    obtain rfl := Option.some.inj H
    have hs := hs.addNil 3
    have hs := hs.addNil 4
    exact fin hk _ [(.slice none 0 0), (.slice none 0 0), (.int .i64 2)] rfl ⟨rfl, ⟨rfl, ⟨rfl, trivial⟩⟩⟩ ⟨none, 0, [], none, 0, [], rfl, Own.nil _ _, Own.nil _ _, (hs.pick [(0, 3), (1, 4)] rfl).dnil⟩
  · have hk := hk.lit 10 c5 rfl
    refine cnd_false hk rfl rfl ?_
    apply wp_seq_k; intro K7 hK7
    obtain ⟨o10, h11, HL12⟩ := bind_some H
    clear H
    obtain ⟨R13, hR13⟩ : ∃ R : Act → World → Prop, R = fun a w => ∃ (u9 : Bool), u9 = o10 ∧ Kn [(0, (.slice A0_ l0.length p0_)), (3, (.pointer (some ⟨b2, 0, none⟩))), (14, (.bool u9))] 34 a ∧ Sat [] w0 w [(1, k0_)] [(2, [(b2, .cells #[.int .i64 x1.Kind, .int .i64 x1.Key, .int .i64 x1.Value] 31 (0, 0))])] := ⟨_, rfl⟩
    refine wp_cutq R13 ?_ ?_
    · have H := h11
      apply wp_region_lit
      refine sm _ rfl hk rfl rfl rfl fun a hk => ?_
      obtain ⟨y14, h15, H⟩ := bind_some H
      refine sc rfl en36 hk rfl rfl rfl (impl_MapOK_t _ A0_ p0_ l0 _ v0_ (hs.hasD (k := 1) rfl) _ h15) ?_
      rintro _ w ⟨rfl, hG⟩ a hk
      have hs := hs.call0 hG
      refine sv (.bool (!y14)) hk rfl rfl rfl fun a hk => ?_
      refine sm _ rfl hk rfl rfl rfl fun a hk => ?_
      rcases cond_some H with ⟨c16, H⟩ | ⟨c16, H⟩
      · have hk := hk.lit 18 c16 rfl
        refine sk hk rfl rfl rfl fun a hk => ?_
        refine sk hk rfl rfl rfl fun a hk => ?_
        refine sk hk rfl rfl rfl fun a hk => ?_
        refine sv (.bool true) hk rfl rfl rfl fun a hk => ?_
        refine sa _ rfl hk rfl rfl rfl fun a hk => ?_
        show wpList _ _ _ [] _ _
        refine wpList_nil ?_
        obtain rfl := Option.some.inj H
        show R13 _ _
        rw [hR13]
        exact ⟨true, rfl, (hk.c 0 rfl (hk.c 3 rfl (hk.c 14 rfl hk.k))), (hs.pick [(2, 2)] rfl)⟩
      · have hk := hk.lit 18 c16 rfl
        refine sln [.int .i64 x1.Kind, .int .i64 x1.Key, .int .i64 x1.Value] rfl hk rfl rfl rfl ag31 sz31 (box_cells hs (k := 2) rfl) fun a hk => ?_
        obtain ⟨y17, h18, H⟩ := bind_some H
        refine sc rfl en67 hk rfl rfl rfl (impl_OpOK_t _ x1 _ h18) ?_
        rintro _ w ⟨rfl, hG⟩ a hk
        have hs := hs.call0 hG
        refine sv (.bool (!y17)) hk rfl rfl rfl fun a hk => ?_
        refine sv (.bool (!y17)) hk rfl rfl rfl fun a hk => ?_
        refine sa _ rfl hk rfl rfl rfl fun a hk => ?_
        show wpList _ _ _ [] _ _
        refine wpList_nil ?_
        obtain rfl := Option.some.inj H
        show R13 _ _
        rw [hR13]
        exact ⟨(!y17), rfl, (hk.c 0 rfl (hk.c 3 rfl (hk.c 14 rfl hk.k))), (hs.pick [(2, 2)] rfl)⟩
    · intro a w hR0
      rw [hR13] at hR0
      obtain ⟨u9, rfl, hk, hs⟩ := hR0
      have H := HL12
      try dsimp only at H
      refine hK7 _ _ ?_
      rcases cond_some H with ⟨c19, H⟩ | ⟨c19, H⟩
      · have hk := hk.lit 14 c19 rfl
        refine cnd_true hk rfl rfl ?_
        apply wp_seq_k; intro K20 hK20
        apply wp_region_lit
        refine sa _ rfl hk rfl rfl rfl fun a hk => ?_
        refine sa _ rfl hk rfl rfl rfl fun a hk => ?_
        refine sa _ rfl hk rfl rfl rfl fun a hk => ?_
        show wpList _ _ _ [] _ _
        refine wpList_nil ?_
        refine hK20 _ _ ?_
        refine wp_ret ?_
        obtain rfl := Option.some.inj H
        have hs := hs.addNil 6
        have hs := hs.addNil 7
        exact fin hk _ [(.slice none 0 0), (.slice none 0 0), (.int .i64 1)] rfl ⟨rfl, ⟨rfl, ⟨rfl, trivial⟩⟩⟩ ⟨none, 0, [], none, 0, [], rfl, Own.nil _ _, Own.nil _ _, (hs.pick [(0, 6), (1, 7)] rfl).dnil⟩
      · have hk := hk.lit 14 c19 rfl
        refine cnd_false hk rfl rfl ?_
        refine wp_skip ?_
        refine hK3 _ _ ?_
        apply wp_seq_k; intro K21 hK21
        apply wp_region_lit
        refine sm _ rfl hk rfl rfl rfl fun a hk => ?_
        refine sln [.int .i64 x1.Kind, .int .i64 x1.Key, .int .i64 x1.Value] rfl hk rfl rfl rfl ag31 sz31 (box_cells hs (k := 2) rfl) fun a hk => ?_
        obtain ⟨y22, h23, H⟩ := bind_some H
        refine sc rfl en68 hk rfl rfl rfl (impl_do_t _ A0_ p0_ l0 _ v0_ (hs.hasD (k := 1) rfl) x1 _ h23) ?_
        rintro _ w ⟨A25, p26, A28, p29, k30, k24, rfl, v27, o31, hG⟩ a hk
        have hs := hs.call0k hG [9, 8] rfl
        refine sm _ rfl hk rfl rfl rfl fun a hk => ?_
        refine sv (.slice A25 y22.1.length p26) hk rfl rfl rfl fun a hk => ?_
        refine sv (.slice A28 y22.2.1.length p29) hk rfl rfl rfl fun a hk => ?_
        refine sv (.int .i64 y22.2.2) hk rfl rfl rfl fun a hk => ?_
        refine sa _ rfl hk rfl rfl rfl fun a hk => ?_
        refine sa _ rfl hk rfl rfl rfl fun a hk => ?_
        refine sa _ rfl hk rfl rfl rfl fun a hk => ?_
        show wpList _ _ _ [] _ _
        refine wpList_nil ?_
        refine hK21 _ _ ?_
        apply wp_seq_k; intro K32 hK32
        apply wp_region_lit
        refine sm _ rfl hk rfl rfl rfl fun a hk => ?_
        obtain ⟨y33, h34, H⟩ := bind_some H
        refine sc rfl en69 hk rfl rfl rfl (slices_Clone_impl_Entry_impl_Entry_t _ A25 p26 y22.1 _ v27 (Has.app (hs.hasD (k := 1) rfl) (hs.hasG (k := 8) rfl)) _ h34) ?_
        rintro _ w ⟨A35, p36, k37, rfl, o38, hG⟩ a hk
        have hs := hs.call0k hG [10] rfl
        refine sm _ rfl hk rfl rfl rfl fun a hk => ?_
        refine sm _ rfl hk rfl rfl rfl fun a hk => ?_
        refine sa _ rfl hk rfl rfl rfl fun a hk => ?_
        refine sa _ rfl hk rfl rfl rfl fun a hk => ?_
        refine sa _ rfl hk rfl rfl rfl fun a hk => ?_
        show wpList _ _ _ [] _ _
        refine wpList_nil ?_
        refine hK32 _ _ ?_
        refine wp_ret ?_
        obtain rfl := Option.some.inj H
        exact fin hk _ [(.slice A35 y33.length p36), (.slice A28 y22.2.1.length p29), (.int .i64 y22.2.2)] rfl ⟨rfl, ⟨rfl, ⟨rfl, trivial⟩⟩⟩ ⟨A35, p36, _, A28, p29, _, rfl, o38, o31, (hs.pick [(0, 10), (1, 9)] rfl).dnil⟩

noncomputable def spec_l00Source.f (l0 : List Int) : Option (S_l00Src) :=
  (some (⟨l0, 0, (Int.tmod (l0.length : Int) 1000)⟩ : S_l00Src))
set_option maxRecDepth 100000 in
set_option maxHeartbeats 0 in
theorem spec_l00Source_t (w0 : World) (A0_ : Option Addr) (p0_ : Nat) (l0 : List Int) (k0_ : Chunk) (v0_ : View (Lay.int .u8) A0_ p0_ l0 k0_) (w0_ : Has w0 k0_) (r : S_l00Src) (H : spec_l00Source.f l0 = some r) :
    Calls Try.prog 79 #[.slice A0_ l0.length p0_] w0 (Ret (fun v w => ∃ (bb0 : Nat), ∃ (A0 : Option Addr) (p0 : Nat), ∃ (kS : Chunk), v = .pointer (some ⟨bb0, 0, none⟩) ∧ View (Lay.int .u8) A0 p0 r.code (k0_ ++ kS) ∧ Sat [] w0 w [] [(0, [(bb0, .cells #[.slice A0 r.code.length p0, .int .i64 r.at_, .int .i64 r.seed] 159 (0, 0))]), (1, kS)])) := by
  have hs : Sat [] w0 w0 [(1, k0_)] [] := Sat.init w0 [(1, k0_)] [] (by simp only [List.mem_cons, List.not_mem_nil, or_false]; rintro x (rfl) <;> assumption) (by simp) List.nodup_nil (by simp [blks])
  unfold spec_l00Source.f at H
  refine enter Try.func79 rfl Try.ntmps79 rfl fun a hk => ?_
  apply wp_seq_k; intro K1 hK1
  apply wp_region_lit
  refine sa _ rfl hk rfl rfl rfl fun a hk => ?_
  show wpList _ _ _ [] _ _
  refine wpList_nil ?_
  refine hK1 _ _ ?_
  apply wp_seq_k; intro K2 hK2
  apply wp_region_lit
  refine sm _ rfl hk rfl rfl rfl fun a hk => ?_
  refine sm _ rfl hk rfl rfl rfl fun a hk => ?_
  refine sle rfl hk rfl rfl rfl un55 fun a hk => ?_
  refine sv (.int .i64 (Int.tmod (l0.length : Int) 1000)) hk rfl rfl rfl fun a hk => ?_
  refine sbd (pv := [(0, (.slice A0_ l0.length p0_)), (2, (.int .i64 (Int.tmod (l0.length : Int) 1000)))]) rfl hk rfl rfl rfl (bd159_4 A0_ l0.length p0_ (Int.tmod (l0.length : Int) 1000)) fun a hk => ?_
  refine sbx 2 hs rfl hk rfl rfl rfl rfl fun b3 w a hk hs => ?_
  refine sa _ rfl hk rfl rfl rfl fun a hk => ?_
  show wpList _ _ _ [] _ _
  refine wpList_nil ?_
  refine hK2 _ _ ?_
  refine wp_ret ?_
  obtain rfl := Option.some.inj H
  exact fin hk _ [(.pointer (some ⟨b3, 0, none⟩))] rfl ⟨rfl, trivial⟩ ⟨b3, A0_, p0_, _, rfl, (v0_).sub (Sub.l _ (Sub.refl _)), ((hs.addNil 3000).pick [(0, 2), (1, 3000)] rfl).dnil⟩

noncomputable def spec_l00Src_byte.f (x0 : S_l00Src) : Option (Int × Int × Int) :=
  (bif (decide ((w64 (x0.at_ + 1)) ≤ (x0.code.length : Int))) then (if 0 ≤ (w64 ((w64 (x0.at_ + 1)) - 1)) ∧ (w64 ((w64 (x0.at_ + 1)) - 1)) < (x0.code.length : Int) then (if 0 ≤ (w64 ((w64 (x0.at_ + 1)) - 1)) ∧ (w64 ((w64 (x0.at_ + 1)) - 1)) < (x0.code.length : Int) then (some ((IntKind.wrap .i64 (x0.code.getD (w64 ((w64 (x0.at_ + 1)) - 1)).toNat 0)), (w64 (x0.at_ + 1)), (Int.tmod (w64 ((w64 ((w64 (x0.seed * 31)) + (IntKind.wrap .i64 (x0.code.getD (w64 ((w64 (x0.at_ + 1)) - 1)).toNat 0)))) + 7)) 2147483648))) else none) else none) else (bif (decide ((w64 (x0.at_ + 1)) > 3000)) then (some (0, (w64 (x0.at_ + 1)), x0.seed)) else (some ((Int.tmod (IntKind.wrap .i64 (Int.tdiv (Int.tmod (w64 ((w64 (x0.seed * 1103515245)) + 12345)) 2147483648) 65536)) 256), (w64 (x0.at_ + 1)), (Int.tmod (w64 ((w64 (x0.seed * 1103515245)) + 12345)) 2147483648)))))
set_option maxRecDepth 100000 in
set_option maxHeartbeats 0 in
theorem spec_l00Src_byte_t (w0 : World) (b0_ : Nat) (x0 : S_l00Src) (A0_0 : Option Addr) (p0_0 : Nat) (k0_0 : Chunk) (v0_0 : View (Lay.int .u8) A0_0 p0_0 x0.code k0_0) (w0_0 : Has w0 k0_0) (hs0 : Sat (blks [(1, [(b0_, .cells #[.slice A0_0 x0.code.length p0_0, .int .i64 x0.at_, .int .i64 x0.seed] 159 (0, 0))])]) w0 w0 [(2, k0_0)] [(1, [(b0_, .cells #[.slice A0_0 x0.code.length p0_0, .int .i64 x0.at_, .int .i64 x0.seed] 159 (0, 0))])]) (r : Int × Int × Int) (H : spec_l00Src_byte.f x0 = some r) :
    Calls Try.prog 170 #[.pointer (some ⟨b0_, 0, none⟩)] w0 (Ret (fun v w => v = .int .i64 r.1 ∧ Sat (blks [(1, [(b0_, .cells #[.slice A0_0 x0.code.length p0_0, .int .i64 x0.at_, .int .i64 x0.seed] 159 (0, 0))])]) w0 w [] [(0, [(b0_, .cells #[.slice A0_0 x0.code.length p0_0, .int .i64 r.2.1, .int .i64 r.2.2] 159 (0, 0))])])) := by
  have hs := hs0
  unfold spec_l00Src_byte.f at H
  refine enter Try.func170 rfl Try.ntmps170 rfl fun a hk => ?_
  apply wp_seq_k; intro K1 hK1
  apply wp_region_lit
  refine sa _ rfl hk rfl rfl rfl fun a hk => ?_
  show wpList _ _ _ [] _ _
  refine wpList_nil ?_
  refine hK1 _ _ ?_
  apply wp_seq_k; intro K2 hK2
  apply wp_region_lit
  refine sm _ rfl hk rfl rfl rfl fun a hk => ?_
  refine snk rfl hk rfl rfl rfl fun a hk => ?_
  refine sf ⟨b0_, 1, none⟩ rfl hk rfl rfl rfl fd159_1 rfl fun a hk => ?_
  refine sl rfl hk rfl rfl rfl ag3 (box_cell hs (k := 1) rfl rfl) fun a hk => ?_
  refine sv (.int .i64 (w64 (x0.at_ + 1))) hk rfl rfl rfl fun a hk => ?_
  refine snk rfl hk rfl rfl rfl fun a hk => ?_
  refine sf ⟨b0_, 1, none⟩ rfl hk rfl rfl rfl fd159_1 rfl fun a hk => ?_
  refine ssx (cs' := #[.slice A0_0 x0.code.length p0_0, .int .i64 (w64 (x0.at_ + 1)), .int .i64 x0.seed]) 1 hs rfl rfl hk rfl rfl rfl rfl sz3 rfl rfl rfl rfl fun w a hk hs => ?_
  show wpList _ _ _ [] _ _
  refine wpList_nil ?_
  refine hK2 _ _ ?_
  apply wp_seq_k; intro K3 hK3
  apply wp_seq_k; intro K4 hK4
  refine wp_region_tree (.q 0 (.q 1 (.q 2 (.q 3 (.alt 4 (.alt 5 (.alt 6 (.alt 7 (.alt 8 (.alt 9 .done .stop) .stop) .stop) .stop) .stop) .stop))))) mo (by kernel_rfl) (hs.pick [(1, 1)] rfl) fun _ => ?_
  have hs := hs.drew
  refine tqst (.pointer (some ⟨b0_, 0, none⟩)) hk rfl rfl rfl rfl (fun w hs => sm _ rfl hk rfl rfl rfl fun a hk => qe hk) fun a hk => ?_
  refine tqst (.pointer (some ⟨b0_, 0, none⟩)) hk rfl rfl rfl rfl (fun w hs => snk rfl hk rfl rfl rfl fun a hk => qe hk) fun a hk => ?_
  refine tqst (.pointer (some ⟨b0_, 1, none⟩)) hk rfl rfl rfl rfl (fun w hs => sf ⟨b0_, 1, none⟩ rfl hk rfl rfl rfl fd159_1 rfl fun a hk => qe hk) fun a hk => ?_
  refine tqst (.int .i64 (w64 (x0.at_ + 1))) hk rfl rfl rfl rfl (fun w hs => sl rfl hk rfl rfl rfl ag3 (box_cell hs (k := 1) rfl rfl) fun a hk => qe hk) fun a hk => ?_
  refine tsst hk rfl rfl (fun K_r5_4 hK_r5_4 w hF => ?_) wt_stop
  have hs := hs.f hF
  refine sm _ rfl hk rfl rfl rfl fun a hk => ?_
  refine se (hs.pick [(1, 1)] rfl) hk (hK_r5_4 _ _ ?_)
  refine tsst hk rfl rfl (fun K_r5_5 hK_r5_5 w hF => ?_) wt_stop
  have hs := hs.f hF
  refine snk rfl hk rfl rfl rfl fun a hk => ?_
  refine se (hs.pick [(1, 1)] rfl) hk (hK_r5_5 _ _ ?_)
  refine tsst hk rfl rfl (fun K_r5_6 hK_r5_6 w hF => ?_) wt_stop
  have hs := hs.f hF
  refine sf ⟨b0_, 0, none⟩ rfl hk rfl rfl rfl fd159_0 rfl fun a hk => ?_
  refine se (hs.pick [(1, 1)] rfl) hk (hK_r5_6 _ _ ?_)
  refine tsst hk rfl rfl (fun K_r5_7 hK_r5_7 w hF => ?_) wt_stop
  have hs := hs.f hF
  refine sl rfl hk rfl rfl rfl ag55 (box_cell hs (k := 1) rfl rfl) fun a hk => ?_
  refine se (hs.pick [(1, 1)] rfl) hk (hK_r5_7 _ _ ?_)
  refine tsst hk rfl rfl (fun K_r5_8 hK_r5_8 w hF => ?_) wt_stop
  have hs := hs.f hF
  refine sle rfl hk rfl rfl rfl un55 fun a hk => ?_
  refine se (hs.pick [(1, 1)] rfl) hk (hK_r5_8 _ _ ?_)
  refine tsst hk rfl rfl (fun K_r5_9 hK_r5_9 w hF => ?_) wt_stop
  have hs := hs.f hF
  refine sv (.bool (decide ((w64 (x0.at_ + 1)) ≤ (x0.code.length : Int)))) hk rfl rfl rfl fun a hk => ?_
  refine se (hs.pick [(1, 1)] rfl) hk (hK_r5_9 _ _ ?_)
  refine wtl_nil fun w hF _ => ?_
  have hs := hs.f hF
  refine hK4 _ _ ?_
  rcases cond_some H with ⟨c6, H⟩ | ⟨c6, H⟩
  · have hk := hk.lit 19 c6 rfl
    refine cnd_true hk rfl rfl ?_
    apply wp_seq_k; intro K7 hK7
    rcases ite_some H with ⟨c_r8_15_1, H⟩ | ⟨_, H⟩
    rotate_left
    · cases H
    obtain ⟨R9, hR9⟩ : ∃ R : Act → World → Prop, R = fun a w => Kn [(0, (.pointer (some ⟨b0_, 0, none⟩)))] 76 a ∧ Sat (blks [(1, [(b0_, .cells #[.slice A0_0 x0.code.length p0_0, .int .i64 x0.at_, .int .i64 x0.seed] 159 (0, 0))])]) w0 w [(2, k0_0)] [(1, [(b0_, .cells #[.slice A0_0 x0.code.length p0_0, .int .i64 (w64 (x0.at_ + 1)), .int .i64 (Int.tmod (w64 ((w64 ((w64 (x0.seed * 31)) + (IntKind.wrap .i64 (x0.code.getD (w64 ((w64 (x0.at_ + 1)) - 1)).toNat 0)))) + 7)) 2147483648)] 159 (0, 0))])] := ⟨_, rfl⟩
    refine wp_cutq R9 ?_ ?_
    · skip
      refine wp_region_tree (.q 0 (.q 1 (.q 2 (.q 3 (.q 6 (.q 7 (.q 8 (.q 10 (.q 11 (.q 12 (.alt 4 (.q 5 (.alt 9 (.alt 13 (.alt 14 (.alt 15 (.alt 16 (.alt 17 (.alt 18 (.alt 19 (.alt 20 (.alt 21 (.alt 22 (.alt 23 .done .stop) .stop) .stop) .stop) .stop) .stop) .stop) .stop) .stop) .stop) .stop) (.alt 13 (.q 14 (.alt 9 (.alt 15 (.alt 16 (.alt 17 (.alt 18 (.alt 19 (.alt 20 (.alt 21 (.alt 22 (.alt 23 .done .stop) .stop) .stop) .stop) .stop) .stop) .stop) .stop) .stop) .stop)) .stop))) (.alt 9 (.alt 4 (.q 5 (.alt 13 (.alt 14 (.alt 15 (.alt 16 (.alt 17 (.alt 18 (.alt 19 (.alt 20 (.alt 21 (.alt 22 (.alt 23 .done .stop) .stop) .stop) .stop) .stop) .stop) .stop) .stop) .stop) .stop) .stop)) (.alt 13 (.q 14 (.q 15 (.q 16 (.q 17 (.alt 4 (.alt 5 (.alt 18 (.alt 19 (.alt 20 (.alt 21 (.alt 22 (.alt 23 .done .stop) .stop) .stop) .stop) .stop) .stop) .stop) .stop))))) .stop)) (.alt 13 (.q 14 (.alt 4 (.q 5 (.alt 9 (.alt 15 (.alt 16 (.alt 17 (.alt 18 (.alt 19 (.alt 20 (.alt 21 (.alt 22 (.alt 23 .done .stop) .stop) .stop) .stop) .stop) .stop) .stop) .stop) .stop) .stop)) (.alt 9 (.q 15 (.q 16 (.q 17 (.alt 4 (.alt 5 (.alt 18 (.alt 19 (.alt 20 (.alt 21 (.alt 22 (.alt 23 .done .stop) .stop) .stop) .stop) .stop) .stop) .stop) .stop)))) .stop))) .stop))))))))))))) mo (by kernel_rfl) (hs.pick [] rfl) fun _ => ?_
      have hs := hs.drew
      refine tqst (.pointer (some ⟨b0_, 0, none⟩)) hk rfl rfl rfl rfl (fun w hs => sm _ rfl hk rfl rfl rfl fun a hk => qe hk) fun a hk => ?_
      refine tqst (.pointer (some ⟨b0_, 0, none⟩)) hk rfl rfl rfl rfl (fun w hs => sm _ rfl hk rfl rfl rfl fun a hk => qe hk) fun a hk => ?_
      refine tqst (.pointer (some ⟨b0_, 0, none⟩)) hk rfl rfl rfl rfl (fun w hs => snk rfl hk rfl rfl rfl fun a hk => qe hk) fun a hk => ?_
      refine tqst (.pointer (some ⟨b0_, 2, none⟩)) hk rfl rfl rfl rfl (fun w hs => sf ⟨b0_, 2, none⟩ rfl hk rfl rfl rfl fd159_2 rfl fun a hk => qe hk) fun a hk => ?_
      refine tqst (.pointer (some ⟨b0_, 0, none⟩)) hk rfl rfl rfl rfl (fun w hs => sm _ rfl hk rfl rfl rfl fun a hk => qe hk) fun a hk => ?_
      refine tqst (.pointer (some ⟨b0_, 0, none⟩)) hk rfl rfl rfl rfl (fun w hs => snk rfl hk rfl rfl rfl fun a hk => qe hk) fun a hk => ?_
      refine tqst (.pointer (some ⟨b0_, 0, none⟩)) hk rfl rfl rfl rfl (fun w hs => sf ⟨b0_, 0, none⟩ rfl hk rfl rfl rfl fd159_0 rfl fun a hk => qe hk) fun a hk => ?_
      refine tqst (.pointer (some ⟨b0_, 0, none⟩)) hk rfl rfl rfl rfl (fun w hs => sm _ rfl hk rfl rfl rfl fun a hk => qe hk) fun a hk => ?_
      refine tqst (.pointer (some ⟨b0_, 0, none⟩)) hk rfl rfl rfl rfl (fun w hs => snk rfl hk rfl rfl rfl fun a hk => qe hk) fun a hk => ?_
      refine tqst (.pointer (some ⟨b0_, 1, none⟩)) hk rfl rfl rfl rfl (fun w hs => sf ⟨b0_, 1, none⟩ rfl hk rfl rfl rfl fd159_1 rfl fun a hk => qe hk) fun a hk => ?_
      refine tsst hk rfl rfl (fun K_r8_4 hK_r8_4 w hF => ?_) ?_
      · skip
        have hs := hs.f hF
        refine sl rfl hk rfl rfl rfl ag3 (box_cell hs (k := 1) rfl rfl) fun a hk => ?_
        refine se (hs.pick [] rfl) hk (hK_r8_4 _ _ ?_)
        refine tqst (.int .i64 (w64 (x0.seed * 31))) hk rfl rfl rfl rfl (fun w hs => sv (.int .i64 (w64 (x0.seed * 31))) hk rfl rfl rfl fun a hk => qe hk) fun a hk => ?_
        refine tsst hk rfl rfl (fun K_r8_9 hK_r8_9 w hF => ?_) ?_
        · skip
          have hs := hs.f hF
          refine sl rfl hk rfl rfl rfl ag55 (box_cell hs (k := 1) rfl rfl) fun a hk => ?_
          refine se (hs.pick [] rfl) hk (hK_r8_9 _ _ ?_)
          refine tsst hk rfl rfl (fun K_r8_13 hK_r8_13 w hF => ?_) wt_stop
          have hs := hs.f hF
          refine sl rfl hk rfl rfl rfl ag3 (box_cell hs (k := 1) rfl rfl) fun a hk => ?_
          refine se (hs.pick [] rfl) hk (hK_r8_13 _ _ ?_)
          refine tsst hk rfl rfl (fun K_r8_14 hK_r8_14 w hF => ?_) wt_stop
          have hs := hs.f hF
          refine sv (.int .i64 (w64 ((w64 (x0.at_ + 1)) - 1))) hk rfl rfl rfl fun a hk => ?_
          refine se (hs.pick [] rfl) hk (hK_r8_14 _ _ ?_)
          refine tsst hk rfl rfl (fun K_r8_15 hK_r8_15 w hF => ?_) wt_stop
          have hs := hs.f hF
          obtain ⟨b_r8_15_2, q_r8_15_3, hAc_r8_15_1⟩ := (v0_0).some_ (w64 ((w64 (x0.at_ + 1)) - 1)) c_r8_15_1.1 c_r8_15_1.2
          refine si rfl hk rfl rfl rfl rfl un55 sz5 c_r8_15_1.1 c_r8_15_1.2 hAc_r8_15_1 fun a hk => ?_
          refine se (hs.pick [] rfl) hk (hK_r8_15 _ _ ?_)
          refine tsst hk rfl rfl (fun K_r8_16 hK_r8_16 w hF => ?_) wt_stop
          have hs := hs.f hF
          obtain ⟨_, rfl, e_r8_16_1⟩ := (v0_0).at_ 0 (w64 ((w64 (x0.at_ + 1)) - 1)) c_r8_15_1.1 c_r8_15_1.2
          refine sl (v := (.int .u8 (x0.code.getD (w64 ((w64 (x0.at_ + 1)) - 1)).toNat 0))) rfl hk rfl rfl rfl ag5 ((e_r8_16_1 0 _ rfl).cell (hs.hasD (k := 2) rfl)) fun a hk => ?_
          refine se (hs.pick [] rfl) hk (hK_r8_16 _ _ ?_)
          refine tsst hk rfl rfl (fun K_r8_17 hK_r8_17 w hF => ?_) wt_stop
          have hs := hs.f hF
          refine scn rfl hk rfl rfl rfl un3 un5 fun a hk => ?_
          refine se (hs.pick [] rfl) hk (hK_r8_17 _ _ ?_)
          refine tsst hk rfl rfl (fun K_r8_18 hK_r8_18 w hF => ?_) wt_stop
          have hs := hs.f hF
          refine sv (.int .i64 (w64 ((w64 (x0.seed * 31)) + (IntKind.wrap .i64 (x0.code.getD (w64 ((w64 (x0.at_ + 1)) - 1)).toNat 0))))) hk rfl rfl rfl fun a hk => ?_
          refine se (hs.pick [] rfl) hk (hK_r8_18 _ _ ?_)
          refine tsst hk rfl rfl (fun K_r8_19 hK_r8_19 w hF => ?_) wt_stop
          have hs := hs.f hF
          refine sv (.int .i64 (w64 ((w64 ((w64 (x0.seed * 31)) + (IntKind.wrap .i64 (x0.code.getD (w64 ((w64 (x0.at_ + 1)) - 1)).toNat 0)))) + 7))) hk rfl rfl rfl fun a hk => ?_
          refine se (hs.pick [] rfl) hk (hK_r8_19 _ _ ?_)
          refine tsst hk rfl rfl (fun K_r8_20 hK_r8_20 w hF => ?_) wt_stop
          have hs := hs.f hF
          refine sv (.int .i64 (Int.tmod (w64 ((w64 ((w64 (x0.seed * 31)) + (IntKind.wrap .i64 (x0.code.getD (w64 ((w64 (x0.at_ + 1)) - 1)).toNat 0)))) + 7)) 2147483648)) hk rfl rfl rfl fun a hk => ?_
          refine se (hs.pick [] rfl) hk (hK_r8_20 _ _ ?_)
          refine tsst hk rfl rfl (fun K_r8_21 hK_r8_21 w hF => ?_) wt_stop
          have hs := hs.f hF
          refine snk rfl hk rfl rfl rfl fun a hk => ?_
          refine se (hs.pick [] rfl) hk (hK_r8_21 _ _ ?_)
          refine tsst hk rfl rfl (fun K_r8_22 hK_r8_22 w hF => ?_) wt_stop
          have hs := hs.f hF
          refine sf ⟨b0_, 2, none⟩ rfl hk rfl rfl rfl fd159_2 rfl fun a hk => ?_
          refine se (hs.pick [] rfl) hk (hK_r8_22 _ _ ?_)
          refine tsst hk rfl rfl (fun K_r8_23 hK_r8_23 w hF => ?_) wt_stop
          have hs := hs.f hF
          refine ssx (cs' := #[.slice A0_0 x0.code.length p0_0, .int .i64 (w64 (x0.at_ + 1)), .int .i64 (Int.tmod (w64 ((w64 ((w64 (x0.seed * 31)) + (IntKind.wrap .i64 (x0.code.getD (w64 ((w64 (x0.at_ + 1)) - 1)).toNat 0)))) + 7)) 2147483648)]) 1 hs rfl rfl hk rfl rfl rfl rfl sz3 rfl rfl rfl rfl fun w a hk hs => ?_
          refine se (hs.pick [] rfl) hk (hK_r8_23 _ _ ?_)
          refine wtl_nil fun w hF _ => ?_
          have hs := hs.f hF
          show R9 _ _
          rw [hR9]
          exact ⟨(hk.c 0 rfl hk.k), (hs.pick [(1, 1)] rfl)⟩
        refine tsst hk rfl rfl (fun K_r8_13 hK_r8_13 w hF => ?_) wt_stop
        have hs := hs.f hF
        refine sl rfl hk rfl rfl rfl ag3 (box_cell hs (k := 1) rfl rfl) fun a hk => ?_
        refine se (hs.pick [] rfl) hk (hK_r8_13 _ _ ?_)
        refine tqst (.int .i64 (w64 ((w64 (x0.at_ + 1)) - 1))) hk rfl rfl rfl rfl (fun w hs => sv (.int .i64 (w64 ((w64 (x0.at_ + 1)) - 1))) hk rfl rfl rfl fun a hk => qe hk) fun a hk => ?_
        refine tsst hk rfl rfl (fun K_r8_9 hK_r8_9 w hF => ?_) wt_stop
        have hs := hs.f hF
        refine sl rfl hk rfl rfl rfl ag55 (box_cell hs (k := 1) rfl rfl) fun a hk => ?_
        refine se (hs.pick [] rfl) hk (hK_r8_9 _ _ ?_)
        refine tsst hk rfl rfl (fun K_r8_15 hK_r8_15 w hF => ?_) wt_stop
        have hs := hs.f hF
        obtain ⟨b_r8_15_2, q_r8_15_3, hAc_r8_15_1⟩ := (v0_0).some_ (w64 ((w64 (x0.at_ + 1)) - 1)) c_r8_15_1.1 c_r8_15_1.2
        refine si rfl hk rfl rfl rfl rfl un55 sz5 c_r8_15_1.1 c_r8_15_1.2 hAc_r8_15_1 fun a hk => ?_
        refine se (hs.pick [] rfl) hk (hK_r8_15 _ _ ?_)
        refine tsst hk rfl rfl (fun K_r8_16 hK_r8_16 w hF => ?_) wt_stop
        have hs := hs.f hF
        obtain ⟨_, rfl, e_r8_16_1⟩ := (v0_0).at_ 0 (w64 ((w64 (x0.at_ + 1)) - 1)) c_r8_15_1.1 c_r8_15_1.2
        refine sl (v := (.int .u8 (x0.code.getD (w64 ((w64 (x0.at_ + 1)) - 1)).toNat 0))) rfl hk rfl rfl rfl ag5 ((e_r8_16_1 0 _ rfl).cell (hs.hasD (k := 2) rfl)) fun a hk => ?_
        refine se (hs.pick [] rfl) hk (hK_r8_16 _ _ ?_)
        refine tsst hk rfl rfl (fun K_r8_17 hK_r8_17 w hF => ?_) wt_stop
        have hs := hs.f hF
        refine scn rfl hk rfl rfl rfl un3 un5 fun a hk => ?_
        refine se (hs.pick [] rfl) hk (hK_r8_17 _ _ ?_)
        refine tsst hk rfl rfl (fun K_r8_18 hK_r8_18 w hF => ?_) wt_stop
        have hs := hs.f hF
        refine sv (.int .i64 (w64 ((w64 (x0.seed * 31)) + (IntKind.wrap .i64 (x0.code.getD (w64 ((w64 (x0.at_ + 1)) - 1)).toNat 0))))) hk rfl rfl rfl fun a hk => ?_
        refine se (hs.pick [] rfl) hk (hK_r8_18 _ _ ?_)
        refine tsst hk rfl rfl (fun K_r8_19 hK_r8_19 w hF => ?_) wt_stop
        have hs := hs.f hF
        refine sv (.int .i64 (w64 ((w64 ((w64 (x0.seed * 31)) + (IntKind.wrap .i64 (x0.code.getD (w64 ((w64 (x0.at_ + 1)) - 1)).toNat 0)))) + 7))) hk rfl rfl rfl fun a hk => ?_
        refine se (hs.pick [] rfl) hk (hK_r8_19 _ _ ?_)
        refine tsst hk rfl rfl (fun K_r8_20 hK_r8_20 w hF => ?_) wt_stop
        have hs := hs.f hF
        refine sv (.int .i64 (Int.tmod (w64 ((w64 ((w64 (x0.seed * 31)) + (IntKind.wrap .i64 (x0.code.getD (w64 ((w64 (x0.at_ + 1)) - 1)).toNat 0)))) + 7)) 2147483648)) hk rfl rfl rfl fun a hk => ?_
        refine se (hs.pick [] rfl) hk (hK_r8_20 _ _ ?_)
        refine tsst hk rfl rfl (fun K_r8_21 hK_r8_21 w hF => ?_) wt_stop
        have hs := hs.f hF
        refine snk rfl hk rfl rfl rfl fun a hk => ?_
        refine se (hs.pick [] rfl) hk (hK_r8_21 _ _ ?_)
        refine tsst hk rfl rfl (fun K_r8_22 hK_r8_22 w hF => ?_) wt_stop
        have hs := hs.f hF
        refine sf ⟨b0_, 2, none⟩ rfl hk rfl rfl rfl fd159_2 rfl fun a hk => ?_
        refine se (hs.pick [] rfl) hk (hK_r8_22 _ _ ?_)
        refine tsst hk rfl rfl (fun K_r8_23 hK_r8_23 w hF => ?_) wt_stop
        have hs := hs.f hF
        refine ssx (cs' := #[.slice A0_0 x0.code.length p0_0, .int .i64 (w64 (x0.at_ + 1)), .int .i64 (Int.tmod (w64 ((w64 ((w64 (x0.seed * 31)) + (IntKind.wrap .i64 (x0.code.getD (w64 ((w64 (x0.at_ + 1)) - 1)).toNat 0)))) + 7)) 2147483648)]) 1 hs rfl rfl hk rfl rfl rfl rfl sz3 rfl rfl rfl rfl fun w a hk hs => ?_
        refine se (hs.pick [] rfl) hk (hK_r8_23 _ _ ?_)
        refine wtl_nil fun w hF _ => ?_
        have hs := hs.f hF
        show R9 _ _
        rw [hR9]
        exact ⟨(hk.c 0 rfl hk.k), (hs.pick [(1, 1)] rfl)⟩
      refine tsst hk rfl rfl (fun K_r8_9 hK_r8_9 w hF => ?_) ?_
      · skip
        have hs := hs.f hF
        refine sl rfl hk rfl rfl rfl ag55 (box_cell hs (k := 1) rfl rfl) fun a hk => ?_
        refine se (hs.pick [] rfl) hk (hK_r8_9 _ _ ?_)
        refine tsst hk rfl rfl (fun K_r8_4 hK_r8_4 w hF => ?_) ?_
        · skip
          have hs := hs.f hF
          refine sl rfl hk rfl rfl rfl ag3 (box_cell hs (k := 1) rfl rfl) fun a hk => ?_
          refine se (hs.pick [] rfl) hk (hK_r8_4 _ _ ?_)
          refine tqst (.int .i64 (w64 (x0.seed * 31))) hk rfl rfl rfl rfl (fun w hs => sv (.int .i64 (w64 (x0.seed * 31))) hk rfl rfl rfl fun a hk => qe hk) fun a hk => ?_
          refine tsst hk rfl rfl (fun K_r8_13 hK_r8_13 w hF => ?_) wt_stop
          have hs := hs.f hF
          refine sl rfl hk rfl rfl rfl ag3 (box_cell hs (k := 1) rfl rfl) fun a hk => ?_
          refine se (hs.pick [] rfl) hk (hK_r8_13 _ _ ?_)
          refine tsst hk rfl rfl (fun K_r8_14 hK_r8_14 w hF => ?_) wt_stop
          have hs := hs.f hF
          refine sv (.int .i64 (w64 ((w64 (x0.at_ + 1)) - 1))) hk rfl rfl rfl fun a hk => ?_
          refine se (hs.pick [] rfl) hk (hK_r8_14 _ _ ?_)
          refine tsst hk rfl rfl (fun K_r8_15 hK_r8_15 w hF => ?_) wt_stop
          have hs := hs.f hF
          obtain ⟨b_r8_15_2, q_r8_15_3, hAc_r8_15_1⟩ := (v0_0).some_ (w64 ((w64 (x0.at_ + 1)) - 1)) c_r8_15_1.1 c_r8_15_1.2
          refine si rfl hk rfl rfl rfl rfl un55 sz5 c_r8_15_1.1 c_r8_15_1.2 hAc_r8_15_1 fun a hk => ?_
          refine se (hs.pick [] rfl) hk (hK_r8_15 _ _ ?_)
          refine tsst hk rfl rfl (fun K_r8_16 hK_r8_16 w hF => ?_) wt_stop
          have hs := hs.f hF
          obtain ⟨_, rfl, e_r8_16_1⟩ := (v0_0).at_ 0 (w64 ((w64 (x0.at_ + 1)) - 1)) c_r8_15_1.1 c_r8_15_1.2
          refine sl (v := (.int .u8 (x0.code.getD (w64 ((w64 (x0.at_ + 1)) - 1)).toNat 0))) rfl hk rfl rfl rfl ag5 ((e_r8_16_1 0 _ rfl).cell (hs.hasD (k := 2) rfl)) fun a hk => ?_
          refine se (hs.pick [] rfl) hk (hK_r8_16 _ _ ?_)
          refine tsst hk rfl rfl (fun K_r8_17 hK_r8_17 w hF => ?_) wt_stop
          have hs := hs.f hF
          refine scn rfl hk rfl rfl rfl un3 un5 fun a hk => ?_
          refine se (hs.pick [] rfl) hk (hK_r8_17 _ _ ?_)
          refine tsst hk rfl rfl (fun K_r8_18 hK_r8_18 w hF => ?_) wt_stop
          have hs := hs.f hF
          refine sv (.int .i64 (w64 ((w64 (x0.seed * 31)) + (IntKind.wrap .i64 (x0.code.getD (w64 ((w64 (x0.at_ + 1)) - 1)).toNat 0))))) hk rfl rfl rfl fun a hk => ?_
          refine se (hs.pick [] rfl) hk (hK_r8_18 _ _ ?_)
          refine tsst hk rfl rfl (fun K_r8_19 hK_r8_19 w hF => ?_) wt_stop
          have hs := hs.f hF
          refine sv (.int .i64 (w64 ((w64 ((w64 (x0.seed * 31)) + (IntKind.wrap .i64 (x0.code.getD (w64 ((w64 (x0.at_ + 1)) - 1)).toNat 0)))) + 7))) hk rfl rfl rfl fun a hk => ?_
          refine se (hs.pick [] rfl) hk (hK_r8_19 _ _ ?_)
          refine tsst hk rfl rfl (fun K_r8_20 hK_r8_20 w hF => ?_) wt_stop
          have hs := hs.f hF
          refine sv (.int .i64 (Int.tmod (w64 ((w64 ((w64 (x0.seed * 31)) + (IntKind.wrap .i64 (x0.code.getD (w64 ((w64 (x0.at_ + 1)) - 1)).toNat 0)))) + 7)) 2147483648)) hk rfl rfl rfl fun a hk => ?_
          refine se (hs.pick [] rfl) hk (hK_r8_20 _ _ ?_)
          refine tsst hk rfl rfl (fun K_r8_21 hK_r8_21 w hF => ?_) wt_stop
          have hs := hs.f hF
          refine snk rfl hk rfl rfl rfl fun a hk => ?_
          refine se (hs.pick [] rfl) hk (hK_r8_21 _ _ ?_)
          refine tsst hk rfl rfl (fun K_r8_22 hK_r8_22 w hF => ?_) wt_stop
          have hs := hs.f hF
          refine sf ⟨b0_, 2, none⟩ rfl hk rfl rfl rfl fd159_2 rfl fun a hk => ?_
          refine se (hs.pick [] rfl) hk (hK_r8_22 _ _ ?_)
          refine tsst hk rfl rfl (fun K_r8_23 hK_r8_23 w hF => ?_) wt_stop
          have hs := hs.f hF
          refine ssx (cs' := #[.slice A0_0 x0.code.length p0_0, .int .i64 (w64 (x0.at_ + 1)), .int .i64 (Int.tmod (w64 ((w64 ((w64 (x0.seed * 31)) + (IntKind.wrap .i64 (x0.code.getD (w64 ((w64 (x0.at_ + 1)) - 1)).toNat 0)))) + 7)) 2147483648)]) 1 hs rfl rfl hk rfl rfl rfl rfl sz3 rfl rfl rfl rfl fun w a hk hs => ?_
          refine se (hs.pick [] rfl) hk (hK_r8_23 _ _ ?_)
          refine wtl_nil fun w hF _ => ?_
          have hs := hs.f hF
          show R9 _ _
          rw [hR9]
          exact ⟨(hk.c 0 rfl hk.k), (hs.pick [(1, 1)] rfl)⟩
        refine tsst hk rfl rfl (fun K_r8_13 hK_r8_13 w hF => ?_) wt_stop
        have hs := hs.f hF
        refine sl rfl hk rfl rfl rfl ag3 (box_cell hs (k := 1) rfl rfl) fun a hk => ?_
        refine se (hs.pick [] rfl) hk (hK_r8_13 _ _ ?_)
        refine tqst (.int .i64 (w64 ((w64 (x0.at_ + 1)) - 1))) hk rfl rfl rfl rfl (fun w hs => sv (.int .i64 (w64 ((w64 (x0.at_ + 1)) - 1))) hk rfl rfl rfl fun a hk => qe hk) fun a hk => ?_
        obtain ⟨b_r8_15_2, q_r8_15_3, hAc_r8_15_1⟩ := (v0_0).some_ (w64 ((w64 (x0.at_ + 1)) - 1)) c_r8_15_1.1 c_r8_15_1.2
        refine tqst (.pointer (some (padd A0_0 ((w64 ((w64 (x0.at_ + 1)) - 1)).toNat * 1)))) hk rfl rfl rfl rfl (fun w hs => si rfl hk rfl rfl rfl rfl un55 sz5 c_r8_15_1.1 c_r8_15_1.2 hAc_r8_15_1 fun a hk => qe hk) fun a hk => ?_
        obtain ⟨_, rfl, e_r8_16_1⟩ := (v0_0).at_ 0 (w64 ((w64 (x0.at_ + 1)) - 1)) c_r8_15_1.1 c_r8_15_1.2
        refine tqst (.int .u8 (x0.code.getD (w64 ((w64 (x0.at_ + 1)) - 1)).toNat 0)) hk rfl rfl rfl rfl (fun w hs => sl (v := (.int .u8 (x0.code.getD (w64 ((w64 (x0.at_ + 1)) - 1)).toNat 0))) rfl hk rfl rfl rfl ag5 ((e_r8_16_1 0 _ rfl).cell (hs.hasD (k := 2) rfl)) fun a hk => qe hk) fun a hk => ?_
        refine tqst (.int .i64 (IntKind.wrap .i64 (x0.code.getD (w64 ((w64 (x0.at_ + 1)) - 1)).toNat 0))) hk rfl rfl rfl rfl (fun w hs => scn rfl hk rfl rfl rfl un3 un5 fun a hk => qe hk) fun a hk => ?_
        refine tsst hk rfl rfl (fun K_r8_4 hK_r8_4 w hF => ?_) wt_stop
        have hs := hs.f hF
        refine sl rfl hk rfl rfl rfl ag3 (box_cell hs (k := 1) rfl rfl) fun a hk => ?_
        refine se (hs.pick [] rfl) hk (hK_r8_4 _ _ ?_)
        refine tsst hk rfl rfl (fun K_r8_5 hK_r8_5 w hF => ?_) wt_stop
        have hs := hs.f hF
        refine sv (.int .i64 (w64 (x0.seed * 31))) hk rfl rfl rfl fun a hk => ?_
        refine se (hs.pick [] rfl) hk (hK_r8_5 _ _ ?_)
        refine tsst hk rfl rfl (fun K_r8_18 hK_r8_18 w hF => ?_) wt_stop
        have hs := hs.f hF
        refine sv (.int .i64 (w64 ((w64 (x0.seed * 31)) + (IntKind.wrap .i64 (x0.code.getD (w64 ((w64 (x0.at_ + 1)) - 1)).toNat 0))))) hk rfl rfl rfl fun a hk => ?_
        refine se (hs.pick [] rfl) hk (hK_r8_18 _ _ ?_)
        refine tsst hk rfl rfl (fun K_r8_19 hK_r8_19 w hF => ?_) wt_stop
        have hs := hs.f hF
        refine sv (.int .i64 (w64 ((w64 ((w64 (x0.seed * 31)) + (IntKind.wrap .i64 (x0.code.getD (w64 ((w64 (x0.at_ + 1)) - 1)).toNat 0)))) + 7))) hk rfl rfl rfl fun a hk => ?_
        refine se (hs.pick [] rfl) hk (hK_r8_19 _ _ ?_)
        refine tsst hk rfl rfl (fun K_r8_20 hK_r8_20 w hF => ?_) wt_stop
        have hs := hs.f hF
        refine sv (.int .i64 (Int.tmod (w64 ((w64 ((w64 (x0.seed * 31)) + (IntKind.wrap .i64 (x0.code.getD (w64 ((w64 (x0.at_ + 1)) - 1)).toNat 0)))) + 7)) 2147483648)) hk rfl rfl rfl fun a hk => ?_
        refine se (hs.pick [] rfl) hk (hK_r8_20 _ _ ?_)
        refine tsst hk rfl rfl (fun K_r8_21 hK_r8_21 w hF => ?_) wt_stop
        have hs := hs.f hF
        refine snk rfl hk rfl rfl rfl fun a hk => ?_
        refine se (hs.pick [] rfl) hk (hK_r8_21 _ _ ?_)
        refine tsst hk rfl rfl (fun K_r8_22 hK_r8_22 w hF => ?_) wt_stop
        have hs := hs.f hF
        refine sf ⟨b0_, 2, none⟩ rfl hk rfl rfl rfl fd159_2 rfl fun a hk => ?_
        refine se (hs.pick [] rfl) hk (hK_r8_22 _ _ ?_)
        refine tsst hk rfl rfl (fun K_r8_23 hK_r8_23 w hF => ?_) wt_stop
        have hs := hs.f hF
        refine ssx (cs' := #[.slice A0_0 x0.code.length p0_0, .int .i64 (w64 (x0.at_ + 1)), .int .i64 (Int.tmod (w64 ((w64 ((w64 (x0.seed * 31)) + (IntKind.wrap .i64 (x0.code.getD (w64 ((w64 (x0.at_ + 1)) - 1)).toNat 0)))) + 7)) 2147483648)]) 1 hs rfl rfl hk rfl rfl rfl rfl sz3 rfl rfl rfl rfl fun w a hk hs => ?_
        refine se (hs.pick [] rfl) hk (hK_r8_23 _ _ ?_)
        refine wtl_nil fun w hF _ => ?_
        have hs := hs.f hF
        show R9 _ _
        rw [hR9]
        exact ⟨(hk.c 0 rfl hk.k), (hs.pick [(1, 1)] rfl)⟩
      refine tsst hk rfl rfl (fun K_r8_13 hK_r8_13 w hF => ?_) wt_stop
      have hs := hs.f hF
      refine sl rfl hk rfl rfl rfl ag3 (box_cell hs (k := 1) rfl rfl) fun a hk => ?_
      refine se (hs.pick [] rfl) hk (hK_r8_13 _ _ ?_)
      refine tqst (.int .i64 (w64 ((w64 (x0.at_ + 1)) - 1))) hk rfl rfl rfl rfl (fun w hs => sv (.int .i64 (w64 ((w64 (x0.at_ + 1)) - 1))) hk rfl rfl rfl fun a hk => qe hk) fun a hk => ?_
      refine tsst hk rfl rfl (fun K_r8_4 hK_r8_4 w hF => ?_) ?_
      · skip
        have hs := hs.f hF
        refine sl rfl hk rfl rfl rfl ag3 (box_cell hs (k := 1) rfl rfl) fun a hk => ?_
        refine se (hs.pick [] rfl) hk (hK_r8_4 _ _ ?_)
        refine tqst (.int .i64 (w64 (x0.seed * 31))) hk rfl rfl rfl rfl (fun w hs => sv (.int .i64 (w64 (x0.seed * 31))) hk rfl rfl rfl fun a hk => qe hk) fun a hk => ?_
        refine tsst hk rfl rfl (fun K_r8_9 hK_r8_9 w hF => ?_) wt_stop
        have hs := hs.f hF
        refine sl rfl hk rfl rfl rfl ag55 (box_cell hs (k := 1) rfl rfl) fun a hk => ?_
        refine se (hs.pick [] rfl) hk (hK_r8_9 _ _ ?_)
        refine tsst hk rfl rfl (fun K_r8_15 hK_r8_15 w hF => ?_) wt_stop
        have hs := hs.f hF
        obtain ⟨b_r8_15_2, q_r8_15_3, hAc_r8_15_1⟩ := (v0_0).some_ (w64 ((w64 (x0.at_ + 1)) - 1)) c_r8_15_1.1 c_r8_15_1.2
        refine si rfl hk rfl rfl rfl rfl un55 sz5 c_r8_15_1.1 c_r8_15_1.2 hAc_r8_15_1 fun a hk => ?_
        refine se (hs.pick [] rfl) hk (hK_r8_15 _ _ ?_)
        refine tsst hk rfl rfl (fun K_r8_16 hK_r8_16 w hF => ?_) wt_stop
        have hs := hs.f hF
        obtain ⟨_, rfl, e_r8_16_1⟩ := (v0_0).at_ 0 (w64 ((w64 (x0.at_ + 1)) - 1)) c_r8_15_1.1 c_r8_15_1.2
        refine sl (v := (.int .u8 (x0.code.getD (w64 ((w64 (x0.at_ + 1)) - 1)).toNat 0))) rfl hk rfl rfl rfl ag5 ((e_r8_16_1 0 _ rfl).cell (hs.hasD (k := 2) rfl)) fun a hk => ?_
        refine se (hs.pick [] rfl) hk (hK_r8_16 _ _ ?_)
        refine tsst hk rfl rfl (fun K_r8_17 hK_r8_17 w hF => ?_) wt_stop
        have hs := hs.f hF
        refine scn rfl hk rfl rfl rfl un3 un5 fun a hk => ?_
        refine se (hs.pick [] rfl) hk (hK_r8_17 _ _ ?_)
        refine tsst hk rfl rfl (fun K_r8_18 hK_r8_18 w hF => ?_) wt_stop
        have hs := hs.f hF
        refine sv (.int .i64 (w64 ((w64 (x0.seed * 31)) + (IntKind.wrap .i64 (x0.code.getD (w64 ((w64 (x0.at_ + 1)) - 1)).toNat 0))))) hk rfl rfl rfl fun a hk => ?_
        refine se (hs.pick [] rfl) hk (hK_r8_18 _ _ ?_)
        refine tsst hk rfl rfl (fun K_r8_19 hK_r8_19 w hF => ?_) wt_stop
        have hs := hs.f hF
        refine sv (.int .i64 (w64 ((w64 ((w64 (x0.seed * 31)) + (IntKind.wrap .i64 (x0.code.getD (w64 ((w64 (x0.at_ + 1)) - 1)).toNat 0)))) + 7))) hk rfl rfl rfl fun a hk => ?_
        refine se (hs.pick [] rfl) hk (hK_r8_19 _ _ ?_)
        refine tsst hk rfl rfl (fun K_r8_20 hK_r8_20 w hF => ?_) wt_stop
        have hs := hs.f hF
        refine sv (.int .i64 (Int.tmod (w64 ((w64 ((w64 (x0.seed * 31)) + (IntKind.wrap .i64 (x0.code.getD (w64 ((w64 (x0.at_ + 1)) - 1)).toNat 0)))) + 7)) 2147483648)) hk rfl rfl rfl fun a hk => ?_
        refine se (hs.pick [] rfl) hk (hK_r8_20 _ _ ?_)
        refine tsst hk rfl rfl (fun K_r8_21 hK_r8_21 w hF => ?_) wt_stop
        have hs := hs.f hF
        refine snk rfl hk rfl rfl rfl fun a hk => ?_
        refine se (hs.pick [] rfl) hk (hK_r8_21 _ _ ?_)
        refine tsst hk rfl rfl (fun K_r8_22 hK_r8_22 w hF => ?_) wt_stop
        have hs := hs.f hF
        refine sf ⟨b0_, 2, none⟩ rfl hk rfl rfl rfl fd159_2 rfl fun a hk => ?_
        refine se (hs.pick [] rfl) hk (hK_r8_22 _ _ ?_)
        refine tsst hk rfl rfl (fun K_r8_23 hK_r8_23 w hF => ?_) wt_stop
        have hs := hs.f hF
        refine ssx (cs' := #[.slice A0_0 x0.code.length p0_0, .int .i64 (w64 (x0.at_ + 1)), .int .i64 (Int.tmod (w64 ((w64 ((w64 (x0.seed * 31)) + (IntKind.wrap .i64 (x0.code.getD (w64 ((w64 (x0.at_ + 1)) - 1)).toNat 0)))) + 7)) 2147483648)]) 1 hs rfl rfl hk rfl rfl rfl rfl sz3 rfl rfl rfl rfl fun w a hk hs => ?_
        refine se (hs.pick [] rfl) hk (hK_r8_23 _ _ ?_)
        refine wtl_nil fun w hF _ => ?_
        have hs := hs.f hF
        show R9 _ _
        rw [hR9]
        exact ⟨(hk.c 0 rfl hk.k), (hs.pick [(1, 1)] rfl)⟩
      refine tsst hk rfl rfl (fun K_r8_9 hK_r8_9 w hF => ?_) wt_stop
      have hs := hs.f hF
      refine sl rfl hk rfl rfl rfl ag55 (box_cell hs (k := 1) rfl rfl) fun a hk => ?_
      refine se (hs.pick [] rfl) hk (hK_r8_9 _ _ ?_)
      obtain ⟨b_r8_15_2, q_r8_15_3, hAc_r8_15_1⟩ := (v0_0).some_ (w64 ((w64 (x0.at_ + 1)) - 1)) c_r8_15_1.1 c_r8_15_1.2
      refine tqst (.pointer (some (padd A0_0 ((w64 ((w64 (x0.at_ + 1)) - 1)).toNat * 1)))) hk rfl rfl rfl rfl (fun w hs => si rfl hk rfl rfl rfl rfl un55 sz5 c_r8_15_1.1 c_r8_15_1.2 hAc_r8_15_1 fun a hk => qe hk) fun a hk => ?_
      obtain ⟨_, rfl, e_r8_16_1⟩ := (v0_0).at_ 0 (w64 ((w64 (x0.at_ + 1)) - 1)) c_r8_15_1.1 c_r8_15_1.2
      refine tqst (.int .u8 (x0.code.getD (w64 ((w64 (x0.at_ + 1)) - 1)).toNat 0)) hk rfl rfl rfl rfl (fun w hs => sl (v := (.int .u8 (x0.code.getD (w64 ((w64 (x0.at_ + 1)) - 1)).toNat 0))) rfl hk rfl rfl rfl ag5 ((e_r8_16_1 0 _ rfl).cell (hs.hasD (k := 2) rfl)) fun a hk => qe hk) fun a hk => ?_
      refine tqst (.int .i64 (IntKind.wrap .i64 (x0.code.getD (w64 ((w64 (x0.at_ + 1)) - 1)).toNat 0))) hk rfl rfl rfl rfl (fun w hs => scn rfl hk rfl rfl rfl un3 un5 fun a hk => qe hk) fun a hk => ?_
      refine tsst hk rfl rfl (fun K_r8_4 hK_r8_4 w hF => ?_) wt_stop
      have hs := hs.f hF
      refine sl rfl hk rfl rfl rfl ag3 (box_cell hs (k := 1) rfl rfl) fun a hk => ?_
      refine se (hs.pick [] rfl) hk (hK_r8_4 _ _ ?_)
      refine tsst hk rfl rfl (fun K_r8_5 hK_r8_5 w hF => ?_) wt_stop
      have hs := hs.f hF
      refine sv (.int .i64 (w64 (x0.seed * 31))) hk rfl rfl rfl fun a hk => ?_
      refine se (hs.pick [] rfl) hk (hK_r8_5 _ _ ?_)
      refine tsst hk rfl rfl (fun K_r8_18 hK_r8_18 w hF => ?_) wt_stop
      have hs := hs.f hF
      refine sv (.int .i64 (w64 ((w64 (x0.seed * 31)) + (IntKind.wrap .i64 (x0.code.getD (w64 ((w64 (x0.at_ + 1)) - 1)).toNat 0))))) hk rfl rfl rfl fun a hk => ?_
      refine se (hs.pick [] rfl) hk (hK_r8_18 _ _ ?_)
      refine tsst hk rfl rfl (fun K_r8_19 hK_r8_19 w hF => ?_) wt_stop
      have hs := hs.f hF
      refine sv (.int .i64 (w64 ((w64 ((w64 (x0.seed * 31)) + (IntKind.wrap .i64 (x0.code.getD (w64 ((w64 (x0.at_ + 1)) - 1)).toNat 0)))) + 7))) hk rfl rfl rfl fun a hk => ?_
      refine se (hs.pick [] rfl) hk (hK_r8_19 _ _ ?_)
      refine tsst hk rfl rfl (fun K_r8_20 hK_r8_20 w hF => ?_) wt_stop
      have hs := hs.f hF
      refine sv (.int .i64 (Int.tmod (w64 ((w64 ((w64 (x0.seed * 31)) + (IntKind.wrap .i64 (x0.code.getD (w64 ((w64 (x0.at_ + 1)) - 1)).toNat 0)))) + 7)) 2147483648)) hk rfl rfl rfl fun a hk => ?_
      refine se (hs.pick [] rfl) hk (hK_r8_20 _ _ ?_)
      refine tsst hk rfl rfl (fun K_r8_21 hK_r8_21 w hF => ?_) wt_stop
      have hs := hs.f hF
      refine snk rfl hk rfl rfl rfl fun a hk => ?_
      refine se (hs.pick [] rfl) hk (hK_r8_21 _ _ ?_)
      refine tsst hk rfl rfl (fun K_r8_22 hK_r8_22 w hF => ?_) wt_stop
      have hs := hs.f hF
      refine sf ⟨b0_, 2, none⟩ rfl hk rfl rfl rfl fd159_2 rfl fun a hk => ?_
      refine se (hs.pick [] rfl) hk (hK_r8_22 _ _ ?_)
      refine tsst hk rfl rfl (fun K_r8_23 hK_r8_23 w hF => ?_) wt_stop
      have hs := hs.f hF
      refine ssx (cs' := #[.slice A0_0 x0.code.length p0_0, .int .i64 (w64 (x0.at_ + 1)), .int .i64 (Int.tmod (w64 ((w64 ((w64 (x0.seed * 31)) + (IntKind.wrap .i64 (x0.code.getD (w64 ((w64 (x0.at_ + 1)) - 1)).toNat 0)))) + 7)) 2147483648)]) 1 hs rfl rfl hk rfl rfl rfl rfl sz3 rfl rfl rfl rfl fun w a hk hs => ?_
      refine se (hs.pick [] rfl) hk (hK_r8_23 _ _ ?_)
      refine wtl_nil fun w hF _ => ?_
      have hs := hs.f hF
      show R9 _ _
      rw [hR9]
      exact ⟨(hk.c 0 rfl hk.k), (hs.pick [(1, 1)] rfl)⟩
    · intro a w hR0
      rw [hR9] at hR0
      obtain ⟨hk, hs⟩ := hR0
      refine hK7 _ _ ?_
      apply wp_seq_k; intro K10 hK10
      refine wp_region_tree (.q 0 (.q 1 (.q 2 (.q 3 (.alt 4 (.alt 5 (.alt 6 (.alt 7 (.alt 8 (.alt 9 (.alt 10 (.alt 11 (.last 12) .stop) .stop) .stop) .stop) .stop) .stop) .stop) .stop))))) mo (by kernel_rfl) (hs.pick [(1, 1)] rfl) fun _ => ?_
      have hs := hs.drew
      refine tqst (.pointer (some ⟨b0_, 0, none⟩)) hk rfl rfl rfl rfl (fun w hs => sm _ rfl hk rfl rfl rfl fun a hk => qe hk) fun a hk => ?_
      refine tqst (.pointer (some ⟨b0_, 0, none⟩)) hk rfl rfl rfl rfl (fun w hs => snk rfl hk rfl rfl rfl fun a hk => qe hk) fun a hk => ?_
      refine tqst (.pointer (some ⟨b0_, 0, none⟩)) hk rfl rfl rfl rfl (fun w hs => sf ⟨b0_, 0, none⟩ rfl hk rfl rfl rfl fd159_0 rfl fun a hk => qe hk) fun a hk => ?_
      refine tqst (.slice A0_0 x0.code.length p0_0) hk rfl rfl rfl rfl (fun w hs => sl rfl hk rfl rfl rfl ag55 (box_cell hs (k := 1) rfl rfl) fun a hk => qe hk) fun a hk => ?_
      refine tsst hk rfl rfl (fun K_r11_4 hK_r11_4 w hF => ?_) wt_stop
      have hs := hs.f hF
      refine sm _ rfl hk rfl rfl rfl fun a hk => ?_
      refine se (hs.pick [(1, 1)] rfl) hk (hK_r11_4 _ _ ?_)
      refine tsst hk rfl rfl (fun K_r11_5 hK_r11_5 w hF => ?_) wt_stop
      have hs := hs.f hF
      refine snk rfl hk rfl rfl rfl fun a hk => ?_
      refine se (hs.pick [(1, 1)] rfl) hk (hK_r11_5 _ _ ?_)
      refine tsst hk rfl rfl (fun K_r11_6 hK_r11_6 w hF => ?_) wt_stop
      have hs := hs.f hF
      refine sf ⟨b0_, 1, none⟩ rfl hk rfl rfl rfl fd159_1 rfl fun a hk => ?_
      refine se (hs.pick [(1, 1)] rfl) hk (hK_r11_6 _ _ ?_)
      refine tsst hk rfl rfl (fun K_r11_7 hK_r11_7 w hF => ?_) wt_stop
      have hs := hs.f hF
      refine sl rfl hk rfl rfl rfl ag3 (box_cell hs (k := 1) rfl rfl) fun a hk => ?_
      refine se (hs.pick [(1, 1)] rfl) hk (hK_r11_7 _ _ ?_)
      refine tsst hk rfl rfl (fun K_r11_8 hK_r11_8 w hF => ?_) wt_stop
      have hs := hs.f hF
      refine sv (.int .i64 (w64 ((w64 (x0.at_ + 1)) - 1))) hk rfl rfl rfl fun a hk => ?_
      refine se (hs.pick [(1, 1)] rfl) hk (hK_r11_8 _ _ ?_)
      refine tsst hk rfl rfl (fun K_r11_9 hK_r11_9 w hF => ?_) wt_stop
      have hs := hs.f hF
      rcases ite_some H with ⟨c12, H⟩ | ⟨_, H⟩
      rotate_left
      · cases H
      obtain ⟨b13, q14, hAc12⟩ := (v0_0).some_ (w64 ((w64 (x0.at_ + 1)) - 1)) c12.1 c12.2
      refine si rfl hk rfl rfl rfl rfl un55 sz5 c12.1 c12.2 hAc12 fun a hk => ?_
      refine se (hs.pick [(1, 1)] rfl) hk (hK_r11_9 _ _ ?_)
      refine tsst hk rfl rfl (fun K_r11_10 hK_r11_10 w hF => ?_) wt_stop
      have hs := hs.f hF
      obtain ⟨_, rfl, e15⟩ := (v0_0).at_ 0 (w64 ((w64 (x0.at_ + 1)) - 1)) c12.1 c12.2
      refine sl (v := (.int .u8 (x0.code.getD (w64 ((w64 (x0.at_ + 1)) - 1)).toNat 0))) rfl hk rfl rfl rfl ag5 ((e15 0 _ rfl).cell (hs.hasD (k := 2) rfl)) fun a hk => ?_
      refine se (hs.pick [(1, 1)] rfl) hk (hK_r11_10 _ _ ?_)
      refine tsst hk rfl rfl (fun K_r11_11 hK_r11_11 w hF => ?_) wt_stop
      have hs := hs.f hF
      refine scn rfl hk rfl rfl rfl un3 un5 fun a hk => ?_
      refine se (hs.pick [(1, 1)] rfl) hk (hK_r11_11 _ _ ?_)
      refine tlst hk rfl rfl fun K_r11_12 hK_r11_12 w hF => ?_
      have hs := hs.f hF
      refine sa _ rfl hk rfl rfl rfl fun a hk => ?_
      refine se trivial hk (hK_r11_12 _ _ fun w hF => ?_)
      have hs := hs.f hF
      refine hK10 _ _ ?_
      refine wp_ret ?_
      obtain rfl := Option.some.inj H
      exact fin hk _ [(.int .i64 (IntKind.wrap .i64 (x0.code.getD (w64 ((w64 (x0.at_ + 1)) - 1)).toNat 0)))] rfl ⟨rfl, trivial⟩ ⟨rfl, (hs.pick [(0, 1)] rfl).dnil⟩
  · have hk := hk.lit 19 c6 rfl
    refine cnd_false hk rfl rfl ?_
    refine wp_skip ?_
    refine hK3 _ _ ?_
    apply wp_seq_k; intro K16 hK16
    apply wp_seq_k; intro K17 hK17
    apply wp_region_lit
    refine sm _ rfl hk rfl rfl rfl fun a hk => ?_
    refine snk rfl hk rfl rfl rfl fun a hk => ?_
    refine sf ⟨b0_, 1, none⟩ rfl hk rfl rfl rfl fd159_1 rfl fun a hk => ?_
    refine sl rfl hk rfl rfl rfl ag3 (box_cell hs (k := 1) rfl rfl) fun a hk => ?_
    refine sv (.bool (decide ((w64 (x0.at_ + 1)) > 3000))) hk rfl rfl rfl fun a hk => ?_
    show wpList _ _ _ [] _ _
    refine wpList_nil ?_
    refine hK17 _ _ ?_
    rcases cond_some H with ⟨c18, H⟩ | ⟨c18, H⟩
    · have hk := hk.lit 59 c18 rfl
      refine cnd_true hk rfl rfl ?_
      apply wp_seq_k; intro K19 hK19
      apply wp_region_lit
      refine sa _ rfl hk rfl rfl rfl fun a hk => ?_
      show wpList _ _ _ [] _ _
      refine wpList_nil ?_
      refine hK19 _ _ ?_
      refine wp_ret ?_
      obtain rfl := Option.some.inj H
      exact fin hk _ [(.int .i64 0)] rfl ⟨rfl, trivial⟩ ⟨rfl, (hs.pick [(0, 1)] rfl).dnil⟩
    · have hk := hk.lit 59 c18 rfl
      refine cnd_false hk rfl rfl ?_
      refine wp_skip ?_
      refine hK16 _ _ ?_
      apply wp_seq_k; intro K20 hK20
      apply wp_region_lit
      refine sm _ rfl hk rfl rfl rfl fun a hk => ?_
      refine sm _ rfl hk rfl rfl rfl fun a hk => ?_
      refine snk rfl hk rfl rfl rfl fun a hk => ?_
      refine sf ⟨b0_, 2, none⟩ rfl hk rfl rfl rfl fd159_2 rfl fun a hk => ?_
      refine sl rfl hk rfl rfl rfl ag3 (box_cell hs (k := 1) rfl rfl) fun a hk => ?_
      refine sv (.int .i64 (w64 (x0.seed * 1103515245))) hk rfl rfl rfl fun a hk => ?_
      refine sv (.int .i64 (w64 ((w64 (x0.seed * 1103515245)) + 12345))) hk rfl rfl rfl fun a hk => ?_
      refine sv (.int .i64 (Int.tmod (w64 ((w64 (x0.seed * 1103515245)) + 12345)) 2147483648)) hk rfl rfl rfl fun a hk => ?_
      refine snk rfl hk rfl rfl rfl fun a hk => ?_
      refine sf ⟨b0_, 2, none⟩ rfl hk rfl rfl rfl fd159_2 rfl fun a hk => ?_
      refine ssx (cs' := #[.slice A0_0 x0.code.length p0_0, .int .i64 (w64 (x0.at_ + 1)), .int .i64 (Int.tmod (w64 ((w64 (x0.seed * 1103515245)) + 12345)) 2147483648)]) 1 hs rfl rfl hk rfl rfl rfl rfl sz3 rfl rfl rfl rfl fun w a hk hs => ?_
      show wpList _ _ _ [] _ _
      refine wpList_nil ?_
      refine hK20 _ _ ?_
      apply wp_seq_k; intro K21 hK21
      apply wp_region_lit
      refine sm _ rfl hk rfl rfl rfl fun a hk => ?_
      refine snk rfl hk rfl rfl rfl fun a hk => ?_
      refine sf ⟨b0_, 2, none⟩ rfl hk rfl rfl rfl fd159_2 rfl fun a hk => ?_
      refine sl rfl hk rfl rfl rfl ag3 (box_cell hs (k := 1) rfl rfl) fun a hk => ?_
      refine sv (.int .i64 (IntKind.wrap .i64 (Int.tdiv (Int.tmod (w64 ((w64 (x0.seed * 1103515245)) + 12345)) 2147483648) 65536))) hk rfl rfl rfl fun a hk => ?_
      refine sv (.int .i64 (Int.tmod (IntKind.wrap .i64 (Int.tdiv (Int.tmod (w64 ((w64 (x0.seed * 1103515245)) + 12345)) 2147483648) 65536)) 256)) hk rfl rfl rfl fun a hk => ?_
      refine sa _ rfl hk rfl rfl rfl fun a hk => ?_
      show wpList _ _ _ [] _ _
      refine wpList_nil ?_
      refine hK21 _ _ ?_
      refine wp_ret ?_
      obtain rfl := Option.some.inj H
      exact fin hk _ [(.int .i64 (Int.tmod (IntKind.wrap .i64 (Int.tdiv (Int.tmod (w64 ((w64 (x0.seed * 1103515245)) + 12345)) 2147483648) 65536)) 256))] rfl ⟨rfl, trivial⟩ ⟨rfl, (hs.pick [(0, 1)] rfl).dnil⟩

noncomputable def spec_l00Src_next.f (x0 : S_l00Src) (x1 : Int) : Option (Int × Int × Int) :=
  (bif (decide (x1 ≤ 1)) then (some (0, x0.at_, x0.seed)) else (bif (decide (x1 ≤ 256)) then ((spec_l00Src_byte.f x0).bind fun y10 => (if x1 = 0 then none else (some ((Int.tmod y10.1 x1), y10.2.1, y10.2.2)))) else ((spec_l00Src_byte.f x0).bind fun y14 => ((spec_l00Src_byte.f (⟨x0.code, y14.2.1, y14.2.2⟩ : S_l00Src)).bind fun y17 => ((spec_l00Src_byte.f (⟨x0.code, y17.2.1, y17.2.2⟩ : S_l00Src)).bind fun y20 => (if x1 = 0 then none else (some ((Int.tmod (w64 ((w64 ((w64 (y14.1 * 65536)) + (w64 (y17.1 * 256)))) + y20.1)) x1), y20.2.1, y20.2.2))))))))
set_option maxRecDepth 100000 in
set_option maxHeartbeats 0 in
theorem spec_l00Src_next_t (w0 : World) (b0_ : Nat) (x0 : S_l00Src) (A0_0 : Option Addr) (p0_0 : Nat) (k0_0 : Chunk) (v0_0 : View (Lay.int .u8) A0_0 p0_0 x0.code k0_0) (w0_0 : Has w0 k0_0) (x1 : Int) (hs0 : Sat (blks [(1, [(b0_, .cells #[.slice A0_0 x0.code.length p0_0, .int .i64 x0.at_, .int .i64 x0.seed] 159 (0, 0))])]) w0 w0 [(2, k0_0)] [(1, [(b0_, .cells #[.slice A0_0 x0.code.length p0_0, .int .i64 x0.at_, .int .i64 x0.seed] 159 (0, 0))])]) (r : Int × Int × Int) (H : spec_l00Src_next.f x0 x1 = some r) :
    Calls Try.prog 134 #[.pointer (some ⟨b0_, 0, none⟩), .int .i64 x1] w0 (Ret (fun v w => v = .int .i64 r.1 ∧ Sat (blks [(1, [(b0_, .cells #[.slice A0_0 x0.code.length p0_0, .int .i64 x0.at_, .int .i64 x0.seed] 159 (0, 0))])]) w0 w [] [(0, [(b0_, .cells #[.slice A0_0 x0.code.length p0_0, .int .i64 r.2.1, .int .i64 r.2.2] 159 (0, 0))])])) := by
  have hs := hs0
  unfold spec_l00Src_next.f at H
  refine enter Try.func134 rfl Try.ntmps134 rfl fun a hk => ?_
  apply wp_seq_k; intro K1 hK1
  apply wp_region_lit
  refine sa _ rfl hk rfl rfl rfl fun a hk => ?_
  show wpList _ _ _ [] _ _
  refine wpList_nil ?_
  refine hK1 _ _ ?_
  apply wp_seq_k; intro K2 hK2
  apply wp_seq_k; intro K3 hK3
  apply wp_region_lit
  refine sm _ rfl hk rfl rfl rfl fun a hk => ?_
  refine sv (.bool (decide (x1 ≤ 1))) hk rfl rfl rfl fun a hk => ?_
  show wpList _ _ _ [] _ _
  refine wpList_nil ?_
  refine hK3 _ _ ?_
  rcases cond_some H with ⟨c4, H⟩ | ⟨c4, H⟩
  · have hk := hk.lit 9 c4 rfl
    refine cnd_true hk rfl rfl ?_
    apply wp_seq_k; intro K5 hK5
    apply wp_region_lit
    refine sa _ rfl hk rfl rfl rfl fun a hk => ?_
    show wpList _ _ _ [] _ _
    refine wpList_nil ?_
    refine hK5 _ _ ?_
    refine wp_ret ?_
    obtain rfl := Option.some.inj H
    exact fin hk _ [(.int .i64 0)] rfl ⟨rfl, trivial⟩ ⟨rfl, (hs.pick [(0, 1)] rfl).dnil⟩
  · have hk := hk.lit 9 c4 rfl
    refine cnd_false hk rfl rfl ?_
    refine wp_skip ?_
    refine hK2 _ _ ?_
    apply wp_seq_k; intro K6 hK6
    apply wp_seq_k; intro K7 hK7
    apply wp_region_lit
    refine sm _ rfl hk rfl rfl rfl fun a hk => ?_
    refine sv (.bool (decide (x1 ≤ 256))) hk rfl rfl rfl fun a hk => ?_
    show wpList _ _ _ [] _ _
    refine wpList_nil ?_
    refine hK7 _ _ ?_
    rcases cond_some H with ⟨c8, H⟩ | ⟨c8, H⟩
    · have hk := hk.lit 11 c8 rfl
      refine cnd_true hk rfl rfl ?_
      apply wp_seq_k; intro K9 hK9
      apply wp_region_lit
      refine sm _ rfl hk rfl rfl rfl fun a hk => ?_
      obtain ⟨y10, h11, H⟩ := bind_some H
      refine sc rfl en170 hk rfl rfl rfl (spec_l00Src_byte_t _ b0_ x0 A0_0 p0_0 _ v0_0 (hs.hasD (k := 2) rfl) ((hs.hand [(1, 1)] rfl).dpick [(2, 2)] rfl) _ h11) ?_
      rintro _ w ⟨rfl, hG⟩ a hk
      have hs := hs.back [(1, 1)] rfl hG [1] rfl
      refine sm _ rfl hk rfl rfl rfl fun a hk => ?_
      rcases ite_some H with ⟨_, H⟩ | ⟨c12, H⟩
      · cases H
      refine srm rfl hk rfl rfl rfl rfl c12 fun a hk => ?_
      refine sa _ rfl hk rfl rfl rfl fun a hk => ?_
      show wpList _ _ _ [] _ _
      refine wpList_nil ?_
      refine hK9 _ _ ?_
      refine wp_ret ?_
      obtain rfl := Option.some.inj H
      exact fin hk _ [(.int .i64 (Int.tmod y10.1 x1))] rfl ⟨rfl, trivial⟩ ⟨rfl, (hs.pick [(0, 1)] rfl).dnil⟩
    · have hk := hk.lit 11 c8 rfl
      refine cnd_false hk rfl rfl ?_
      refine wp_skip ?_
      refine hK6 _ _ ?_
      apply wp_seq_k; intro K13 hK13
      apply wp_region_lit
      refine sm _ rfl hk rfl rfl rfl fun a hk => ?_
      obtain ⟨y14, h15, H⟩ := bind_some H
      refine sc rfl en170 hk rfl rfl rfl (spec_l00Src_byte_t _ b0_ x0 A0_0 p0_0 _ v0_0 (hs.hasD (k := 2) rfl) ((hs.hand [(1, 1)] rfl).dpick [(2, 2)] rfl) _ h15) ?_
      rintro _ w ⟨rfl, hG⟩ a hk
      have hs := hs.back [(1, 1)] rfl hG [1] rfl
      refine sa _ rfl hk rfl rfl rfl fun a hk => ?_
      show wpList _ _ _ [] _ _
      refine wpList_nil ?_
      refine hK13 _ _ ?_
      apply wp_seq_k; intro K16 hK16
      apply wp_region_lit
      refine sm _ rfl hk rfl rfl rfl fun a hk => ?_
      obtain ⟨y17, h18, H⟩ := bind_some H
      refine sc rfl en170 hk rfl rfl rfl (spec_l00Src_byte_t _ b0_ (⟨x0.code, y14.2.1, y14.2.2⟩ : S_l00Src) A0_0 p0_0 _ v0_0 (hs.hasD (k := 2) rfl) ((hs.hand [(1, 1)] rfl).dpick [(2, 2)] rfl) _ h18) ?_
      rintro _ w ⟨rfl, hG⟩ a hk
      have hs := hs.back [(1, 1)] rfl hG [1] rfl
      refine sa _ rfl hk rfl rfl rfl fun a hk => ?_
      show wpList _ _ _ [] _ _
      refine wpList_nil ?_
      refine hK16 _ _ ?_
      apply wp_seq_k; intro K19 hK19
      apply wp_region_lit
      refine sm _ rfl hk rfl rfl rfl fun a hk => ?_
      obtain ⟨y20, h21, H⟩ := bind_some H
      refine sc rfl en170 hk rfl rfl rfl (spec_l00Src_byte_t _ b0_ (⟨x0.code, y17.2.1, y17.2.2⟩ : S_l00Src) A0_0 p0_0 _ v0_0 (hs.hasD (k := 2) rfl) ((hs.hand [(1, 1)] rfl).dpick [(2, 2)] rfl) _ h21) ?_
      rintro _ w ⟨rfl, hG⟩ a hk
      have hs := hs.back [(1, 1)] rfl hG [1] rfl
      refine sa _ rfl hk rfl rfl rfl fun a hk => ?_
      show wpList _ _ _ [] _ _
      refine wpList_nil ?_
      refine hK19 _ _ ?_
      apply wp_seq_k; intro K22 hK22
      apply wp_region_lit
      refine sm _ rfl hk rfl rfl rfl fun a hk => ?_
      refine sv (.int .i64 (w64 (y14.1 * 65536))) hk rfl rfl rfl fun a hk => ?_
      refine sm _ rfl hk rfl rfl rfl fun a hk => ?_
      refine sv (.int .i64 (w64 (y17.1 * 256))) hk rfl rfl rfl fun a hk => ?_
      refine sv (.int .i64 (w64 ((w64 (y14.1 * 65536)) + (w64 (y17.1 * 256))))) hk rfl rfl rfl fun a hk => ?_
      refine sm _ rfl hk rfl rfl rfl fun a hk => ?_
      refine sv (.int .i64 (w64 ((w64 ((w64 (y14.1 * 65536)) + (w64 (y17.1 * 256)))) + y20.1))) hk rfl rfl rfl fun a hk => ?_
      refine sm _ rfl hk rfl rfl rfl fun a hk => ?_
      rcases ite_some H with ⟨_, H⟩ | ⟨c23, H⟩
      · cases H
      refine srm rfl hk rfl rfl rfl rfl c23 fun a hk => ?_
      refine sa _ rfl hk rfl rfl rfl fun a hk => ?_
      show wpList _ _ _ [] _ _
      refine wpList_nil ?_
      refine hK22 _ _ ?_
      refine wp_ret ?_
      obtain rfl := Option.some.inj H
      exact fin hk _ [(.int .i64 (Int.tmod (w64 ((w64 ((w64 (y14.1 * 65536)) + (w64 (y17.1 * 256)))) + y20.1)) x1))] rfl ⟨rfl, trivial⟩ ⟨rfl, (hs.pick [(0, 1)] rfl).dnil⟩

noncomputable def spec_l10Find.s0 (l0 : List S_Entry) (x1 : Int) (u6 : Int) : Option ((Int) ⊕ Ex (Unit) (Int)) :=
  (bif (decide (u6 < (l0.length : Int))) then (if 0 ≤ u6 ∧ u6 < (l0.length : Int) then (bif (((l0.getD u6.toNat z_Entry).Key) == x1) then (some (.inr (.ret u6))) else (some (.inl (w64 (u6 + 1))))) else none) else (some (.inr (.out ()))))
noncomputable def spec_l10Find.f (l0 : List S_Entry) (x1 : Int) : Option (Int) :=
  ((loopO (fun s => spec_l10Find.s0 l0 x1 s) 0).bind fun o => match o with | .out _ => (some (-1)) | .ret r => (some r))
set_option maxRecDepth 100000 in
set_option maxHeartbeats 0 in
theorem spec_l10Find_t (w0 : World) (A0_ : Option Addr) (p0_ : Nat) (l0 : List S_Entry) (k0_ : Chunk) (v0_ : View L_Entry A0_ p0_ l0 k0_) (w0_ : Has w0 k0_) (x1 : Int) (r : Int) (H : spec_l10Find.f l0 x1 = some r) :
    Calls Try.prog 125 #[.slice A0_ l0.length p0_, .int .i64 x1] w0 (Ret (fun v w => v = .int .i64 r ∧ Sat [] w0 w [] [])) := by
  have hs : Sat [] w0 w0 [(1, k0_)] [] := Sat.init w0 [(1, k0_)] [] (by simp only [List.mem_cons, List.not_mem_nil, or_false]; rintro x (rfl) <;> assumption) (by simp) List.nodup_nil (by simp [blks])
  unfold spec_l10Find.f at H
  refine enter Try.func125 rfl Try.ntmps125 rfl fun a hk => ?_
  apply wp_seq_k; intro K1 hK1
  apply wp_region_lit
  refine sa _ rfl hk rfl rfl rfl fun a hk => ?_
  show wpList _ _ _ [] _ _
  refine wpList_nil ?_
  refine hK1 _ _ ?_
  apply wp_seq_k; intro K2 hK2
  apply wp_seq_k; intro K3 hK3
  apply wp_region_lit
  refine sa _ rfl hk rfl rfl rfl fun a hk => ?_
  show wpList _ _ _ [] _ _
  refine wpList_nil ?_
  refine hK3 _ _ ?_
  obtain ⟨o7, h8, HL9⟩ := bind_some H
  clear H
  obtain ⟨R10, hR10⟩ : ∃ R : Act → World → Prop, R = fun a w => o7 = .out () ∧ Kn [] 20 a ∧ Sat [] w0 w [(1, k0_)] [] := ⟨_, rfl⟩
  refine wp_cutq R10 ?_ ?_
  · refine wp_block ?_
    obtain ⟨fu12, h8⟩ := loopO_some h8
    obtain ⟨I11, hI11⟩ : ∃ I : Nat → Act → World → Prop, I = fun fu a w => ∃ (u6 : Int), loopN (fun s => spec_l10Find.s0 l0 x1 s) fu u6 = some o7 ∧ Kn [(0, (.slice A0_ l0.length p0_)), (1, (.int .i64 x1)), (5, (.int .i64 u6))] 20 a ∧ Sat [] w0 w [(1, k0_)] [] := ⟨_, rfl⟩
    refine wp_loop_ghost I11 fu12 ?_ ?_
    · rw [hI11]
      exact ⟨0, h8, (hk.c 0 rfl (hk.c 1 rfl (hk.c 5 rfl hk.k))), (hs.pick [] rfl)⟩
    · clear h8 hk hs
      intro fu12 a w hI0
      rw [hI11] at hI0
      obtain ⟨u6, hi, hk, hs⟩ := hI0
      obtain ⟨x13, H, h14⟩ := loop_round hi
      try dsimp only at H
      unfold spec_l10Find.s0 at H
      apply wp_seq_k; intro K15 hK15
      apply wp_seq_k; intro K16 hK16
      apply wp_region_lit
      refine sm _ rfl hk rfl rfl rfl fun a hk => ?_
      refine sm _ rfl hk rfl rfl rfl fun a hk => ?_
      refine sle rfl hk rfl rfl rfl un26 fun a hk => ?_
      refine sv (.bool (decide (u6 < (l0.length : Int)))) hk rfl rfl rfl fun a hk => ?_
      show wpList _ _ _ [] _ _
      refine wpList_nil ?_
      refine hK16 _ _ ?_
      rcases cond_some H with ⟨c17, H⟩ | ⟨c17, H⟩
      · have hk := hk.lit 9 c17 rfl
        refine cnd_true hk rfl rfl ?_
        refine wp_skip ?_
        refine hK15 _ _ ?_
        apply wp_seq_k; intro K18 hK18
        refine wp_block ?_
        apply wp_seq_k; intro K19 hK19
        apply wp_region_lit
        refine sm _ rfl hk rfl rfl rfl fun a hk => ?_
        refine sm _ rfl hk rfl rfl rfl fun a hk => ?_
        rcases ite_some H with ⟨c20, H⟩ | ⟨_, H⟩
        rotate_left
        · cases H
        obtain ⟨b21, q22, hAc20⟩ := (v0_).some_ u6 c20.1 c20.2
        refine si rfl hk rfl rfl rfl rfl un26 sz62 c20.1 c20.2 hAc20 fun a hk => ?_
        refine sf (padd A0_ (u6.toNat * 2 + 0)) rfl hk rfl rfl rfl fd62_0 (padd_add _ _ _) fun a hk => ?_
        obtain ⟨_, rfl, e23⟩ := (v0_).at_ z_Entry u6 c20.1 c20.2
        refine sl (v := (.int .i64 ((l0.getD u6.toNat z_Entry).Key))) rfl hk rfl rfl rfl ag3 ((e23 0 _ rfl).cell (hs.hasD (k := 1) rfl)) fun a hk => ?_
        refine sm _ rfl hk rfl rfl rfl fun a hk => ?_
        refine sv (.bool (((l0.getD u6.toNat z_Entry).Key) == x1)) hk rfl rfl rfl fun a hk => ?_
        show wpList _ _ _ [] _ _
        refine wpList_nil ?_
        refine hK19 _ _ ?_
        rcases cond_some H with ⟨c24, H⟩ | ⟨c24, H⟩
        · have hk := hk.lit 18 c24 rfl
          refine cnd_true hk rfl rfl ?_
          apply wp_seq_k; intro K25 hK25
          apply wp_region_lit
          refine sm _ rfl hk rfl rfl rfl fun a hk => ?_
          refine sa _ rfl hk rfl rfl rfl fun a hk => ?_
          show wpList _ _ _ [] _ _
          refine wpList_nil ?_
          refine hK25 _ _ ?_
          refine wp_ret ?_
          obtain rfl := Option.some.inj H
          have ho7 := h14
          try dsimp only at ho7
          subst ho7
          have H := HL9
          try dsimp only at H
          obtain rfl := Option.some.inj H
          exact fin hk _ [(.int .i64 u6)] rfl ⟨rfl, trivial⟩ ⟨rfl, (hs.pick [] rfl).dnil⟩
        · have hk := hk.lit 18 c24 rfl
          refine cnd_false hk rfl rfl ?_
          refine wp_skip ?_
          refine hK18 _ _ ?_
          apply wp_region_lit
          refine sm _ rfl hk rfl rfl rfl fun a hk => ?_
          refine sv (.int .i64 (w64 (u6 + 1))) hk rfl rfl rfl fun a hk => ?_
          refine sa _ rfl hk rfl rfl rfl fun a hk => ?_
          show wpList _ _ _ [] _ _
          refine wpList_nil ?_
          obtain rfl := Option.some.inj H
          obtain ⟨m26, hmm26, h14⟩ := h14
          show ∃ n', n' < _ ∧ I11 n' _ _
          refine ⟨m26, hmm26, ?_⟩
          rw [hI11]
          exact ⟨(w64 (u6 + 1)), h14, (hk.c 0 rfl (hk.c 1 rfl (hk.c 5 rfl hk.k))), (hs.pick [] rfl)⟩
      · have hk := hk.lit 9 c17 rfl
        refine cnd_false hk rfl rfl ?_
        refine wp_exit ?_
        obtain rfl := Option.some.inj H
        show R10 _ _
        rw [hR10]
        exact ⟨h14.symm, hk.k, (hs.pick [] rfl)⟩
  · intro a w hR0
    rw [hR10] at hR0
    obtain ⟨rfl, hk, hs⟩ := hR0
    have H := HL9
    try dsimp only at H
    refine hK2 _ _ ?_
    apply wp_seq_k; intro K27 hK27
    apply wp_region_lit
    refine sa _ rfl hk rfl rfl rfl fun a hk => ?_
    show wpList _ _ _ [] _ _
    refine wpList_nil ?_
    refine hK27 _ _ ?_
    refine wp_ret ?_
    obtain rfl := Option.some.inj H
    exact fin hk _ [(.int .i64 (-1))] rfl ⟨rfl, trivial⟩ ⟨rfl, (hs.pick [] rfl).dnil⟩

noncomputable def spec_l01Bit.f (x0 : Bool) : Option (Int) :=
  (bif x0 then (some 1) else (some 0))
set_option maxRecDepth 100000 in
set_option maxHeartbeats 0 in
theorem spec_l01Bit_t (w0 : World) (x0 : Bool) (r : Int) (H : spec_l01Bit.f x0 = some r) :
    Calls Try.prog 126 #[.bool x0] w0 (Ret (fun v w => v = .int .i64 r ∧ Sat [] w0 w [] [])) := by
  have hs : Sat [] w0 w0 [] [] := Sat.init w0 [] [] (by simp) (by simp) List.nodup_nil (by simp [blks])
  unfold spec_l01Bit.f at H
  refine enter Try.func126 rfl Try.ntmps126 rfl fun a hk => ?_
  apply wp_seq_k; intro K1 hK1
  apply wp_region_lit
  refine sa _ rfl hk rfl rfl rfl fun a hk => ?_
  show wpList _ _ _ [] _ _
  refine wpList_nil ?_
  refine hK1 _ _ ?_
  apply wp_seq_k; intro K2 hK2
  apply wp_seq_k; intro K3 hK3
  apply wp_region_lit
  refine sm _ rfl hk rfl rfl rfl fun a hk => ?_
  show wpList _ _ _ [] _ _
  refine wpList_nil ?_
  refine hK3 _ _ ?_
  rcases cond_some H with ⟨c4, H⟩ | ⟨c4, H⟩
  · have hk := hk.lit 3 c4 rfl
    refine cnd_true hk rfl rfl ?_
    apply wp_seq_k; intro K5 hK5
    apply wp_region_lit
    refine sa _ rfl hk rfl rfl rfl fun a hk => ?_
    show wpList _ _ _ [] _ _
    refine wpList_nil ?_
    refine hK5 _ _ ?_
    refine wp_ret ?_
    obtain rfl := Option.some.inj H
    exact fin hk _ [(.int .i64 1)] rfl ⟨rfl, trivial⟩ ⟨rfl, (hs.pick [] rfl).dnil⟩
  · have hk := hk.lit 3 c4 rfl
    refine cnd_false hk rfl rfl ?_
    refine wp_skip ?_
    refine hK2 _ _ ?_
    apply wp_seq_k; intro K6 hK6
    apply wp_region_lit
    refine sa _ rfl hk rfl rfl rfl fun a hk => ?_
    show wpList _ _ _ [] _ _
    refine wpList_nil ?_
    refine hK6 _ _ ?_
    refine wp_ret ?_
    obtain rfl := Option.some.inj H
    exact fin hk _ [(.int .i64 0)] rfl ⟨rfl, trivial⟩ ⟨rfl, (hs.pick [] rfl).dnil⟩

end Go.Proofs.Ytlbbkehdfgjneaa
