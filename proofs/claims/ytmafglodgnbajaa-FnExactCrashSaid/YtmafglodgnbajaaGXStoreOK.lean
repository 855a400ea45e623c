/- The functions that FnExactStoreOK reaches: for each a model and the walk that shows that the Go code comes to it. -/
import Derived.Test.YtmafglodgnbajaaGXSameStore
namespace Go.Proofs.Ytmafglodgnbajaa
open Go Go.Z Go.Proofs Go.MuLone Go.ChangeShapes Go.WideShapes Go.ChangeAt Go.RowKit
set_option linter.unusedVariables false
set_option linter.unusedSimpArgs false
noncomputable def spec_l01In.f (x0 : Int) (x1 : Int) (x2 : Int) : Option (Bool) :=
  (((bif (decide (x1 ≤ x0)) then (some (decide (x0 ≤ x2))) else (some false)) : Option (Bool)).bind fun u4 => (some u4))
set_option maxRecDepth 100000 in
set_option maxHeartbeats 0 in
theorem spec_l01In_t (w0 : World) (x0 : Int) (x1 : Int) (x2 : Int) (r : Bool) (H : spec_l01In.f x0 x1 x2 = some r) :
    Calls Try.prog 53 #[.int .i64 x0, .int .i64 x1, .int .i64 x2] w0 (Ret (fun v w => v = .bool r ∧ Sat [] w0 w [] [])) := by
  have hs : Sat [] w0 w0 [] [] := Sat.init w0 [] [] (by simp) (by simp) List.nodup_nil (by simp [blks])
  unfold spec_l01In.f at H
  refine enter Try.func53 rfl Try.ntmps53 rfl fun a hk => ?_
  apply wp_seq_k; intro K1 hK1
  apply wp_region_lit
  refine sa _ rfl hk rfl rfl rfl fun a hk => ?_
  show wpList _ _ _ [] _ _
  refine wpList_nil ?_
  refine hK1 _ _ ?_
  apply wp_seq_k; intro K2 hK2
  obtain ⟨o5, h6, HL7⟩ := bind_some H
  clear H
  obtain ⟨R8, hR8⟩ : ∃ R : Act → World → Prop, R = fun a w => ∃ (u4 : Bool), u4 = o5 ∧ Kn [(6, (.bool u4))] 15 a ∧ Sat [] w0 w [] [] := ⟨_, rfl⟩
  refine wp_cutq R8 ?_ ?_
  · have H := h6
    apply wp_region_lit
    refine sm _ rfl hk rfl rfl rfl fun a hk => ?_
    refine sm _ rfl hk rfl rfl rfl fun a hk => ?_
    refine sv (.bool (decide (x1 ≤ x0))) hk rfl rfl rfl fun a hk => ?_
    refine sm _ rfl hk rfl rfl rfl fun a hk => ?_
    rcases cond_some H with ⟨c9, H⟩ | ⟨c9, H⟩
    · have hk := hk.lit 10 c9 rfl
      refine sm _ rfl hk rfl rfl rfl fun a hk => ?_
      refine sm _ rfl hk rfl rfl rfl fun a hk => ?_
      refine sv (.bool (decide (x0 ≤ x2))) hk rfl rfl rfl fun a hk => ?_
      refine sv (.bool (decide (x0 ≤ x2))) hk rfl rfl rfl fun a hk => ?_
      refine sa _ rfl hk rfl rfl rfl fun a hk => ?_
      show wpList _ _ _ [] _ _
      refine wpList_nil ?_
      obtain rfl := Option.some.inj H
      show R8 _ _
      rw [hR8]
      exact ⟨(decide (x0 ≤ x2)), rfl, (hk.c 6 rfl hk.k), (hs.pick [] rfl)⟩
    · have hk := hk.lit 10 c9 rfl
      refine sk hk rfl rfl rfl fun a hk => ?_
      refine sk hk rfl rfl rfl fun a hk => ?_
      refine sk hk rfl rfl rfl fun a hk => ?_
      refine sv (.bool false) hk rfl rfl rfl fun a hk => ?_
      refine sa _ rfl hk rfl rfl rfl fun a hk => ?_
      show wpList _ _ _ [] _ _
      refine wpList_nil ?_
      obtain rfl := Option.some.inj H
      show R8 _ _
      rw [hR8]
      exact ⟨false, rfl, (hk.c 6 rfl hk.k), (hs.pick [] rfl)⟩
  · intro a w hR0
    rw [hR8] at hR0
    obtain ⟨u4, rfl, hk, hs⟩ := hR0
    have H := HL7
    try dsimp only at H
    refine hK2 _ _ ?_
    refine wp_ret ?_
    obtain rfl := Option.some.inj H
    exact fin hk _ [(.bool u4)] rfl ⟨rfl, trivial⟩ ⟨rfl, (hs.pick [] rfl).dnil⟩

noncomputable def spec_RegisterOK.f (x0 : S_Register) : Option (Bool) :=
  ((((spec_l01In.f x0.Epoch 0 1000000).bind fun y10 => (bif y10 then ((spec_l01In.f x0.Side 0 1).bind fun y13 => (bif y13 then ((spec_l01In.f x0.Boot 0 1000000).bind fun y16 => (bif y16 then ((spec_l01In.f x0.Count x0.Epoch (if 1000000 < (w64 (x0.Epoch + 4)) then 1000000 else (w64 (x0.Epoch + 4)))).bind fun y19 => (bif y19 then (bif ((x0.Base.size : Int) == 32) then (bif ((x0.Tip.size : Int) == 32) then (bif ((x0.Root.size : Int) == 32) then (bif (decide (x0.Count > x0.Epoch)) then (some true) else (some (x0.Base.toList == x0.Tip.toList))) else (some false)) else (some false)) else (some false)) else (some false))) else (some false))) else (some false))) else (some false))) : Option (Bool)).bind fun u5 => (some u5))
set_option maxRecDepth 100000 in
set_option maxHeartbeats 0 in
theorem spec_RegisterOK_t (w0 : World) (x0 : S_Register) (r : Bool) (H : spec_RegisterOK.f x0 = some r) :
    Calls Try.prog 48 #[.agg #[.int .i64 x0.Epoch, .int .i64 x0.Side, .int .i64 x0.Count, .int .i64 x0.Boot, .string x0.Base, .string x0.Tip, .string x0.Root]] w0 (Ret (fun v w => v = .bool r ∧ Sat [] w0 w [] [])) := by
  have hs : Sat [] w0 w0 [] [] := Sat.init w0 [] [] (by simp) (by simp) List.nodup_nil (by simp [blks])
  unfold spec_RegisterOK.f at H
  refine enter Try.func48 rfl Try.ntmps48 rfl fun a hk => ?_
  apply wp_seq_k; intro K1 hK1
  apply wp_region_lit
  refine sbx 1 hs rfl hk rfl rfl rfl rfl fun b2 w a hk hs => ?_
  refine sa _ rfl hk rfl rfl rfl fun a hk => ?_
  show wpList _ _ _ [] _ _
  refine wpList_nil ?_
  refine hK1 _ _ ?_
  apply wp_seq_k; intro K3 hK3
  obtain ⟨o6, h7, HL8⟩ := bind_some H
  clear H
  obtain ⟨R9, hR9⟩ : ∃ R : Act → World → Prop, R = fun a w => ∃ (u5 : Bool), u5 = o6 ∧ Kn [(2, (.bool u5))] 59 a ∧ Sat [] w0 w [] [] := ⟨_, rfl⟩
  refine wp_cutq R9 ?_ ?_
  · have H := h7
    apply wp_region_lit
    refine sf ⟨b2, 0, none⟩ rfl hk rfl rfl rfl fd32_0 rfl fun a hk => ?_
    refine sl rfl hk rfl rfl rfl ag3 (box_cell hs (k := 1) rfl rfl) fun a hk => ?_
    obtain ⟨y10, h11, H⟩ := bind_some H
    refine sc rfl en53 hk rfl rfl rfl (spec_l01In_t _ x0.Epoch 0 1000000 _ h11) ?_
    rintro _ w ⟨rfl, hG⟩ a hk
    have hs := hs.call0 hG
    refine sm _ rfl hk rfl rfl rfl fun a hk => ?_
    rcases cond_some H with ⟨c12, H⟩ | ⟨c12, H⟩
    · have hk := hk.lit 6 c12 rfl
      refine sf ⟨b2, 1, none⟩ rfl hk rfl rfl rfl fd32_1 rfl fun a hk => ?_
      refine sl rfl hk rfl rfl rfl ag3 (box_cell hs (k := 1) rfl rfl) fun a hk => ?_
      obtain ⟨y13, h14, H⟩ := bind_some H
      refine sc rfl en53 hk rfl rfl rfl (spec_l01In_t _ x0.Side 0 1 _ h14) ?_
      rintro _ w ⟨rfl, hG⟩ a hk
      have hs := hs.call0 hG
      refine sv (.bool y13) hk rfl rfl rfl fun a hk => ?_
      refine sm _ rfl hk rfl rfl rfl fun a hk => ?_
      rcases cond_some H with ⟨c15, H⟩ | ⟨c15, H⟩
      · have hk := hk.lit 11 c15 rfl
        refine sf ⟨b2, 3, none⟩ rfl hk rfl rfl rfl fd32_3 rfl fun a hk => ?_
        refine sl rfl hk rfl rfl rfl ag3 (box_cell hs (k := 1) rfl rfl) fun a hk => ?_
        obtain ⟨y16, h17, H⟩ := bind_some H
        refine sc rfl en53 hk rfl rfl rfl (spec_l01In_t _ x0.Boot 0 1000000 _ h17) ?_
        rintro _ w ⟨rfl, hG⟩ a hk
        have hs := hs.call0 hG
        refine sv (.bool y16) hk rfl rfl rfl fun a hk => ?_
        refine sm _ rfl hk rfl rfl rfl fun a hk => ?_
        rcases cond_some H with ⟨c18, H⟩ | ⟨c18, H⟩
        · have hk := hk.lit 16 c18 rfl
          refine sf ⟨b2, 2, none⟩ rfl hk rfl rfl rfl fd32_2 rfl fun a hk => ?_
          refine sl rfl hk rfl rfl rfl ag3 (box_cell hs (k := 1) rfl rfl) fun a hk => ?_
          refine sf ⟨b2, 0, none⟩ rfl hk rfl rfl rfl fd32_0 rfl fun a hk => ?_
          refine sl rfl hk rfl rfl rfl ag3 (box_cell hs (k := 1) rfl rfl) fun a hk => ?_
          refine sf ⟨b2, 0, none⟩ rfl hk rfl rfl rfl fd32_0 rfl fun a hk => ?_
          refine sl rfl hk rfl rfl rfl ag3 (box_cell hs (k := 1) rfl rfl) fun a hk => ?_
          refine sv (.int .i64 (w64 (x0.Epoch + 4))) hk rfl rfl rfl fun a hk => ?_
          refine smn rfl hk rfl rfl rfl rfl fun a hk => ?_
          obtain ⟨y19, h20, H⟩ := bind_some H
          refine sc rfl en53 hk rfl rfl rfl (spec_l01In_t _ x0.Count x0.Epoch (if 1000000 < (w64 (x0.Epoch + 4)) then 1000000 else (w64 (x0.Epoch + 4))) _ h20) ?_
          rintro _ w ⟨rfl, hG⟩ a hk
          have hs := hs.call0 hG
          refine sv (.bool y19) hk rfl rfl rfl fun a hk => ?_
          refine sm _ rfl hk rfl rfl rfl fun a hk => ?_
          rcases cond_some H with ⟨c21, H⟩ | ⟨c21, H⟩
          · have hk := hk.lit 27 c21 rfl
            refine sf ⟨b2, 4, none⟩ rfl hk rfl rfl rfl fd32_4 rfl fun a hk => ?_
            refine sl rfl hk rfl rfl rfl ag9 (box_cell hs (k := 1) rfl rfl) fun a hk => ?_
            refine sles rfl hk rfl rfl rfl un9 fun a hk => ?_
            refine sv (.bool ((x0.Base.size : Int) == 32)) hk rfl rfl rfl fun a hk => ?_
            refine sv (.bool ((x0.Base.size : Int) == 32)) hk rfl rfl rfl fun a hk => ?_
            refine sm _ rfl hk rfl rfl rfl fun a hk => ?_
            rcases cond_some H with ⟨c22, H⟩ | ⟨c22, H⟩
            · have hk := hk.lit 33 c22 rfl
              refine sf ⟨b2, 5, none⟩ rfl hk rfl rfl rfl fd32_5 rfl fun a hk => ?_
              refine sl rfl hk rfl rfl rfl ag9 (box_cell hs (k := 1) rfl rfl) fun a hk => ?_
              refine sles rfl hk rfl rfl rfl un9 fun a hk => ?_
              refine sv (.bool ((x0.Tip.size : Int) == 32)) hk rfl rfl rfl fun a hk => ?_
              refine sv (.bool ((x0.Tip.size : Int) == 32)) hk rfl rfl rfl fun a hk => ?_
              refine sm _ rfl hk rfl rfl rfl fun a hk => ?_
              rcases cond_some H with ⟨c23, H⟩ | ⟨c23, H⟩
              · have hk := hk.lit 39 c23 rfl
                refine sf ⟨b2, 6, none⟩ rfl hk rfl rfl rfl fd32_6 rfl fun a hk => ?_
                refine sl rfl hk rfl rfl rfl ag9 (box_cell hs (k := 1) rfl rfl) fun a hk => ?_
                refine sles rfl hk rfl rfl rfl un9 fun a hk => ?_
                refine sv (.bool ((x0.Root.size : Int) == 32)) hk rfl rfl rfl fun a hk => ?_
                refine sv (.bool ((x0.Root.size : Int) == 32)) hk rfl rfl rfl fun a hk => ?_
                refine sm _ rfl hk rfl rfl rfl fun a hk => ?_
                rcases cond_some H with ⟨c24, H⟩ | ⟨c24, H⟩
                · have hk := hk.lit 45 c24 rfl
                  refine sf ⟨b2, 2, none⟩ rfl hk rfl rfl rfl fd32_2 rfl fun a hk => ?_
                  refine sl rfl hk rfl rfl rfl ag3 (box_cell hs (k := 1) rfl rfl) fun a hk => ?_
                  refine sf ⟨b2, 0, none⟩ rfl hk rfl rfl rfl fd32_0 rfl fun a hk => ?_
                  refine sl rfl hk rfl rfl rfl ag3 (box_cell hs (k := 1) rfl rfl) fun a hk => ?_
                  refine sv (.bool (decide (x0.Count > x0.Epoch))) hk rfl rfl rfl fun a hk => ?_
                  refine sm _ rfl hk rfl rfl rfl fun a hk => ?_
                  rcases cond_some H with ⟨c25, H⟩ | ⟨c25, H⟩
                  · have hk := hk.lit 51 c25 rfl
                    refine sk hk rfl rfl rfl fun a hk => ?_
                    refine sk hk rfl rfl rfl fun a hk => ?_
                    refine sk hk rfl rfl rfl fun a hk => ?_
                    refine sk hk rfl rfl rfl fun a hk => ?_
                    refine sk hk rfl rfl rfl fun a hk => ?_
                    refine sv (.bool true) hk rfl rfl rfl fun a hk => ?_
                    refine sv (.bool true) hk rfl rfl rfl fun a hk => ?_
                    refine sa _ rfl hk rfl rfl rfl fun a hk => ?_
                    show wpList _ _ _ [] _ _
                    refine wpList_nil ?_
                    obtain rfl := Option.some.inj H
                    show R9 _ _
                    rw [hR9]
                    exact ⟨true, rfl, (hk.c 2 rfl hk.k), (hs.pick [] rfl)⟩
                  · have hk := hk.lit 51 c25 rfl
                    refine sf ⟨b2, 4, none⟩ rfl hk rfl rfl rfl fd32_4 rfl fun a hk => ?_
                    refine sl rfl hk rfl rfl rfl ag9 (box_cell hs (k := 1) rfl rfl) fun a hk => ?_
                    refine sf ⟨b2, 5, none⟩ rfl hk rfl rfl rfl fd32_5 rfl fun a hk => ?_
                    refine sl rfl hk rfl rfl rfl ag9 (box_cell hs (k := 1) rfl rfl) fun a hk => ?_
                    refine sv (.bool (x0.Base.toList == x0.Tip.toList)) hk rfl rfl rfl fun a hk => ?_
                    refine sv (.bool (x0.Base.toList == x0.Tip.toList)) hk rfl rfl rfl fun a hk => ?_
                    refine sv (.bool (x0.Base.toList == x0.Tip.toList)) hk rfl rfl rfl fun a hk => ?_
                    refine sa _ rfl hk rfl rfl rfl fun a hk => ?_
                    show wpList _ _ _ [] _ _
                    refine wpList_nil ?_
                    obtain rfl := Option.some.inj H
                    show R9 _ _
                    rw [hR9]
                    exact ⟨(x0.Base.toList == x0.Tip.toList), rfl, (hk.c 2 rfl hk.k), (hs.pick [] rfl)⟩
                · have hk := hk.lit 45 c24 rfl
                  refine sk hk rfl rfl rfl fun a hk => ?_
                  refine sk hk rfl rfl rfl fun a hk => ?_
                  refine sk hk rfl rfl rfl fun a hk => ?_
                  refine sk hk rfl rfl rfl fun a hk => ?_
                  refine sk hk rfl rfl rfl fun a hk => ?_
                  refine sk hk rfl rfl rfl fun a hk => ?_
                  refine sk hk rfl rfl rfl fun a hk => ?_
                  refine sk hk rfl rfl rfl fun a hk => ?_
                  refine sk hk rfl rfl rfl fun a hk => ?_
                  refine sk hk rfl rfl rfl fun a hk => ?_
                  refine sk hk rfl rfl rfl fun a hk => ?_
                  refine sk hk rfl rfl rfl fun a hk => ?_
                  refine sv (.bool false) hk rfl rfl rfl fun a hk => ?_
                  refine sa _ rfl hk rfl rfl rfl fun a hk => ?_
                  show wpList _ _ _ [] _ _
                  refine wpList_nil ?_
                  obtain rfl := Option.some.inj H
                  show R9 _ _
                  rw [hR9]
                  exact ⟨false, rfl, (hk.c 2 rfl hk.k), (hs.pick [] rfl)⟩
              · have hk := hk.lit 39 c23 rfl
                refine sk hk rfl rfl rfl fun a hk => ?_
                refine sk hk rfl rfl rfl fun a hk => ?_
                refine sk hk rfl rfl rfl fun a hk => ?_
                refine sk hk rfl rfl rfl fun a hk => ?_
                refine sv (.bool false) hk rfl rfl rfl fun a hk => ?_
                refine sm _ rfl hk rfl rfl rfl fun a hk => ?_
                refine sk hk rfl rfl rfl fun a hk => ?_
                refine sk hk rfl rfl rfl fun a hk => ?_
                refine sk hk rfl rfl rfl fun a hk => ?_
                refine sk hk rfl rfl rfl fun a hk => ?_
                refine sk hk rfl rfl rfl fun a hk => ?_
                refine sk hk rfl rfl rfl fun a hk => ?_
                refine sk hk rfl rfl rfl fun a hk => ?_
                refine sk hk rfl rfl rfl fun a hk => ?_
                refine sk hk rfl rfl rfl fun a hk => ?_
                refine sk hk rfl rfl rfl fun a hk => ?_
                refine sk hk rfl rfl rfl fun a hk => ?_
                refine sk hk rfl rfl rfl fun a hk => ?_
                refine sv (.bool false) hk rfl rfl rfl fun a hk => ?_
                refine sa _ rfl hk rfl rfl rfl fun a hk => ?_
                show wpList _ _ _ [] _ _
                refine wpList_nil ?_
                obtain rfl := Option.some.inj H
                show R9 _ _
                rw [hR9]
                exact ⟨false, rfl, (hk.c 2 rfl hk.k), (hs.pick [] rfl)⟩
            · have hk := hk.lit 33 c22 rfl
              refine sk hk rfl rfl rfl fun a hk => ?_
              refine sk hk rfl rfl rfl fun a hk => ?_
              refine sk hk rfl rfl rfl fun a hk => ?_
              refine sk hk rfl rfl rfl fun a hk => ?_
              refine sv (.bool false) hk rfl rfl rfl fun a hk => ?_
              refine sm _ rfl hk rfl rfl rfl fun a hk => ?_
              refine sk hk rfl rfl rfl fun a hk => ?_
              refine sk hk rfl rfl rfl fun a hk => ?_
              refine sk hk rfl rfl rfl fun a hk => ?_
              refine sk hk rfl rfl rfl fun a hk => ?_
              refine sv (.bool false) hk rfl rfl rfl fun a hk => ?_
              refine sm _ rfl hk rfl rfl rfl fun a hk => ?_
              refine sk hk rfl rfl rfl fun a hk => ?_
              refine sk hk rfl rfl rfl fun a hk => ?_
              refine sk hk rfl rfl rfl fun a hk => ?_
              refine sk hk rfl rfl rfl fun a hk => ?_
              refine sk hk rfl rfl rfl fun a hk => ?_
              refine sk hk rfl rfl rfl fun a hk => ?_
              refine sk hk rfl rfl rfl fun a hk => ?_
              refine sk hk rfl rfl rfl fun a hk => ?_
              refine sk hk rfl rfl rfl fun a hk => ?_
              refine sk hk rfl rfl rfl fun a hk => ?_
              refine sk hk rfl rfl rfl fun a hk => ?_
              refine sk hk rfl rfl rfl fun a hk => ?_
              refine sv (.bool false) hk rfl rfl rfl fun a hk => ?_
              refine sa _ rfl hk rfl rfl rfl fun a hk => ?_
              show wpList _ _ _ [] _ _
              refine wpList_nil ?_
              obtain rfl := Option.some.inj H
              show R9 _ _
              rw [hR9]
              exact ⟨false, rfl, (hk.c 2 rfl hk.k), (hs.pick [] rfl)⟩
          · have hk := hk.lit 27 c21 rfl
            refine sk hk rfl rfl rfl fun a hk => ?_
            refine sk hk rfl rfl rfl fun a hk => ?_
            refine sk hk rfl rfl rfl fun a hk => ?_
            refine sk hk rfl rfl rfl fun a hk => ?_
            refine sv (.bool false) hk rfl rfl rfl fun a hk => ?_
            refine sm _ rfl hk rfl rfl rfl fun a hk => ?_
            refine sk hk rfl rfl rfl fun a hk => ?_
            refine sk hk rfl rfl rfl fun a hk => ?_
            refine sk hk rfl rfl rfl fun a hk => ?_
            refine sk hk rfl rfl rfl fun a hk => ?_
            refine sv (.bool false) hk rfl rfl rfl fun a hk => ?_
            refine sm _ rfl hk rfl rfl rfl fun a hk => ?_
            refine sk hk rfl rfl rfl fun a hk => ?_
            refine sk hk rfl rfl rfl fun a hk => ?_
            refine sk hk rfl rfl rfl fun a hk => ?_
            refine sk hk rfl rfl rfl fun a hk => ?_
            refine sv (.bool false) hk rfl rfl rfl fun a hk => ?_
            refine sm _ rfl hk rfl rfl rfl fun a hk => ?_
            refine sk hk rfl rfl rfl fun a hk => ?_
            refine sk hk rfl rfl rfl fun a hk => ?_
            refine sk hk rfl rfl rfl fun a hk => ?_
            refine sk hk rfl rfl rfl fun a hk => ?_
            refine sk hk rfl rfl rfl fun a hk => ?_
            refine sk hk rfl rfl rfl fun a hk => ?_
            refine sk hk rfl rfl rfl fun a hk => ?_
            refine sk hk rfl rfl rfl fun a hk => ?_
            refine sk hk rfl rfl rfl fun a hk => ?_
            refine sk hk rfl rfl rfl fun a hk => ?_
            refine sk hk rfl rfl rfl fun a hk => ?_
            refine sk hk rfl rfl rfl fun a hk => ?_
            refine sv (.bool false) hk rfl rfl rfl fun a hk => ?_
            refine sa _ rfl hk rfl rfl rfl fun a hk => ?_
            show wpList _ _ _ [] _ _
            refine wpList_nil ?_
            obtain rfl := Option.some.inj H
            show R9 _ _
            rw [hR9]
            exact ⟨false, rfl, (hk.c 2 rfl hk.k), (hs.pick [] rfl)⟩
        · have hk := hk.lit 16 c18 rfl
          refine sk hk rfl rfl rfl fun a hk => ?_
          refine sk hk rfl rfl rfl fun a hk => ?_
          refine sk hk rfl rfl rfl fun a hk => ?_
          refine sk hk rfl rfl rfl fun a hk => ?_
          refine sk hk rfl rfl rfl fun a hk => ?_
          refine sk hk rfl rfl rfl fun a hk => ?_
          refine sk hk rfl rfl rfl fun a hk => ?_
          refine sk hk rfl rfl rfl fun a hk => ?_
          refine sk hk rfl rfl rfl fun a hk => ?_
          refine sv (.bool false) hk rfl rfl rfl fun a hk => ?_
          refine sm _ rfl hk rfl rfl rfl fun a hk => ?_
          refine sk hk rfl rfl rfl fun a hk => ?_
          refine sk hk rfl rfl rfl fun a hk => ?_
          refine sk hk rfl rfl rfl fun a hk => ?_
          refine sk hk rfl rfl rfl fun a hk => ?_
          refine sv (.bool false) hk rfl rfl rfl fun a hk => ?_
          refine sm _ rfl hk rfl rfl rfl fun a hk => ?_
          refine sk hk rfl rfl rfl fun a hk => ?_
          refine sk hk rfl rfl rfl fun a hk => ?_
          refine sk hk rfl rfl rfl fun a hk => ?_
          refine sk hk rfl rfl rfl fun a hk => ?_
          refine sv (.bool false) hk rfl rfl rfl fun a hk => ?_
          refine sm _ rfl hk rfl rfl rfl fun a hk => ?_
          refine sk hk rfl rfl rfl fun a hk => ?_
          refine sk hk rfl rfl rfl fun a hk => ?_
          refine sk hk rfl rfl rfl fun a hk => ?_
          refine sk hk rfl rfl rfl fun a hk => ?_
          refine sv (.bool false) hk rfl rfl rfl fun a hk => ?_
          refine sm _ rfl hk rfl rfl rfl fun a hk => ?_
          refine sk hk rfl rfl rfl fun a hk => ?_
          refine sk hk rfl rfl rfl fun a hk => ?_
          refine sk hk rfl rfl rfl fun a hk => ?_
          refine sk hk rfl rfl rfl fun a hk => ?_
          refine sk hk rfl rfl rfl fun a hk => ?_
          refine sk hk rfl rfl rfl fun a hk => ?_
          refine sk hk rfl rfl rfl fun a hk => ?_
          refine sk hk rfl rfl rfl fun a hk => ?_
          refine sk hk rfl rfl rfl fun a hk => ?_
          refine sk hk rfl rfl rfl fun a hk => ?_
          refine sk hk rfl rfl rfl fun a hk => ?_
          refine sk hk rfl rfl rfl fun a hk => ?_
          refine sv (.bool false) hk rfl rfl rfl fun a hk => ?_
          refine sa _ rfl hk rfl rfl rfl fun a hk => ?_
          show wpList _ _ _ [] _ _
          refine wpList_nil ?_
          obtain rfl := Option.some.inj H
          show R9 _ _
          rw [hR9]
          exact ⟨false, rfl, (hk.c 2 rfl hk.k), (hs.pick [] rfl)⟩
      · have hk := hk.lit 11 c15 rfl
        refine sk hk rfl rfl rfl fun a hk => ?_
        refine sk hk rfl rfl rfl fun a hk => ?_
        refine sk hk rfl rfl rfl fun a hk => ?_
        refine sv (.bool false) hk rfl rfl rfl fun a hk => ?_
        refine sm _ rfl hk rfl rfl rfl fun a hk => ?_
        refine sk hk rfl rfl rfl fun a hk => ?_
        refine sk hk rfl rfl rfl fun a hk => ?_
        refine sk hk rfl rfl rfl fun a hk => ?_
        refine sk hk rfl rfl rfl fun a hk => ?_
        refine sk hk rfl rfl rfl fun a hk => ?_
        refine sk hk rfl rfl rfl fun a hk => ?_
        refine sk hk rfl rfl rfl fun a hk => ?_
        refine sk hk rfl rfl rfl fun a hk => ?_
        refine sk hk rfl rfl rfl fun a hk => ?_
        refine sv (.bool false) hk rfl rfl rfl fun a hk => ?_
        refine sm _ rfl hk rfl rfl rfl fun a hk => ?_
        refine sk hk rfl rfl rfl fun a hk => ?_
        refine sk hk rfl rfl rfl fun a hk => ?_
        refine sk hk rfl rfl rfl fun a hk => ?_
        refine sk hk rfl rfl rfl fun a hk => ?_
        refine sv (.bool false) hk rfl rfl rfl fun a hk => ?_
        refine sm _ rfl hk rfl rfl rfl fun a hk => ?_
        refine sk hk rfl rfl rfl fun a hk => ?_
        refine sk hk rfl rfl rfl fun a hk => ?_
        refine sk hk rfl rfl rfl fun a hk => ?_
        refine sk hk rfl rfl rfl fun a hk => ?_
        refine sv (.bool false) hk rfl rfl rfl fun a hk => ?_
        refine sm _ rfl hk rfl rfl rfl fun a hk => ?_
        refine sk hk rfl rfl rfl fun a hk => ?_
        refine sk hk rfl rfl rfl fun a hk => ?_
        refine sk hk rfl rfl rfl fun a hk => ?_
        refine sk hk rfl rfl rfl fun a hk => ?_
        refine sv (.bool false) hk rfl rfl rfl fun a hk => ?_
        refine sm _ rfl hk rfl rfl rfl fun a hk => ?_
        refine sk hk rfl rfl rfl fun a hk => ?_
        refine sk hk rfl rfl rfl fun a hk => ?_
        refine sk hk rfl rfl rfl fun a hk => ?_
        refine sk hk rfl rfl rfl fun a hk => ?_
        refine sk hk rfl rfl rfl fun a hk => ?_
        refine sk hk rfl rfl rfl fun a hk => ?_
        refine sk hk rfl rfl rfl fun a hk => ?_
        refine sk hk rfl rfl rfl fun a hk => ?_
        refine sk hk rfl rfl rfl fun a hk => ?_
        refine sk hk rfl rfl rfl fun a hk => ?_
        refine sk hk rfl rfl rfl fun a hk => ?_
        refine sk hk rfl rfl rfl fun a hk => ?_
        refine sv (.bool false) hk rfl rfl rfl fun a hk => ?_
        refine sa _ rfl hk rfl rfl rfl fun a hk => ?_
        show wpList _ _ _ [] _ _
        refine wpList_nil ?_
        obtain rfl := Option.some.inj H
        show R9 _ _
        rw [hR9]
        exact ⟨false, rfl, (hk.c 2 rfl hk.k), (hs.pick [] rfl)⟩
    · have hk := hk.lit 6 c12 rfl
      refine sk hk rfl rfl rfl fun a hk => ?_
      refine sk hk rfl rfl rfl fun a hk => ?_
      refine sk hk rfl rfl rfl fun a hk => ?_
      refine sv (.bool false) hk rfl rfl rfl fun a hk => ?_
      refine sm _ rfl hk rfl rfl rfl fun a hk => ?_
      refine sk hk rfl rfl rfl fun a hk => ?_
      refine sk hk rfl rfl rfl fun a hk => ?_
      refine sk hk rfl rfl rfl fun a hk => ?_
      refine sv (.bool false) hk rfl rfl rfl fun a hk => ?_
      refine sm _ rfl hk rfl rfl rfl fun a hk => ?_
      refine sk hk rfl rfl rfl fun a hk => ?_
      refine sk hk rfl rfl rfl fun a hk => ?_
      refine sk hk rfl rfl rfl fun a hk => ?_
      refine sk hk rfl rfl rfl fun a hk => ?_
      refine sk hk rfl rfl rfl fun a hk => ?_
      refine sk hk rfl rfl rfl fun a hk => ?_
      refine sk hk rfl rfl rfl fun a hk => ?_
      refine sk hk rfl rfl rfl fun a hk => ?_
      refine sk hk rfl rfl rfl fun a hk => ?_
      refine sv (.bool false) hk rfl rfl rfl fun a hk => ?_
      refine sm _ rfl hk rfl rfl rfl fun a hk => ?_
      refine sk hk rfl rfl rfl fun a hk => ?_
      refine sk hk rfl rfl rfl fun a hk => ?_
      refine sk hk rfl rfl rfl fun a hk => ?_
      refine sk hk rfl rfl rfl fun a hk => ?_
      refine sv (.bool false) hk rfl rfl rfl fun a hk => ?_
      refine sm _ rfl hk rfl rfl rfl fun a hk => ?_
      refine sk hk rfl rfl rfl fun a hk => ?_
      refine sk hk rfl rfl rfl fun a hk => ?_
      refine sk hk rfl rfl rfl fun a hk => ?_
      refine sk hk rfl rfl rfl fun a hk => ?_
      refine sv (.bool false) hk rfl rfl rfl fun a hk => ?_
      refine sm _ rfl hk rfl rfl rfl fun a hk => ?_
      refine sk hk rfl rfl rfl fun a hk => ?_
      refine sk hk rfl rfl rfl fun a hk => ?_
      refine sk hk rfl rfl rfl fun a hk => ?_
      refine sk hk rfl rfl rfl fun a hk => ?_
      refine sv (.bool false) hk rfl rfl rfl fun a hk => ?_
      refine sm _ rfl hk rfl rfl rfl fun a hk => ?_
      refine sk hk rfl rfl rfl fun a hk => ?_
      refine sk hk rfl rfl rfl fun a hk => ?_
      refine sk hk rfl rfl rfl fun a hk => ?_
      refine sk hk rfl rfl rfl fun a hk => ?_
      refine sk hk rfl rfl rfl fun a hk => ?_
      refine sk hk rfl rfl rfl fun a hk => ?_
      refine sk hk rfl rfl rfl fun a hk => ?_
      refine sk hk rfl rfl rfl fun a hk => ?_
      refine sk hk rfl rfl rfl fun a hk => ?_
      refine sk hk rfl rfl rfl fun a hk => ?_
      refine sk hk rfl rfl rfl fun a hk => ?_
      refine sk hk rfl rfl rfl fun a hk => ?_
      refine sv (.bool false) hk rfl rfl rfl fun a hk => ?_
      refine sa _ rfl hk rfl rfl rfl fun a hk => ?_
      show wpList _ _ _ [] _ _
      refine wpList_nil ?_
      obtain rfl := Option.some.inj H
      show R9 _ _
      rw [hR9]
      exact ⟨false, rfl, (hk.c 2 rfl hk.k), (hs.pick [] rfl)⟩
  · intro a w hR0
    rw [hR9] at hR0
    obtain ⟨u5, rfl, hk, hs⟩ := hR0
    have H := HL8
    try dsimp only at H
    refine hK3 _ _ ?_
    refine wp_ret ?_
    obtain rfl := Option.some.inj H
    exact fin hk _ [(.bool u5)] rfl ⟨rfl, trivial⟩ ⟨rfl, (hs.pick [] rfl).dnil⟩

noncomputable def spec_l05In.f (x0 : Int) : Option (Bool) :=
  ((spec_l01In.f x0 0 39).bind fun y3 => (some y3))
set_option maxRecDepth 100000 in
set_option maxHeartbeats 0 in
theorem spec_l05In_t (w0 : World) (x0 : Int) (r : Bool) (H : spec_l05In.f x0 = some r) :
    Calls Try.prog 57 #[.int .i64 x0] w0 (Ret (fun v w => v = .bool r ∧ Sat [] w0 w [] [])) := by
  have hs : Sat [] w0 w0 [] [] := Sat.init w0 [] [] (by simp) (by simp) List.nodup_nil (by simp [blks])
  unfold spec_l05In.f at H
  refine enter Try.func57 rfl Try.ntmps57 rfl fun a hk => ?_
  apply wp_seq_k; intro K1 hK1
  apply wp_region_lit
  refine sa _ rfl hk rfl rfl rfl fun a hk => ?_
  show wpList _ _ _ [] _ _
  refine wpList_nil ?_
  refine hK1 _ _ ?_
  apply wp_seq_k; intro K2 hK2
  apply wp_region_lit
  refine sm _ rfl hk rfl rfl rfl fun a hk => ?_
  obtain ⟨y3, h4, H⟩ := bind_some H
  refine sc rfl en53 hk rfl rfl rfl (spec_l01In_t _ x0 0 39 _ h4) ?_
  rintro _ w ⟨rfl, hG⟩ a hk
  have hs := hs.call0 hG
  refine sa _ rfl hk rfl rfl rfl fun a hk => ?_
  show wpList _ _ _ [] _ _
  refine wpList_nil ?_
  refine hK2 _ _ ?_
  refine wp_ret ?_
  obtain rfl := Option.some.inj H
  exact fin hk _ [(.bool y3)] rfl ⟨rfl, trivial⟩ ⟨rfl, (hs.pick [] rfl).dnil⟩

noncomputable def spec_DeviceOK.s0 (x0 : S_Device) (u18 : Int) : Option ((Int) ⊕ Ex (Unit) (Bool)) :=
  (bif (decide (u18 < (x0.Sure.length : Int))) then (if 0 ≤ u18 ∧ u18 < (x0.Sure.length : Int) then (bif (decide (((x0.Sure.getD u18.toNat ByteArray.empty).size : Int) > 700)) then (some (.inr (.ret false))) else (some (.inl (w64 (u18 + 1))))) else none) else (some (.inr (.out ()))))
noncomputable def spec_DeviceOK.s1 (x0 : S_Device) (u43 : Int) : Option ((Int) ⊕ Ex (Unit) (Bool)) :=
  (bif (decide (u43 < (x0.Unsure.length : Int))) then (((if 0 ≤ u43 ∧ u43 < (x0.Unsure.length : Int) then ((spec_l05In.f ((x0.Unsure.getD u43.toNat z_Io).At)).bind fun y67 => (bif (!y67) then (some true) else (if 0 ≤ u43 ∧ u43 < (x0.Unsure.length : Int) then (some (decide ((((x0.Unsure.getD u43.toNat z_Io).Data).size : Int) > 700))) else none))) else none) : Option (Bool)).bind fun u58 => (bif u58 then (some (.inr (.ret false))) else (some (.inl (w64 (u43 + 1)))))) else (some (.inr (.out ()))))
noncomputable def spec_DeviceOK.f (x0 : S_Device) : Option (Bool) :=
  (((bif ((x0.Sure.length : Int) != 40) then (some true) else (some (decide ((x0.Unsure.length : Int) > 60)))) : Option (Bool)).bind fun u6 => (bif u6 then (some false) else ((loopO (fun s => spec_DeviceOK.s0 x0 s) 0).bind fun o => match o with | .out _ => ((loopO (fun s => spec_DeviceOK.s1 x0 s) 0).bind fun o => match o with | .out _ => (some true) | .ret r => (some r)) | .ret r => (some r))))
set_option maxRecDepth 100000 in
set_option maxHeartbeats 0 in
theorem spec_DeviceOK_t (w0 : World) (x0 : S_Device) (A0_0 : Option Addr) (p0_0 : Nat) (k0_0 : Chunk) (v0_0 : View Lay.str A0_0 p0_0 x0.Sure k0_0) (w0_0 : Has w0 k0_0) (A0_1 : Option Addr) (p0_1 : Nat) (k0_1 : Chunk) (v0_1 : View L_Io A0_1 p0_1 x0.Unsure k0_1) (w0_1 : Has w0 k0_1) (r : Bool) (H : spec_DeviceOK.f x0 = some r) :
    Calls Try.prog 49 #[.agg #[.slice A0_0 x0.Sure.length p0_0, .slice A0_1 x0.Unsure.length p0_1]] w0 (Ret (fun v w => v = .bool r ∧ Sat [] w0 w [] [])) := by
  have hs : Sat [] w0 w0 [(1, k0_0), (2, k0_1)] [] := Sat.init w0 [(1, k0_0), (2, k0_1)] [] (by simp only [List.mem_cons, List.not_mem_nil, or_false]; rintro x (rfl | rfl) <;> assumption) (by simp) List.nodup_nil (by simp [blks])
  unfold spec_DeviceOK.f at H
  refine enter Try.func49 rfl Try.ntmps49 rfl fun a hk => ?_
  apply wp_seq_k; intro K1 hK1
  apply wp_region_lit
  refine sbx 3 hs rfl hk rfl rfl rfl rfl fun b2 w a hk hs => ?_
  refine sa _ rfl hk rfl rfl rfl fun a hk => ?_
  show wpList _ _ _ [] _ _
  refine wpList_nil ?_
  refine hK1 _ _ ?_
  apply wp_seq_k; intro K3 hK3
  apply wp_seq_k; intro K4 hK4
  obtain ⟨o7, h8, HL9⟩ := bind_some H
  clear H
  obtain ⟨R10, hR10⟩ : ∃ R : Act → World → Prop, R = fun a w => ∃ (u6 : Bool), u6 = o7 ∧ Kn [(1, (.pointer (some ⟨b2, 0, none⟩))), (14, (.bool u6))] 54 a ∧ Sat [] w0 w [(1, k0_0), (2, k0_1)] [(3, [(b2, .cells #[.slice A0_0 x0.Sure.length p0_0, .slice A0_1 x0.Unsure.length p0_1] 35 (0, 0))])] := ⟨_, rfl⟩
  refine wp_cutq R10 ?_ ?_
  · have H := h8
    apply wp_region_lit
    refine sf ⟨b2, 0, none⟩ rfl hk rfl rfl rfl fd35_0 rfl fun a hk => ?_
    refine sl rfl hk rfl rfl rfl ag24 (box_cell hs (k := 3) rfl rfl) fun a hk => ?_
    refine sle rfl hk rfl rfl rfl un24 fun a hk => ?_
    refine sv (.bool ((x0.Sure.length : Int) != 40)) hk rfl rfl rfl fun a hk => ?_
    refine sm _ rfl hk rfl rfl rfl fun a hk => ?_
    rcases cond_some H with ⟨c11, H⟩ | ⟨c11, H⟩
    · have hk := hk.lit 9 c11 rfl
      refine sk hk rfl rfl rfl fun a hk => ?_
      refine sk hk rfl rfl rfl fun a hk => ?_
      refine sk hk rfl rfl rfl fun a hk => ?_
      refine sk hk rfl rfl rfl fun a hk => ?_
      refine sv (.bool true) hk rfl rfl rfl fun a hk => ?_
      show wpList _ _ _ [] _ _
      refine wpList_nil ?_
      obtain rfl := Option.some.inj H
      show R10 _ _
      rw [hR10]
      exact ⟨true, rfl, (hk.c 1 rfl (hk.c 14 rfl hk.k)), (hs.pick [(3, 3)] rfl)⟩
    · have hk := hk.lit 9 c11 rfl
      refine sf ⟨b2, 1, none⟩ rfl hk rfl rfl rfl fd35_1 rfl fun a hk => ?_
      refine sl rfl hk rfl rfl rfl ag33 (box_cell hs (k := 3) rfl rfl) fun a hk => ?_
      refine sle rfl hk rfl rfl rfl un33 fun a hk => ?_
      refine sv (.bool (decide ((x0.Unsure.length : Int) > 60))) hk rfl rfl rfl fun a hk => ?_
      refine sv (.bool (decide ((x0.Unsure.length : Int) > 60))) hk rfl rfl rfl fun a hk => ?_
      show wpList _ _ _ [] _ _
      refine wpList_nil ?_
      obtain rfl := Option.some.inj H
      show R10 _ _
      rw [hR10]
      exact ⟨(decide ((x0.Unsure.length : Int) > 60)), rfl, (hk.c 1 rfl (hk.c 14 rfl hk.k)), (hs.pick [(3, 3)] rfl)⟩
  · intro a w hR0
    rw [hR10] at hR0
    obtain ⟨u6, rfl, hk, hs⟩ := hR0
    have H := HL9
    try dsimp only at H
    refine hK4 _ _ ?_
    rcases cond_some H with ⟨c12, H⟩ | ⟨c12, H⟩
    · have hk := hk.lit 14 c12 rfl
      refine cnd_true hk rfl rfl ?_
      apply wp_seq_k; intro K13 hK13
      apply wp_region_lit
      refine sa _ rfl hk rfl rfl rfl fun a hk => ?_
      show wpList _ _ _ [] _ _
      refine wpList_nil ?_
      refine hK13 _ _ ?_
      refine wp_ret ?_
      obtain rfl := Option.some.inj H
      exact fin hk _ [(.bool false)] rfl ⟨rfl, trivial⟩ ⟨rfl, (hs.pick [] rfl).dnil⟩
    · have hk := hk.lit 14 c12 rfl
      refine cnd_false hk rfl rfl ?_
      refine wp_skip ?_
      refine hK3 _ _ ?_
      apply wp_seq_k; intro K14 hK14
      apply wp_seq_k; intro K15 hK15
      apply wp_region_lit
      refine sa _ rfl hk rfl rfl rfl fun a hk => ?_
      show wpList _ _ _ [] _ _
      refine wpList_nil ?_
      refine hK15 _ _ ?_
      obtain ⟨o19, h20, HL21⟩ := bind_some H
      clear H
      obtain ⟨R22, hR22⟩ : ∃ R : Act → World → Prop, R = fun a w => o19 = .out () ∧ Kn [(1, (.pointer (some ⟨b2, 0, none⟩)))] 54 a ∧ Sat [] w0 w [(1, k0_0), (2, k0_1)] [(3, [(b2, .cells #[.slice A0_0 x0.Sure.length p0_0, .slice A0_1 x0.Unsure.length p0_1] 35 (0, 0))])] := ⟨_, rfl⟩
      refine wp_cutq R22 ?_ ?_
      · refine wp_block ?_
        obtain ⟨fu24, h20⟩ := loopO_some h20
        obtain ⟨I23, hI23⟩ : ∃ I : Nat → Act → World → Prop, I = fun fu a w => ∃ (u18 : Int), loopN (fun s => spec_DeviceOK.s0 x0 s) fu u18 = some o19 ∧ Kn [(1, (.pointer (some ⟨b2, 0, none⟩))), (3, (.int .i64 u18))] 54 a ∧ Sat [] w0 w [(1, k0_0), (2, k0_1)] [(3, [(b2, .cells #[.slice A0_0 x0.Sure.length p0_0, .slice A0_1 x0.Unsure.length p0_1] 35 (0, 0))])] := ⟨_, rfl⟩
        refine wp_loop_ghost I23 fu24 ?_ ?_
        · rw [hI23]
          exact ⟨0, h20, (hk.c 1 rfl (hk.c 3 rfl hk.k)), (hs.pick [(3, 3)] rfl)⟩
        · clear h20 hk hs
          intro fu24 a w hI0
          rw [hI23] at hI0
          obtain ⟨u18, hi, hk, hs⟩ := hI0
          obtain ⟨x25, H, h26⟩ := loop_round hi
          try dsimp only at H
          unfold spec_DeviceOK.s0 at H
          apply wp_seq_k; intro K27 hK27
          apply wp_seq_k; intro K28 hK28
          apply wp_region_lit
          refine sm _ rfl hk rfl rfl rfl fun a hk => ?_
          refine sf ⟨b2, 0, none⟩ rfl hk rfl rfl rfl fd35_0 rfl fun a hk => ?_
          refine sl rfl hk rfl rfl rfl ag24 (box_cell hs (k := 3) rfl rfl) fun a hk => ?_
          refine sle rfl hk rfl rfl rfl un24 fun a hk => ?_
          refine sv (.bool (decide (u18 < (x0.Sure.length : Int)))) hk rfl rfl rfl fun a hk => ?_
          show wpList _ _ _ [] _ _
          refine wpList_nil ?_
          refine hK28 _ _ ?_
          rcases cond_some H with ⟨c29, H⟩ | ⟨c29, H⟩
          · have hk := hk.lit 19 c29 rfl
            refine cnd_true hk rfl rfl ?_
            refine wp_skip ?_
            refine hK27 _ _ ?_
            apply wp_seq_k; intro K30 hK30
            refine wp_block ?_
            apply wp_seq_k; intro K31 hK31
            apply wp_region_lit
            refine sf ⟨b2, 0, none⟩ rfl hk rfl rfl rfl fd35_0 rfl fun a hk => ?_
            refine sl rfl hk rfl rfl rfl ag24 (box_cell hs (k := 3) rfl rfl) fun a hk => ?_
            refine sm _ rfl hk rfl rfl rfl fun a hk => ?_
            rcases ite_some H with ⟨c32, H⟩ | ⟨_, H⟩
            rotate_left
            · cases H
            obtain ⟨b33, q34, hAc32⟩ := (v0_0).some_ u18 c32.1 c32.2
            refine si rfl hk rfl rfl rfl rfl un24 sz9 c32.1 c32.2 hAc32 fun a hk => ?_
            obtain ⟨_, rfl, e35⟩ := (v0_0).at_ ByteArray.empty u18 c32.1 c32.2
            refine sl (v := (.string (x0.Sure.getD u18.toNat ByteArray.empty))) rfl hk rfl rfl rfl ag9 ((e35 0 _ rfl).cell (hs.hasD (k := 1) rfl)) fun a hk => ?_
            refine sles rfl hk rfl rfl rfl un9 fun a hk => ?_
            refine sv (.bool (decide (((x0.Sure.getD u18.toNat ByteArray.empty).size : Int) > 700))) hk rfl rfl rfl fun a hk => ?_
            show wpList _ _ _ [] _ _
            refine wpList_nil ?_
            refine hK31 _ _ ?_
            rcases cond_some H with ⟨c36, H⟩ | ⟨c36, H⟩
            · have hk := hk.lit 28 c36 rfl
              refine cnd_true hk rfl rfl ?_
              apply wp_seq_k; intro K37 hK37
              apply wp_region_lit
              refine sa _ rfl hk rfl rfl rfl fun a hk => ?_
              show wpList _ _ _ [] _ _
              refine wpList_nil ?_
              refine hK37 _ _ ?_
              refine wp_ret ?_
              obtain rfl := Option.some.inj H
              have ho19 := h26
              try dsimp only at ho19
              subst ho19
              have H := HL21
              try dsimp only at H
              obtain rfl := Option.some.inj H
              exact fin hk _ [(.bool false)] rfl ⟨rfl, trivial⟩ ⟨rfl, (hs.pick [] rfl).dnil⟩
            · have hk := hk.lit 28 c36 rfl
              refine cnd_false hk rfl rfl ?_
              refine wp_skip ?_
              refine hK30 _ _ ?_
              apply wp_region_lit
              refine sm _ rfl hk rfl rfl rfl fun a hk => ?_
              refine sv (.int .i64 (w64 (u18 + 1))) hk rfl rfl rfl fun a hk => ?_
              refine sa _ rfl hk rfl rfl rfl fun a hk => ?_
              show wpList _ _ _ [] _ _
              refine wpList_nil ?_
              obtain rfl := Option.some.inj H
              obtain ⟨m38, hmm38, h26⟩ := h26
              show ∃ n', n' < _ ∧ I23 n' _ _
              refine ⟨m38, hmm38, ?_⟩
              rw [hI23]
              exact ⟨(w64 (u18 + 1)), h26, (hk.c 1 rfl (hk.c 3 rfl hk.k)), (hs.pick [(3, 3)] rfl)⟩
          · have hk := hk.lit 19 c29 rfl
            refine cnd_false hk rfl rfl ?_
            refine wp_exit ?_
            obtain rfl := Option.some.inj H
            show R22 _ _
            rw [hR22]
            exact ⟨h26.symm, (hk.c 1 rfl hk.k), (hs.pick [(3, 3)] rfl)⟩
      · intro a w hR0
        rw [hR22] at hR0
        obtain ⟨rfl, hk, hs⟩ := hR0
        have H := HL21
        try dsimp only at H
        refine hK14 _ _ ?_
        apply wp_seq_k; intro K39 hK39
        apply wp_seq_k; intro K40 hK40
        apply wp_region_lit
        refine sa _ rfl hk rfl rfl rfl fun a hk => ?_
        show wpList _ _ _ [] _ _
        refine wpList_nil ?_
        refine hK40 _ _ ?_
        obtain ⟨o44, h45, HL46⟩ := bind_some H
        clear H
        obtain ⟨R47, hR47⟩ : ∃ R : Act → World → Prop, R = fun a w => o44 = .out () ∧ Kn [] 54 a ∧ Sat [] w0 w [(1, k0_0), (2, k0_1)] [] := ⟨_, rfl⟩
        refine wp_cutq R47 ?_ ?_
        · refine wp_block ?_
          obtain ⟨fu49, h45⟩ := loopO_some h45
          obtain ⟨I48, hI48⟩ : ∃ I : Nat → Act → World → Prop, I = fun fu a w => ∃ (u43 : Int), loopN (fun s => spec_DeviceOK.s1 x0 s) fu u43 = some o44 ∧ Kn [(1, (.pointer (some ⟨b2, 0, none⟩))), (4, (.int .i64 u43))] 54 a ∧ Sat [] w0 w [(1, k0_0), (2, k0_1)] [(3, [(b2, .cells #[.slice A0_0 x0.Sure.length p0_0, .slice A0_1 x0.Unsure.length p0_1] 35 (0, 0))])] := ⟨_, rfl⟩
          refine wp_loop_ghost I48 fu49 ?_ ?_
          · rw [hI48]
            exact ⟨0, h45, (hk.c 1 rfl (hk.c 4 rfl hk.k)), (hs.pick [(3, 3)] rfl)⟩
          · clear h45 hk hs
            intro fu49 a w hI0
            rw [hI48] at hI0
            obtain ⟨u43, hi, hk, hs⟩ := hI0
            obtain ⟨x50, H, h51⟩ := loop_round hi
            try dsimp only at H
            unfold spec_DeviceOK.s1 at H
            apply wp_seq_k; intro K52 hK52
            apply wp_seq_k; intro K53 hK53
            apply wp_region_lit
            refine sm _ rfl hk rfl rfl rfl fun a hk => ?_
            refine sf ⟨b2, 1, none⟩ rfl hk rfl rfl rfl fd35_1 rfl fun a hk => ?_
            refine sl rfl hk rfl rfl rfl ag33 (box_cell hs (k := 3) rfl rfl) fun a hk => ?_
            refine sle rfl hk rfl rfl rfl un33 fun a hk => ?_
            refine sv (.bool (decide (u43 < (x0.Unsure.length : Int)))) hk rfl rfl rfl fun a hk => ?_
            show wpList _ _ _ [] _ _
            refine wpList_nil ?_
            refine hK53 _ _ ?_
            rcases cond_some H with ⟨c54, H⟩ | ⟨c54, H⟩
            · have hk := hk.lit 33 c54 rfl
              refine cnd_true hk rfl rfl ?_
              refine wp_skip ?_
              refine hK52 _ _ ?_
              apply wp_seq_k; intro K55 hK55
              refine wp_block ?_
              apply wp_seq_k; intro K56 hK56
              obtain ⟨o59, h60, HL61⟩ := bind_some H
              clear H
              obtain ⟨R62, hR62⟩ : ∃ R : Act → World → Prop, R = fun a w => ∃ (u58 : Bool), u58 = o59 ∧ Kn [(1, (.pointer (some ⟨b2, 0, none⟩))), (4, (.int .i64 u43)), (53, (.bool u58))] 54 a ∧ Sat [] w0 w [(1, k0_0), (2, k0_1)] [(3, [(b2, .cells #[.slice A0_0 x0.Sure.length p0_0, .slice A0_1 x0.Unsure.length p0_1] 35 (0, 0))])] := ⟨_, rfl⟩
              refine wp_cutq R62 ?_ ?_
              · have H := h60
                apply wp_region_lit
                refine sf ⟨b2, 1, none⟩ rfl hk rfl rfl rfl fd35_1 rfl fun a hk => ?_
                refine sl rfl hk rfl rfl rfl ag33 (box_cell hs (k := 3) rfl rfl) fun a hk => ?_
                refine sm _ rfl hk rfl rfl rfl fun a hk => ?_
                rcases ite_some H with ⟨c63, H⟩ | ⟨_, H⟩
                rotate_left
                · cases H
                obtain ⟨b64, q65, hAc63⟩ := (v0_1).some_ u43 c63.1 c63.2
                refine si rfl hk rfl rfl rfl rfl un33 sz114 c63.1 c63.2 hAc63 fun a hk => ?_
                refine sf (padd A0_1 (u43.toNat * 2 + 0)) rfl hk rfl rfl rfl fd114_0 (padd_add _ _ _) fun a hk => ?_
                obtain ⟨_, rfl, e66⟩ := (v0_1).at_ z_Io u43 c63.1 c63.2
                refine sl (v := (.int .i64 ((x0.Unsure.getD u43.toNat z_Io).At))) rfl hk rfl rfl rfl ag3 ((e66 0 _ rfl).cell (hs.hasD (k := 2) rfl)) fun a hk => ?_
                obtain ⟨y67, h68, H⟩ := bind_some H
                refine sc rfl en57 hk rfl rfl rfl (spec_l05In_t _ ((x0.Unsure.getD u43.toNat z_Io).At) _ h68) ?_
                rintro _ w ⟨rfl, hG⟩ a hk
                have hs := hs.call0 hG
                refine sv (.bool (!y67)) hk rfl rfl rfl fun a hk => ?_
                refine sm _ rfl hk rfl rfl rfl fun a hk => ?_
                rcases cond_some H with ⟨c69, H⟩ | ⟨c69, H⟩
                · have hk := hk.lit 44 c69 rfl
                  refine sk hk rfl rfl rfl fun a hk => ?_
                  refine sk hk rfl rfl rfl fun a hk => ?_
                  refine sk hk rfl rfl rfl fun a hk => ?_
                  refine sk hk rfl rfl rfl fun a hk => ?_
                  refine sk hk rfl rfl rfl fun a hk => ?_
                  refine sk hk rfl rfl rfl fun a hk => ?_
                  refine sk hk rfl rfl rfl fun a hk => ?_
                  refine sk hk rfl rfl rfl fun a hk => ?_
                  refine sv (.bool true) hk rfl rfl rfl fun a hk => ?_
                  show wpList _ _ _ [] _ _
                  refine wpList_nil ?_
                  obtain rfl := Option.some.inj H
                  show R62 _ _
                  rw [hR62]
                  exact ⟨true, rfl, (hk.c 1 rfl (hk.c 4 rfl (hk.c 53 rfl hk.k))), (hs.pick [(3, 3)] rfl)⟩
                · have hk := hk.lit 44 c69 rfl
                  refine sf ⟨b2, 1, none⟩ rfl hk rfl rfl rfl fd35_1 rfl fun a hk => ?_
                  refine sl rfl hk rfl rfl rfl ag33 (box_cell hs (k := 3) rfl rfl) fun a hk => ?_
                  refine sm _ rfl hk rfl rfl rfl fun a hk => ?_
                  rcases ite_some H with ⟨c70, H⟩ | ⟨_, H⟩
                  rotate_left
                  · cases H
                  obtain ⟨b71, q72, hAc70⟩ := (v0_1).some_ u43 c70.1 c70.2
                  refine si rfl hk rfl rfl rfl rfl un33 sz114 c70.1 c70.2 hAc70 fun a hk => ?_
                  refine sf (padd A0_1 (u43.toNat * 2 + 1)) rfl hk rfl rfl rfl fd114_1 (padd_add _ _ _) fun a hk => ?_
                  obtain ⟨_, rfl, e73⟩ := (v0_1).at_ z_Io u43 c70.1 c70.2
                  refine sl (v := (.string ((x0.Unsure.getD u43.toNat z_Io).Data))) rfl hk rfl rfl rfl ag9 ((e73 1 _ rfl).cell (hs.hasD (k := 2) rfl)) fun a hk => ?_
                  refine sles rfl hk rfl rfl rfl un9 fun a hk => ?_
                  refine sv (.bool (decide ((((x0.Unsure.getD u43.toNat z_Io).Data).size : Int) > 700))) hk rfl rfl rfl fun a hk => ?_
                  refine sv (.bool (decide ((((x0.Unsure.getD u43.toNat z_Io).Data).size : Int) > 700))) hk rfl rfl rfl fun a hk => ?_
                  show wpList _ _ _ [] _ _
                  refine wpList_nil ?_
                  obtain rfl := Option.some.inj H
                  show R62 _ _
                  rw [hR62]
                  exact ⟨(decide ((((x0.Unsure.getD u43.toNat z_Io).Data).size : Int) > 700)), rfl, (hk.c 1 rfl (hk.c 4 rfl (hk.c 53 rfl hk.k))), (hs.pick [(3, 3)] rfl)⟩
              · intro a w hR0
                rw [hR62] at hR0
                obtain ⟨u58, rfl, hk, hs⟩ := hR0
                have H := HL61
                try dsimp only at H
                refine hK56 _ _ ?_
                rcases cond_some H with ⟨c74, H⟩ | ⟨c74, H⟩
                · have hk := hk.lit 53 c74 rfl
                  refine cnd_true hk rfl rfl ?_
                  apply wp_seq_k; intro K75 hK75
                  apply wp_region_lit
                  refine sa _ rfl hk rfl rfl rfl fun a hk => ?_
                  show wpList _ _ _ [] _ _
                  refine wpList_nil ?_
                  refine hK75 _ _ ?_
                  refine wp_ret ?_
                  obtain rfl := Option.some.inj H
                  have ho44 := h51
                  try dsimp only at ho44
                  subst ho44
                  have H := HL46
                  try dsimp only at H
                  obtain rfl := Option.some.inj H
                  exact fin hk _ [(.bool false)] rfl ⟨rfl, trivial⟩ ⟨rfl, (hs.pick [] rfl).dnil⟩
                · have hk := hk.lit 53 c74 rfl
                  refine cnd_false hk rfl rfl ?_
                  refine wp_skip ?_
                  refine hK55 _ _ ?_
                  apply wp_region_lit
                  refine sm _ rfl hk rfl rfl rfl fun a hk => ?_
                  refine sv (.int .i64 (w64 (u43 + 1))) hk rfl rfl rfl fun a hk => ?_
                  refine sa _ rfl hk rfl rfl rfl fun a hk => ?_
                  show wpList _ _ _ [] _ _
                  refine wpList_nil ?_
                  obtain rfl := Option.some.inj H
                  obtain ⟨m76, hmm76, h51⟩ := h51
                  show ∃ n', n' < _ ∧ I48 n' _ _
                  refine ⟨m76, hmm76, ?_⟩
                  rw [hI48]
                  exact ⟨(w64 (u43 + 1)), h51, (hk.c 1 rfl (hk.c 4 rfl hk.k)), (hs.pick [(3, 3)] rfl)⟩
            · have hk := hk.lit 33 c54 rfl
              refine cnd_false hk rfl rfl ?_
              refine wp_exit ?_
              obtain rfl := Option.some.inj H
              show R47 _ _
              rw [hR47]
              exact ⟨h51.symm, hk.k, (hs.pick [] rfl)⟩
        · intro a w hR0
          rw [hR47] at hR0
          obtain ⟨rfl, hk, hs⟩ := hR0
          have H := HL46
          try dsimp only at H
          refine hK39 _ _ ?_
          apply wp_seq_k; intro K77 hK77
          apply wp_region_lit
          refine sa _ rfl hk rfl rfl rfl fun a hk => ?_
          show wpList _ _ _ [] _ _
          refine wpList_nil ?_
          refine hK77 _ _ ?_
          refine wp_ret ?_
          obtain rfl := Option.some.inj H
          exact fin hk _ [(.bool true)] rfl ⟨rfl, trivial⟩ ⟨rfl, (hs.pick [] rfl).dnil⟩

noncomputable def spec_StoreOK.f (x0 : S_Store) : Option (Bool) :=
  (((bif ((x0.Key.size : Int) == 32) then ((spec_RegisterOK.f x0.Reg).bind fun y11 => (bif y11 then ((spec_DeviceOK.f x0.Device).bind fun y14 => (bif y14 then (bif ((x0.Device.Unsure.length : Int) == 0) then (bif x0.Up then (some (!x0.Dead)) else (some true)) else (some false)) else (some false))) else (some false))) else (some false)) : Option (Bool)).bind fun u5 => (some u5))
set_option maxRecDepth 100000 in
set_option maxHeartbeats 0 in
theorem spec_StoreOK_t (w0 : World) (x0 : S_Store) (A0_0 : Option Addr) (p0_0 : Nat) (k0_0 : Chunk) (v0_0 : View Lay.str A0_0 p0_0 x0.Device.Sure k0_0) (w0_0 : Has w0 k0_0) (A0_1 : Option Addr) (p0_1 : Nat) (k0_1 : Chunk) (v0_1 : View L_Io A0_1 p0_1 x0.Device.Unsure k0_1) (w0_1 : Has w0 k0_1) (r : Bool) (H : spec_StoreOK.f x0 = some r) :
    Calls Try.prog 16 #[.agg #[.string x0.Key, .int .i64 x0.Reg.Epoch, .int .i64 x0.Reg.Side, .int .i64 x0.Reg.Count, .int .i64 x0.Reg.Boot, .string x0.Reg.Base, .string x0.Reg.Tip, .string x0.Reg.Root, .slice A0_0 x0.Device.Sure.length p0_0, .slice A0_1 x0.Device.Unsure.length p0_1, .bool x0.Up, .bool x0.Dead]] w0 (Ret (fun v w => v = .bool r ∧ Sat [] w0 w [] [])) := by
  have hs : Sat [] w0 w0 [(1, k0_0), (2, k0_1)] [] := Sat.init w0 [(1, k0_0), (2, k0_1)] [] (by simp only [List.mem_cons, List.not_mem_nil, or_false]; rintro x (rfl | rfl) <;> assumption) (by simp) List.nodup_nil (by simp [blks])
  unfold spec_StoreOK.f at H
  refine enter Try.func16 rfl Try.ntmps16 rfl fun a hk => ?_
  apply wp_seq_k; intro K1 hK1
  apply wp_region_lit
  refine sbx 3 hs rfl hk rfl rfl rfl rfl fun b2 w a hk hs => ?_
  refine sa _ rfl hk rfl rfl rfl fun a hk => ?_
  show wpList _ _ _ [] _ _
  refine wpList_nil ?_
  refine hK1 _ _ ?_
  apply wp_seq_k; intro K3 hK3
  obtain ⟨o6, h7, HL8⟩ := bind_some H
  clear H
  obtain ⟨R9, hR9⟩ : ∃ R : Act → World → Prop, R = fun a w => ∃ (u5 : Bool), u5 = o6 ∧ Kn [(2, (.bool u5))] 33 a ∧ Sat [] w0 w [(1, k0_0), (2, k0_1)] [] := ⟨_, rfl⟩
  refine wp_cutq R9 ?_ ?_
  · have H := h7
    apply wp_region_lit
    refine sf ⟨b2, 0, none⟩ rfl hk rfl rfl rfl fd37_0 rfl fun a hk => ?_
    refine sl rfl hk rfl rfl rfl ag9 (box_cell hs (k := 3) rfl rfl) fun a hk => ?_
    refine sles rfl hk rfl rfl rfl un9 fun a hk => ?_
    refine sv (.bool ((x0.Key.size : Int) == 32)) hk rfl rfl rfl fun a hk => ?_
    refine sm _ rfl hk rfl rfl rfl fun a hk => ?_
    rcases cond_some H with ⟨c10, H⟩ | ⟨c10, H⟩
    · have hk := hk.lit 7 c10 rfl
      refine sf ⟨b2, 1, none⟩ rfl hk rfl rfl rfl fd37_1 rfl fun a hk => ?_
      refine sln [.int .i64 x0.Reg.Epoch, .int .i64 x0.Reg.Side, .int .i64 x0.Reg.Count, .int .i64 x0.Reg.Boot, .string x0.Reg.Base, .string x0.Reg.Tip, .string x0.Reg.Root] rfl hk rfl rfl rfl ag32 sz32 (box_part hs (k := 3) rfl rfl) fun a hk => ?_
      obtain ⟨y11, h12, H⟩ := bind_some H
      refine sc rfl en48 hk rfl rfl rfl (spec_RegisterOK_t _ x0.Reg _ h12) ?_
      rintro _ w ⟨rfl, hG⟩ a hk
      have hs := hs.call0 hG
      refine sv (.bool y11) hk rfl rfl rfl fun a hk => ?_
      refine sm _ rfl hk rfl rfl rfl fun a hk => ?_
      rcases cond_some H with ⟨c13, H⟩ | ⟨c13, H⟩
      · have hk := hk.lit 12 c13 rfl
        refine sf ⟨b2, 8, none⟩ rfl hk rfl rfl rfl fd37_2 rfl fun a hk => ?_
        refine sln [.slice A0_0 x0.Device.Sure.length p0_0, .slice A0_1 x0.Device.Unsure.length p0_1] rfl hk rfl rfl rfl ag35 sz35 (box_part hs (k := 3) rfl rfl) fun a hk => ?_
        obtain ⟨y14, h15, H⟩ := bind_some H
        refine sc rfl en49 hk rfl rfl rfl (spec_DeviceOK_t _ x0.Device A0_0 p0_0 _ v0_0 (hs.hasD (k := 1) rfl) A0_1 p0_1 _ v0_1 (hs.hasD (k := 2) rfl) _ h15) ?_
        rintro _ w ⟨rfl, hG⟩ a hk
        have hs := hs.call0 hG
        refine sv (.bool y14) hk rfl rfl rfl fun a hk => ?_
        refine sm _ rfl hk rfl rfl rfl fun a hk => ?_
        rcases cond_some H with ⟨c16, H⟩ | ⟨c16, H⟩
        · have hk := hk.lit 17 c16 rfl
          refine sf ⟨b2, 8, none⟩ rfl hk rfl rfl rfl fd37_2 rfl fun a hk => ?_
          refine sf ⟨b2, 9, none⟩ rfl hk rfl rfl rfl fd35_1 rfl fun a hk => ?_
          refine sl rfl hk rfl rfl rfl ag33 (box_cell hs (k := 3) rfl rfl) fun a hk => ?_
          refine sle rfl hk rfl rfl rfl un33 fun a hk => ?_
          refine sv (.bool ((x0.Device.Unsure.length : Int) == 0)) hk rfl rfl rfl fun a hk => ?_
          refine sv (.bool ((x0.Device.Unsure.length : Int) == 0)) hk rfl rfl rfl fun a hk => ?_
          refine sm _ rfl hk rfl rfl rfl fun a hk => ?_
          rcases cond_some H with ⟨c17, H⟩ | ⟨c17, H⟩
          · have hk := hk.lit 24 c17 rfl
            refine sf ⟨b2, 10, none⟩ rfl hk rfl rfl rfl fd37_3 rfl fun a hk => ?_
            refine sl rfl hk rfl rfl rfl ag4 (box_cell hs (k := 3) rfl rfl) fun a hk => ?_
            refine sm _ rfl hk rfl rfl rfl fun a hk => ?_
            rcases cond_some H with ⟨c18, H⟩ | ⟨c18, H⟩
            · have hk := hk.lit 27 c18 rfl
              refine sf ⟨b2, 11, none⟩ rfl hk rfl rfl rfl fd37_4 rfl fun a hk => ?_
              refine sl rfl hk rfl rfl rfl ag4 (box_cell hs (k := 3) rfl rfl) fun a hk => ?_
              refine sv (.bool x0.Dead) hk rfl rfl rfl fun a hk => ?_
              refine sv (.bool (!x0.Dead)) hk rfl rfl rfl fun a hk => ?_
              refine sv (.bool (!x0.Dead)) hk rfl rfl rfl fun a hk => ?_
              refine sa _ rfl hk rfl rfl rfl fun a hk => ?_
              show wpList _ _ _ [] _ _
              refine wpList_nil ?_
              obtain rfl := Option.some.inj H
              show R9 _ _
              rw [hR9]
              exact ⟨(!x0.Dead), rfl, (hk.c 2 rfl hk.k), (hs.pick [] rfl)⟩
            · have hk := hk.lit 27 c18 rfl
              refine sk hk rfl rfl rfl fun a hk => ?_
              refine sk hk rfl rfl rfl fun a hk => ?_
              refine sv (.bool false) hk rfl rfl rfl fun a hk => ?_
              refine sv (.bool true) hk rfl rfl rfl fun a hk => ?_
              refine sv (.bool true) hk rfl rfl rfl fun a hk => ?_
              refine sa _ rfl hk rfl rfl rfl fun a hk => ?_
              show wpList _ _ _ [] _ _
              refine wpList_nil ?_
              obtain rfl := Option.some.inj H
              show R9 _ _
              rw [hR9]
              exact ⟨true, rfl, (hk.c 2 rfl hk.k), (hs.pick [] rfl)⟩
          · have hk := hk.lit 24 c17 rfl
            refine sk hk rfl rfl rfl fun a hk => ?_
            refine sk hk rfl rfl rfl fun a hk => ?_
            refine sk hk rfl rfl rfl fun a hk => ?_
            refine sk hk rfl rfl rfl fun a hk => ?_
            refine sk hk rfl rfl rfl fun a hk => ?_
            refine sk hk rfl rfl rfl fun a hk => ?_
            refine sk hk rfl rfl rfl fun a hk => ?_
            refine sv (.bool false) hk rfl rfl rfl fun a hk => ?_
            refine sa _ rfl hk rfl rfl rfl fun a hk => ?_
            show wpList _ _ _ [] _ _
            refine wpList_nil ?_
            obtain rfl := Option.some.inj H
            show R9 _ _
            rw [hR9]
            exact ⟨false, rfl, (hk.c 2 rfl hk.k), (hs.pick [] rfl)⟩
        · have hk := hk.lit 17 c16 rfl
          refine sk hk rfl rfl rfl fun a hk => ?_
          refine sk hk rfl rfl rfl fun a hk => ?_
          refine sk hk rfl rfl rfl fun a hk => ?_
          refine sk hk rfl rfl rfl fun a hk => ?_
          refine sk hk rfl rfl rfl fun a hk => ?_
          refine sv (.bool false) hk rfl rfl rfl fun a hk => ?_
          refine sm _ rfl hk rfl rfl rfl fun a hk => ?_
          refine sk hk rfl rfl rfl fun a hk => ?_
          refine sk hk rfl rfl rfl fun a hk => ?_
          refine sk hk rfl rfl rfl fun a hk => ?_
          refine sk hk rfl rfl rfl fun a hk => ?_
          refine sk hk rfl rfl rfl fun a hk => ?_
          refine sk hk rfl rfl rfl fun a hk => ?_
          refine sk hk rfl rfl rfl fun a hk => ?_
          refine sv (.bool false) hk rfl rfl rfl fun a hk => ?_
          refine sa _ rfl hk rfl rfl rfl fun a hk => ?_
          show wpList _ _ _ [] _ _
          refine wpList_nil ?_
          obtain rfl := Option.some.inj H
          show R9 _ _
          rw [hR9]
          exact ⟨false, rfl, (hk.c 2 rfl hk.k), (hs.pick [] rfl)⟩
      · have hk := hk.lit 12 c13 rfl
        refine sk hk rfl rfl rfl fun a hk => ?_
        refine sk hk rfl rfl rfl fun a hk => ?_
        refine sk hk rfl rfl rfl fun a hk => ?_
        refine sv (.bool false) hk rfl rfl rfl fun a hk => ?_
        refine sm _ rfl hk rfl rfl rfl fun a hk => ?_
        refine sk hk rfl rfl rfl fun a hk => ?_
        refine sk hk rfl rfl rfl fun a hk => ?_
        refine sk hk rfl rfl rfl fun a hk => ?_
        refine sk hk rfl rfl rfl fun a hk => ?_
        refine sk hk rfl rfl rfl fun a hk => ?_
        refine sv (.bool false) hk rfl rfl rfl fun a hk => ?_
        refine sm _ rfl hk rfl rfl rfl fun a hk => ?_
        refine sk hk rfl rfl rfl fun a hk => ?_
        refine sk hk rfl rfl rfl fun a hk => ?_
        refine sk hk rfl rfl rfl fun a hk => ?_
        refine sk hk rfl rfl rfl fun a hk => ?_
        refine sk hk rfl rfl rfl fun a hk => ?_
        refine sk hk rfl rfl rfl fun a hk => ?_
        refine sk hk rfl rfl rfl fun a hk => ?_
        refine sv (.bool false) hk rfl rfl rfl fun a hk => ?_
        refine sa _ rfl hk rfl rfl rfl fun a hk => ?_
        show wpList _ _ _ [] _ _
        refine wpList_nil ?_
        obtain rfl := Option.some.inj H
        show R9 _ _
        rw [hR9]
        exact ⟨false, rfl, (hk.c 2 rfl hk.k), (hs.pick [] rfl)⟩
    · have hk := hk.lit 7 c10 rfl
      refine sk hk rfl rfl rfl fun a hk => ?_
      refine sk hk rfl rfl rfl fun a hk => ?_
      refine sk hk rfl rfl rfl fun a hk => ?_
      refine sv (.bool false) hk rfl rfl rfl fun a hk => ?_
      refine sm _ rfl hk rfl rfl rfl fun a hk => ?_
      refine sk hk rfl rfl rfl fun a hk => ?_
      refine sk hk rfl rfl rfl fun a hk => ?_
      refine sk hk rfl rfl rfl fun a hk => ?_
      refine sv (.bool false) hk rfl rfl rfl fun a hk => ?_
      refine sm _ rfl hk rfl rfl rfl fun a hk => ?_
      refine sk hk rfl rfl rfl fun a hk => ?_
      refine sk hk rfl rfl rfl fun a hk => ?_
      refine sk hk rfl rfl rfl fun a hk => ?_
      refine sk hk rfl rfl rfl fun a hk => ?_
      refine sk hk rfl rfl rfl fun a hk => ?_
      refine sv (.bool false) hk rfl rfl rfl fun a hk => ?_
      refine sm _ rfl hk rfl rfl rfl fun a hk => ?_
      refine sk hk rfl rfl rfl fun a hk => ?_
      refine sk hk rfl rfl rfl fun a hk => ?_
      refine sk hk rfl rfl rfl fun a hk => ?_
      refine sk hk rfl rfl rfl fun a hk => ?_
      refine sk hk rfl rfl rfl fun a hk => ?_
      refine sk hk rfl rfl rfl fun a hk => ?_
      refine sk hk rfl rfl rfl fun a hk => ?_
      refine sv (.bool false) hk rfl rfl rfl fun a hk => ?_
      refine sa _ rfl hk rfl rfl rfl fun a hk => ?_
      show wpList _ _ _ [] _ _
      refine wpList_nil ?_
      obtain rfl := Option.some.inj H
      show R9 _ _
      rw [hR9]
      exact ⟨false, rfl, (hk.c 2 rfl hk.k), (hs.pick [] rfl)⟩
  · intro a w hR0
    rw [hR9] at hR0
    obtain ⟨u5, rfl, hk, hs⟩ := hR0
    have H := HL8
    try dsimp only at H
    refine hK3 _ _ ?_
    refine wp_ret ?_
    obtain rfl := Option.some.inj H
    exact fin hk _ [(.bool u5)] rfl ⟨rfl, trivial⟩ ⟨rfl, (hs.pick [] rfl).dnil⟩

noncomputable def impl_within.f (x0 : Int) (x1 : Int) (x2 : Int) : Option (Bool) :=
  (((bif (decide (x1 ≤ x0)) then (some (decide (x0 ≤ x2))) else (some false)) : Option (Bool)).bind fun u4 => (some u4))
set_option maxRecDepth 100000 in
set_option maxHeartbeats 0 in
theorem impl_within_t (w0 : World) (x0 : Int) (x1 : Int) (x2 : Int) (r : Bool) (H : impl_within.f x0 x1 x2 = some r) :
    Calls Try.prog 65 #[.int .i64 x0, .int .i64 x1, .int .i64 x2] w0 (Ret (fun v w => v = .bool r ∧ Sat [] w0 w [] [])) := by
  have hs : Sat [] w0 w0 [] [] := Sat.init w0 [] [] (by simp) (by simp) List.nodup_nil (by simp [blks])
  unfold impl_within.f at H
  refine enter Try.func65 rfl Try.ntmps65 rfl fun a hk => ?_
  apply wp_seq_k; intro K1 hK1
  apply wp_region_lit
  refine sa _ rfl hk rfl rfl rfl fun a hk => ?_
  show wpList _ _ _ [] _ _
  refine wpList_nil ?_
  refine hK1 _ _ ?_
  apply wp_seq_k; intro K2 hK2
  obtain ⟨o5, h6, HL7⟩ := bind_some H
  clear H
  obtain ⟨R8, hR8⟩ : ∃ R : Act → World → Prop, R = fun a w => ∃ (u4 : Bool), u4 = o5 ∧ Kn [(6, (.bool u4))] 15 a ∧ Sat [] w0 w [] [] := ⟨_, rfl⟩
  refine wp_cutq R8 ?_ ?_
  · have H := h6
    apply wp_region_lit
    refine sm _ rfl hk rfl rfl rfl fun a hk => ?_
    refine sm _ rfl hk rfl rfl rfl fun a hk => ?_
    refine sv (.bool (decide (x1 ≤ x0))) hk rfl rfl rfl fun a hk => ?_
    refine sm _ rfl hk rfl rfl rfl fun a hk => ?_
    rcases cond_some H with ⟨c9, H⟩ | ⟨c9, H⟩
    · have hk := hk.lit 10 c9 rfl
      refine sm _ rfl hk rfl rfl rfl fun a hk => ?_
      refine sm _ rfl hk rfl rfl rfl fun a hk => ?_
      refine sv (.bool (decide (x0 ≤ x2))) hk rfl rfl rfl fun a hk => ?_
      refine sv (.bool (decide (x0 ≤ x2))) hk rfl rfl rfl fun a hk => ?_
      refine sa _ rfl hk rfl rfl rfl fun a hk => ?_
      show wpList _ _ _ [] _ _
      refine wpList_nil ?_
      obtain rfl := Option.some.inj H
      show R8 _ _
      rw [hR8]
      exact ⟨(decide (x0 ≤ x2)), rfl, (hk.c 6 rfl hk.k), (hs.pick [] rfl)⟩
    · have hk := hk.lit 10 c9 rfl
      refine sk hk rfl rfl rfl fun a hk => ?_
      refine sk hk rfl rfl rfl fun a hk => ?_
      refine sk hk rfl rfl rfl fun a hk => ?_
      refine sv (.bool false) hk rfl rfl rfl fun a hk => ?_
      refine sa _ rfl hk rfl rfl rfl fun a hk => ?_
      show wpList _ _ _ [] _ _
      refine wpList_nil ?_
      obtain rfl := Option.some.inj H
      show R8 _ _
      rw [hR8]
      exact ⟨false, rfl, (hk.c 6 rfl hk.k), (hs.pick [] rfl)⟩
  · intro a w hR0
    rw [hR8] at hR0
    obtain ⟨u4, rfl, hk, hs⟩ := hR0
    have H := HL7
    try dsimp only at H
    refine hK2 _ _ ?_
    refine wp_ret ?_
    obtain rfl := Option.some.inj H
    exact fin hk _ [(.bool u4)] rfl ⟨rfl, trivial⟩ ⟨rfl, (hs.pick [] rfl).dnil⟩

noncomputable def impl_isDigest.f (x0 : ByteArray) : Option (Bool) :=
  (some ((x0.size : Int) == 32))
set_option maxRecDepth 100000 in
set_option maxHeartbeats 0 in
theorem impl_isDigest_t (w0 : World) (x0 : ByteArray) (r : Bool) (H : impl_isDigest.f x0 = some r) :
    Calls Try.prog 97 #[.string x0] w0 (Ret (fun v w => v = .bool r ∧ Sat [] w0 w [] [])) := by
  have hs : Sat [] w0 w0 [] [] := Sat.init w0 [] [] (by simp) (by simp) List.nodup_nil (by simp [blks])
  unfold impl_isDigest.f at H
  refine enter Try.func97 rfl Try.ntmps97 rfl fun a hk => ?_
  apply wp_seq_k; intro K1 hK1
  apply wp_region_lit
  refine sa _ rfl hk rfl rfl rfl fun a hk => ?_
  show wpList _ _ _ [] _ _
  refine wpList_nil ?_
  refine hK1 _ _ ?_
  apply wp_seq_k; intro K2 hK2
  apply wp_region_lit
  refine sm _ rfl hk rfl rfl rfl fun a hk => ?_
  refine sles rfl hk rfl rfl rfl un9 fun a hk => ?_
  refine sv (.bool ((x0.size : Int) == 32)) hk rfl rfl rfl fun a hk => ?_
  refine sa _ rfl hk rfl rfl rfl fun a hk => ?_
  show wpList _ _ _ [] _ _
  refine wpList_nil ?_
  refine hK2 _ _ ?_
  refine wp_ret ?_
  obtain rfl := Option.some.inj H
  exact fin hk _ [(.bool ((x0.size : Int) == 32))] rfl ⟨rfl, trivial⟩ ⟨rfl, (hs.pick [] rfl).dnil⟩

noncomputable def impl_Register_waiting.f (x0 : S_Register) : Option (Int) :=
  (some (w64 (x0.Count - x0.Epoch)))
set_option maxRecDepth 100000 in
set_option maxHeartbeats 0 in
theorem impl_Register_waiting_t (w0 : World) (x0 : S_Register) (r : Int) (H : impl_Register_waiting.f x0 = some r) :
    Calls Try.prog 98 #[.agg #[.int .i64 x0.Epoch, .int .i64 x0.Side, .int .i64 x0.Count, .int .i64 x0.Boot, .string x0.Base, .string x0.Tip, .string x0.Root]] w0 (Ret (fun v w => v = .int .i64 r ∧ Sat [] w0 w [] [])) := by
  have hs : Sat [] w0 w0 [] [] := Sat.init w0 [] [] (by simp) (by simp) List.nodup_nil (by simp [blks])
  unfold impl_Register_waiting.f at H
  refine enter Try.func98 rfl Try.ntmps98 rfl fun a hk => ?_
  apply wp_seq_k; intro K1 hK1
  apply wp_region_lit
  refine sbx 1 hs rfl hk rfl rfl rfl rfl fun b2 w a hk hs => ?_
  refine sa _ rfl hk rfl rfl rfl fun a hk => ?_
  show wpList _ _ _ [] _ _
  refine wpList_nil ?_
  refine hK1 _ _ ?_
  apply wp_seq_k; intro K3 hK3
  apply wp_region_lit
  refine sf ⟨b2, 2, none⟩ rfl hk rfl rfl rfl fd32_2 rfl fun a hk => ?_
  refine sl rfl hk rfl rfl rfl ag3 (box_cell hs (k := 1) rfl rfl) fun a hk => ?_
  refine sf ⟨b2, 0, none⟩ rfl hk rfl rfl rfl fd32_0 rfl fun a hk => ?_
  refine sl rfl hk rfl rfl rfl ag3 (box_cell hs (k := 1) rfl rfl) fun a hk => ?_
  refine sv (.int .i64 (w64 (x0.Count - x0.Epoch))) hk rfl rfl rfl fun a hk => ?_
  refine sa _ rfl hk rfl rfl rfl fun a hk => ?_
  show wpList _ _ _ [] _ _
  refine wpList_nil ?_
  refine hK3 _ _ ?_
  refine wp_ret ?_
  obtain rfl := Option.some.inj H
  exact fin hk _ [(.int .i64 (w64 (x0.Count - x0.Epoch)))] rfl ⟨rfl, trivial⟩ ⟨rfl, (hs.pick [] rfl).dnil⟩

noncomputable def impl_RegisterOK.f (x0 : S_Register) : Option (Bool) :=
  ((((impl_within.f x0.Epoch 0 1000000).bind fun y10 => (bif y10 then ((impl_within.f x0.Side 0 1).bind fun y13 => (bif y13 then ((impl_within.f x0.Count x0.Epoch (if 1000000 < (w64 (x0.Epoch + 4)) then 1000000 else (w64 (x0.Epoch + 4)))).bind fun y16 => (bif y16 then ((impl_within.f x0.Boot 0 1000000).bind fun y19 => (bif y19 then ((impl_isDigest.f x0.Base).bind fun y22 => (bif y22 then ((impl_isDigest.f x0.Tip).bind fun y25 => (bif y25 then ((impl_isDigest.f x0.Root).bind fun y28 => (bif y28 then ((impl_Register_waiting.f x0).bind fun y31 => (bif (decide (y31 > 0)) then (some true) else (some (x0.Base.toList == x0.Tip.toList)))) else (some false))) else (some false))) else (some false))) else (some false))) else (some false))) else (some false))) else (some false))) : Option (Bool)).bind fun u5 => (some u5))
set_option maxRecDepth 100000 in
set_option maxHeartbeats 0 in
theorem impl_RegisterOK_t (w0 : World) (x0 : S_Register) (r : Bool) (H : impl_RegisterOK.f x0 = some r) :
    Calls Try.prog 50 #[.agg #[.int .i64 x0.Epoch, .int .i64 x0.Side, .int .i64 x0.Count, .int .i64 x0.Boot, .string x0.Base, .string x0.Tip, .string x0.Root]] w0 (Ret (fun v w => v = .bool r ∧ Sat [] w0 w [] [])) := by
  have hs : Sat [] w0 w0 [] [] := Sat.init w0 [] [] (by simp) (by simp) List.nodup_nil (by simp [blks])
  unfold impl_RegisterOK.f at H
  refine enter Try.func50 rfl Try.ntmps50 rfl fun a hk => ?_
  apply wp_seq_k; intro K1 hK1
  apply wp_region_lit
  refine sbx 1 hs rfl hk rfl rfl rfl rfl fun b2 w a hk hs => ?_
  refine sa _ rfl hk rfl rfl rfl fun a hk => ?_
  show wpList _ _ _ [] _ _
  refine wpList_nil ?_
  refine hK1 _ _ ?_
  apply wp_seq_k; intro K3 hK3
  obtain ⟨o6, h7, HL8⟩ := bind_some H
  clear H
  obtain ⟨R9, hR9⟩ : ∃ R : Act → World → Prop, R = fun a w => ∃ (u5 : Bool), u5 = o6 ∧ Kn [(2, (.bool u5))] 54 a ∧ Sat [] w0 w [] [] := ⟨_, rfl⟩
  refine wp_cutq R9 ?_ ?_
  · have H := h7
    apply wp_region_lit
    refine sf ⟨b2, 0, none⟩ rfl hk rfl rfl rfl fd32_0 rfl fun a hk => ?_
    refine sl rfl hk rfl rfl rfl ag3 (box_cell hs (k := 1) rfl rfl) fun a hk => ?_
    obtain ⟨y10, h11, H⟩ := bind_some H
    refine sc rfl en65 hk rfl rfl rfl (impl_within_t _ x0.Epoch 0 1000000 _ h11) ?_
    rintro _ w ⟨rfl, hG⟩ a hk
    have hs := hs.call0 hG
    refine sm _ rfl hk rfl rfl rfl fun a hk => ?_
    rcases cond_some H with ⟨c12, H⟩ | ⟨c12, H⟩
    · have hk := hk.lit 6 c12 rfl
      refine sf ⟨b2, 1, none⟩ rfl hk rfl rfl rfl fd32_1 rfl fun a hk => ?_
      refine sl rfl hk rfl rfl rfl ag3 (box_cell hs (k := 1) rfl rfl) fun a hk => ?_
      obtain ⟨y13, h14, H⟩ := bind_some H
      refine sc rfl en65 hk rfl rfl rfl (impl_within_t _ x0.Side 0 1 _ h14) ?_
      rintro _ w ⟨rfl, hG⟩ a hk
      have hs := hs.call0 hG
      refine sv (.bool y13) hk rfl rfl rfl fun a hk => ?_
      refine sm _ rfl hk rfl rfl rfl fun a hk => ?_
      rcases cond_some H with ⟨c15, H⟩ | ⟨c15, H⟩
      · have hk := hk.lit 11 c15 rfl
        refine sf ⟨b2, 2, none⟩ rfl hk rfl rfl rfl fd32_2 rfl fun a hk => ?_
        refine sl rfl hk rfl rfl rfl ag3 (box_cell hs (k := 1) rfl rfl) fun a hk => ?_
        refine sf ⟨b2, 0, none⟩ rfl hk rfl rfl rfl fd32_0 rfl fun a hk => ?_
        refine sl rfl hk rfl rfl rfl ag3 (box_cell hs (k := 1) rfl rfl) fun a hk => ?_
        refine sf ⟨b2, 0, none⟩ rfl hk rfl rfl rfl fd32_0 rfl fun a hk => ?_
        refine sl rfl hk rfl rfl rfl ag3 (box_cell hs (k := 1) rfl rfl) fun a hk => ?_
        refine sv (.int .i64 (w64 (x0.Epoch + 4))) hk rfl rfl rfl fun a hk => ?_
        refine smn rfl hk rfl rfl rfl rfl fun a hk => ?_
        obtain ⟨y16, h17, H⟩ := bind_some H
        refine sc rfl en65 hk rfl rfl rfl (impl_within_t _ x0.Count x0.Epoch (if 1000000 < (w64 (x0.Epoch + 4)) then 1000000 else (w64 (x0.Epoch + 4))) _ h17) ?_
        rintro _ w ⟨rfl, hG⟩ a hk
        have hs := hs.call0 hG
        refine sv (.bool y16) hk rfl rfl rfl fun a hk => ?_
        refine sm _ rfl hk rfl rfl rfl fun a hk => ?_
        rcases cond_some H with ⟨c18, H⟩ | ⟨c18, H⟩
        · have hk := hk.lit 22 c18 rfl
          refine sf ⟨b2, 3, none⟩ rfl hk rfl rfl rfl fd32_3 rfl fun a hk => ?_
          refine sl rfl hk rfl rfl rfl ag3 (box_cell hs (k := 1) rfl rfl) fun a hk => ?_
          obtain ⟨y19, h20, H⟩ := bind_some H
          refine sc rfl en65 hk rfl rfl rfl (impl_within_t _ x0.Boot 0 1000000 _ h20) ?_
          rintro _ w ⟨rfl, hG⟩ a hk
          have hs := hs.call0 hG
          refine sv (.bool y19) hk rfl rfl rfl fun a hk => ?_
          refine sm _ rfl hk rfl rfl rfl fun a hk => ?_
          rcases cond_some H with ⟨c21, H⟩ | ⟨c21, H⟩
          · have hk := hk.lit 27 c21 rfl
            refine sf ⟨b2, 4, none⟩ rfl hk rfl rfl rfl fd32_4 rfl fun a hk => ?_
            refine sl rfl hk rfl rfl rfl ag9 (box_cell hs (k := 1) rfl rfl) fun a hk => ?_
            obtain ⟨y22, h23, H⟩ := bind_some H
            refine sc rfl en97 hk rfl rfl rfl (impl_isDigest_t _ x0.Base _ h23) ?_
            rintro _ w ⟨rfl, hG⟩ a hk
            have hs := hs.call0 hG
            refine sv (.bool y22) hk rfl rfl rfl fun a hk => ?_
            refine sm _ rfl hk rfl rfl rfl fun a hk => ?_
            rcases cond_some H with ⟨c24, H⟩ | ⟨c24, H⟩
            · have hk := hk.lit 32 c24 rfl
              refine sf ⟨b2, 5, none⟩ rfl hk rfl rfl rfl fd32_5 rfl fun a hk => ?_
              refine sl rfl hk rfl rfl rfl ag9 (box_cell hs (k := 1) rfl rfl) fun a hk => ?_
              obtain ⟨y25, h26, H⟩ := bind_some H
              refine sc rfl en97 hk rfl rfl rfl (impl_isDigest_t _ x0.Tip _ h26) ?_
              rintro _ w ⟨rfl, hG⟩ a hk
              have hs := hs.call0 hG
              refine sv (.bool y25) hk rfl rfl rfl fun a hk => ?_
              refine sm _ rfl hk rfl rfl rfl fun a hk => ?_
              rcases cond_some H with ⟨c27, H⟩ | ⟨c27, H⟩
              · have hk := hk.lit 37 c27 rfl
                refine sf ⟨b2, 6, none⟩ rfl hk rfl rfl rfl fd32_6 rfl fun a hk => ?_
                refine sl rfl hk rfl rfl rfl ag9 (box_cell hs (k := 1) rfl rfl) fun a hk => ?_
                obtain ⟨y28, h29, H⟩ := bind_some H
                refine sc rfl en97 hk rfl rfl rfl (impl_isDigest_t _ x0.Root _ h29) ?_
                rintro _ w ⟨rfl, hG⟩ a hk
                have hs := hs.call0 hG
                refine sv (.bool y28) hk rfl rfl rfl fun a hk => ?_
                refine sm _ rfl hk rfl rfl rfl fun a hk => ?_
                rcases cond_some H with ⟨c30, H⟩ | ⟨c30, H⟩
                · have hk := hk.lit 42 c30 rfl
                  refine sln [.int .i64 x0.Epoch, .int .i64 x0.Side, .int .i64 x0.Count, .int .i64 x0.Boot, .string x0.Base, .string x0.Tip, .string x0.Root] rfl hk rfl rfl rfl ag32 sz32 (box_cells hs (k := 1) rfl) fun a hk => ?_
                  obtain ⟨y31, h32, H⟩ := bind_some H
                  refine sc rfl en98 hk rfl rfl rfl (impl_Register_waiting_t _ x0 _ h32) ?_
                  rintro _ w ⟨rfl, hG⟩ a hk
                  have hs := hs.call0 hG
                  refine sv (.bool (decide (y31 > 0))) hk rfl rfl rfl fun a hk => ?_
                  refine sm _ rfl hk rfl rfl rfl fun a hk => ?_
                  rcases cond_some H with ⟨c33, H⟩ | ⟨c33, H⟩
                  · have hk := hk.lit 46 c33 rfl
                    refine sk hk rfl rfl rfl fun a hk => ?_
                    refine sk hk rfl rfl rfl fun a hk => ?_
                    refine sk hk rfl rfl rfl fun a hk => ?_
                    refine sk hk rfl rfl rfl fun a hk => ?_
                    refine sk hk rfl rfl rfl fun a hk => ?_
                    refine sv (.bool true) hk rfl rfl rfl fun a hk => ?_
                    refine sv (.bool true) hk rfl rfl rfl fun a hk => ?_
                    refine sa _ rfl hk rfl rfl rfl fun a hk => ?_
                    show wpList _ _ _ [] _ _
                    refine wpList_nil ?_
                    obtain rfl := Option.some.inj H
                    show R9 _ _
                    rw [hR9]
                    exact ⟨true, rfl, (hk.c 2 rfl hk.k), (hs.pick [] rfl)⟩
                  · have hk := hk.lit 46 c33 rfl
                    refine sf ⟨b2, 4, none⟩ rfl hk rfl rfl rfl fd32_4 rfl fun a hk => ?_
                    refine sl rfl hk rfl rfl rfl ag9 (box_cell hs (k := 1) rfl rfl) fun a hk => ?_
                    refine sf ⟨b2, 5, none⟩ rfl hk rfl rfl rfl fd32_5 rfl fun a hk => ?_
                    refine sl rfl hk rfl rfl rfl ag9 (box_cell hs (k := 1) rfl rfl) fun a hk => ?_
                    refine sv (.bool (x0.Base.toList == x0.Tip.toList)) hk rfl rfl rfl fun a hk => ?_
                    refine sv (.bool (x0.Base.toList == x0.Tip.toList)) hk rfl rfl rfl fun a hk => ?_
                    refine sv (.bool (x0.Base.toList == x0.Tip.toList)) hk rfl rfl rfl fun a hk => ?_
                    refine sa _ rfl hk rfl rfl rfl fun a hk => ?_
                    show wpList _ _ _ [] _ _
                    refine wpList_nil ?_
                    obtain rfl := Option.some.inj H
                    show R9 _ _
                    rw [hR9]
                    exact ⟨(x0.Base.toList == x0.Tip.toList), rfl, (hk.c 2 rfl hk.k), (hs.pick [] rfl)⟩
                · have hk := hk.lit 42 c30 rfl
                  refine sk hk rfl rfl rfl fun a hk => ?_
                  refine sk hk rfl rfl rfl fun a hk => ?_
                  refine sk hk rfl rfl rfl fun a hk => ?_
                  refine sk hk rfl rfl rfl fun a hk => ?_
                  refine sk hk rfl rfl rfl fun a hk => ?_
                  refine sk hk rfl rfl rfl fun a hk => ?_
                  refine sk hk rfl rfl rfl fun a hk => ?_
                  refine sk hk rfl rfl rfl fun a hk => ?_
                  refine sk hk rfl rfl rfl fun a hk => ?_
                  refine sk hk rfl rfl rfl fun a hk => ?_
                  refine sv (.bool false) hk rfl rfl rfl fun a hk => ?_
                  refine sa _ rfl hk rfl rfl rfl fun a hk => ?_
                  show wpList _ _ _ [] _ _
                  refine wpList_nil ?_
                  obtain rfl := Option.some.inj H
                  show R9 _ _
                  rw [hR9]
                  exact ⟨false, rfl, (hk.c 2 rfl hk.k), (hs.pick [] rfl)⟩
              · have hk := hk.lit 37 c27 rfl
                refine sk hk rfl rfl rfl fun a hk => ?_
                refine sk hk rfl rfl rfl fun a hk => ?_
                refine sk hk rfl rfl rfl fun a hk => ?_
                refine sv (.bool false) hk rfl rfl rfl fun a hk => ?_
                refine sm _ rfl hk rfl rfl rfl fun a hk => ?_
                refine sk hk rfl rfl rfl fun a hk => ?_
                refine sk hk rfl rfl rfl fun a hk => ?_
                refine sk hk rfl rfl rfl fun a hk => ?_
                refine sk hk rfl rfl rfl fun a hk => ?_
                refine sk hk rfl rfl rfl fun a hk => ?_
                refine sk hk rfl rfl rfl fun a hk => ?_
                refine sk hk rfl rfl rfl fun a hk => ?_
                refine sk hk rfl rfl rfl fun a hk => ?_
                refine sk hk rfl rfl rfl fun a hk => ?_
                refine sk hk rfl rfl rfl fun a hk => ?_
                refine sv (.bool false) hk rfl rfl rfl fun a hk => ?_
                refine sa _ rfl hk rfl rfl rfl fun a hk => ?_
                show wpList _ _ _ [] _ _
                refine wpList_nil ?_
                obtain rfl := Option.some.inj H
                show R9 _ _
                rw [hR9]
                exact ⟨false, rfl, (hk.c 2 rfl hk.k), (hs.pick [] rfl)⟩
            · have hk := hk.lit 32 c24 rfl
              refine sk hk rfl rfl rfl fun a hk => ?_
              refine sk hk rfl rfl rfl fun a hk => ?_
              refine sk hk rfl rfl rfl fun a hk => ?_
              refine sv (.bool false) hk rfl rfl rfl fun a hk => ?_
              refine sm _ rfl hk rfl rfl rfl fun a hk => ?_
              refine sk hk rfl rfl rfl fun a hk => ?_
              refine sk hk rfl rfl rfl fun a hk => ?_
              refine sk hk rfl rfl rfl fun a hk => ?_
              refine sv (.bool false) hk rfl rfl rfl fun a hk => ?_
              refine sm _ rfl hk rfl rfl rfl fun a hk => ?_
              refine sk hk rfl rfl rfl fun a hk => ?_
              refine sk hk rfl rfl rfl fun a hk => ?_
              refine sk hk rfl rfl rfl fun a hk => ?_
              refine sk hk rfl rfl rfl fun a hk => ?_
              refine sk hk rfl rfl rfl fun a hk => ?_
              refine sk hk rfl rfl rfl fun a hk => ?_
              refine sk hk rfl rfl rfl fun a hk => ?_
              refine sk hk rfl rfl rfl fun a hk => ?_
              refine sk hk rfl rfl rfl fun a hk => ?_
              refine sk hk rfl rfl rfl fun a hk => ?_
              refine sv (.bool false) hk rfl rfl rfl fun a hk => ?_
              refine sa _ rfl hk rfl rfl rfl fun a hk => ?_
              show wpList _ _ _ [] _ _
              refine wpList_nil ?_
              obtain rfl := Option.some.inj H
              show R9 _ _
              rw [hR9]
              exact ⟨false, rfl, (hk.c 2 rfl hk.k), (hs.pick [] rfl)⟩
          · have hk := hk.lit 27 c21 rfl
            refine sk hk rfl rfl rfl fun a hk => ?_
            refine sk hk rfl rfl rfl fun a hk => ?_
            refine sk hk rfl rfl rfl fun a hk => ?_
            refine sv (.bool false) hk rfl rfl rfl fun a hk => ?_
            refine sm _ rfl hk rfl rfl rfl fun a hk => ?_
            refine sk hk rfl rfl rfl fun a hk => ?_
            refine sk hk rfl rfl rfl fun a hk => ?_
            refine sk hk rfl rfl rfl fun a hk => ?_
            refine sv (.bool false) hk rfl rfl rfl fun a hk => ?_
            refine sm _ rfl hk rfl rfl rfl fun a hk => ?_
            refine sk hk rfl rfl rfl fun a hk => ?_
            refine sk hk rfl rfl rfl fun a hk => ?_
            refine sk hk rfl rfl rfl fun a hk => ?_
            refine sv (.bool false) hk rfl rfl rfl fun a hk => ?_
            refine sm _ rfl hk rfl rfl rfl fun a hk => ?_
            refine sk hk rfl rfl rfl fun a hk => ?_
            refine sk hk rfl rfl rfl fun a hk => ?_
            refine sk hk rfl rfl rfl fun a hk => ?_
            refine sk hk rfl rfl rfl fun a hk => ?_
            refine sk hk rfl rfl rfl fun a hk => ?_
            refine sk hk rfl rfl rfl fun a hk => ?_
            refine sk hk rfl rfl rfl fun a hk => ?_
            refine sk hk rfl rfl rfl fun a hk => ?_
            refine sk hk rfl rfl rfl fun a hk => ?_
            refine sk hk rfl rfl rfl fun a hk => ?_
            refine sv (.bool false) hk rfl rfl rfl fun a hk => ?_
            refine sa _ rfl hk rfl rfl rfl fun a hk => ?_
            show wpList _ _ _ [] _ _
            refine wpList_nil ?_
            obtain rfl := Option.some.inj H
            show R9 _ _
            rw [hR9]
            exact ⟨false, rfl, (hk.c 2 rfl hk.k), (hs.pick [] rfl)⟩
        · have hk := hk.lit 22 c18 rfl
          refine sk hk rfl rfl rfl fun a hk => ?_
          refine sk hk rfl rfl rfl fun a hk => ?_
          refine sk hk rfl rfl rfl fun a hk => ?_
          refine sv (.bool false) hk rfl rfl rfl fun a hk => ?_
          refine sm _ rfl hk rfl rfl rfl fun a hk => ?_
          refine sk hk rfl rfl rfl fun a hk => ?_
          refine sk hk rfl rfl rfl fun a hk => ?_
          refine sk hk rfl rfl rfl fun a hk => ?_
          refine sv (.bool false) hk rfl rfl rfl fun a hk => ?_
          refine sm _ rfl hk rfl rfl rfl fun a hk => ?_
          refine sk hk rfl rfl rfl fun a hk => ?_
          refine sk hk rfl rfl rfl fun a hk => ?_
          refine sk hk rfl rfl rfl fun a hk => ?_
          refine sv (.bool false) hk rfl rfl rfl fun a hk => ?_
          refine sm _ rfl hk rfl rfl rfl fun a hk => ?_
          refine sk hk rfl rfl rfl fun a hk => ?_
          refine sk hk rfl rfl rfl fun a hk => ?_
          refine sk hk rfl rfl rfl fun a hk => ?_
          refine sv (.bool false) hk rfl rfl rfl fun a hk => ?_
          refine sm _ rfl hk rfl rfl rfl fun a hk => ?_
          refine sk hk rfl rfl rfl fun a hk => ?_
          refine sk hk rfl rfl rfl fun a hk => ?_
          refine sk hk rfl rfl rfl fun a hk => ?_
          refine sk hk rfl rfl rfl fun a hk => ?_
          refine sk hk rfl rfl rfl fun a hk => ?_
          refine sk hk rfl rfl rfl fun a hk => ?_
          refine sk hk rfl rfl rfl fun a hk => ?_
          refine sk hk rfl rfl rfl fun a hk => ?_
          refine sk hk rfl rfl rfl fun a hk => ?_
          refine sk hk rfl rfl rfl fun a hk => ?_
          refine sv (.bool false) hk rfl rfl rfl fun a hk => ?_
          refine sa _ rfl hk rfl rfl rfl fun a hk => ?_
          show wpList _ _ _ [] _ _
          refine wpList_nil ?_
          obtain rfl := Option.some.inj H
          show R9 _ _
          rw [hR9]
          exact ⟨false, rfl, (hk.c 2 rfl hk.k), (hs.pick [] rfl)⟩
      · have hk := hk.lit 11 c15 rfl
        refine sk hk rfl rfl rfl fun a hk => ?_
        refine sk hk rfl rfl rfl fun a hk => ?_
        refine sk hk rfl rfl rfl fun a hk => ?_
        refine sk hk rfl rfl rfl fun a hk => ?_
        refine sk hk rfl rfl rfl fun a hk => ?_
        refine sk hk rfl rfl rfl fun a hk => ?_
        refine sk hk rfl rfl rfl fun a hk => ?_
        refine sk hk rfl rfl rfl fun a hk => ?_
        refine sk hk rfl rfl rfl fun a hk => ?_
        refine sv (.bool false) hk rfl rfl rfl fun a hk => ?_
        refine sm _ rfl hk rfl rfl rfl fun a hk => ?_
        refine sk hk rfl rfl rfl fun a hk => ?_
        refine sk hk rfl rfl rfl fun a hk => ?_
        refine sk hk rfl rfl rfl fun a hk => ?_
        refine sv (.bool false) hk rfl rfl rfl fun a hk => ?_
        refine sm _ rfl hk rfl rfl rfl fun a hk => ?_
        refine sk hk rfl rfl rfl fun a hk => ?_
        refine sk hk rfl rfl rfl fun a hk => ?_
        refine sk hk rfl rfl rfl fun a hk => ?_
        refine sv (.bool false) hk rfl rfl rfl fun a hk => ?_
        refine sm _ rfl hk rfl rfl rfl fun a hk => ?_
        refine sk hk rfl rfl rfl fun a hk => ?_
        refine sk hk rfl rfl rfl fun a hk => ?_
        refine sk hk rfl rfl rfl fun a hk => ?_
        refine sv (.bool false) hk rfl rfl rfl fun a hk => ?_
        refine sm _ rfl hk rfl rfl rfl fun a hk => ?_
        refine sk hk rfl rfl rfl fun a hk => ?_
        refine sk hk rfl rfl rfl fun a hk => ?_
        refine sk hk rfl rfl rfl fun a hk => ?_
        refine sv (.bool false) hk rfl rfl rfl fun a hk => ?_
        refine sm _ rfl hk rfl rfl rfl fun a hk => ?_
        refine sk hk rfl rfl rfl fun a hk => ?_
        refine sk hk rfl rfl rfl fun a hk => ?_
        refine sk hk rfl rfl rfl fun a hk => ?_
        refine sk hk rfl rfl rfl fun a hk => ?_
        refine sk hk rfl rfl rfl fun a hk => ?_
        refine sk hk rfl rfl rfl fun a hk => ?_
        refine sk hk rfl rfl rfl fun a hk => ?_
        refine sk hk rfl rfl rfl fun a hk => ?_
        refine sk hk rfl rfl rfl fun a hk => ?_
        refine sk hk rfl rfl rfl fun a hk => ?_
        refine sv (.bool false) hk rfl rfl rfl fun a hk => ?_
        refine sa _ rfl hk rfl rfl rfl fun a hk => ?_
        show wpList _ _ _ [] _ _
        refine wpList_nil ?_
        obtain rfl := Option.some.inj H
        show R9 _ _
        rw [hR9]
        exact ⟨false, rfl, (hk.c 2 rfl hk.k), (hs.pick [] rfl)⟩
    · have hk := hk.lit 6 c12 rfl
      refine sk hk rfl rfl rfl fun a hk => ?_
      refine sk hk rfl rfl rfl fun a hk => ?_
      refine sk hk rfl rfl rfl fun a hk => ?_
      refine sv (.bool false) hk rfl rfl rfl fun a hk => ?_
      refine sm _ rfl hk rfl rfl rfl fun a hk => ?_
      refine sk hk rfl rfl rfl fun a hk => ?_
      refine sk hk rfl rfl rfl fun a hk => ?_
      refine sk hk rfl rfl rfl fun a hk => ?_
      refine sk hk rfl rfl rfl fun a hk => ?_
      refine sk hk rfl rfl rfl fun a hk => ?_
      refine sk hk rfl rfl rfl fun a hk => ?_
      refine sk hk rfl rfl rfl fun a hk => ?_
      refine sk hk rfl rfl rfl fun a hk => ?_
      refine sk hk rfl rfl rfl fun a hk => ?_
      refine sv (.bool false) hk rfl rfl rfl fun a hk => ?_
      refine sm _ rfl hk rfl rfl rfl fun a hk => ?_
      refine sk hk rfl rfl rfl fun a hk => ?_
      refine sk hk rfl rfl rfl fun a hk => ?_
      refine sk hk rfl rfl rfl fun a hk => ?_
      refine sv (.bool false) hk rfl rfl rfl fun a hk => ?_
      refine sm _ rfl hk rfl rfl rfl fun a hk => ?_
      refine sk hk rfl rfl rfl fun a hk => ?_
      refine sk hk rfl rfl rfl fun a hk => ?_
      refine sk hk rfl rfl rfl fun a hk => ?_
      refine sv (.bool false) hk rfl rfl rfl fun a hk => ?_
      refine sm _ rfl hk rfl rfl rfl fun a hk => ?_
      refine sk hk rfl rfl rfl fun a hk => ?_
      refine sk hk rfl rfl rfl fun a hk => ?_
      refine sk hk rfl rfl rfl fun a hk => ?_
      refine sv (.bool false) hk rfl rfl rfl fun a hk => ?_
      refine sm _ rfl hk rfl rfl rfl fun a hk => ?_
      refine sk hk rfl rfl rfl fun a hk => ?_
      refine sk hk rfl rfl rfl fun a hk => ?_
      refine sk hk rfl rfl rfl fun a hk => ?_
      refine sv (.bool false) hk rfl rfl rfl fun a hk => ?_
      refine sm _ rfl hk rfl rfl rfl fun a hk => ?_
      refine sk hk rfl rfl rfl fun a hk => ?_
      refine sk hk rfl rfl rfl fun a hk => ?_
      refine sk hk rfl rfl rfl fun a hk => ?_
      refine sk hk rfl rfl rfl fun a hk => ?_
      refine sk hk rfl rfl rfl fun a hk => ?_
      refine sk hk rfl rfl rfl fun a hk => ?_
      refine sk hk rfl rfl rfl fun a hk => ?_
      refine sk hk rfl rfl rfl fun a hk => ?_
      refine sk hk rfl rfl rfl fun a hk => ?_
      refine sk hk rfl rfl rfl fun a hk => ?_
      refine sv (.bool false) hk rfl rfl rfl fun a hk => ?_
      refine sa _ rfl hk rfl rfl rfl fun a hk => ?_
      show wpList _ _ _ [] _ _
      refine wpList_nil ?_
      obtain rfl := Option.some.inj H
      show R9 _ _
      rw [hR9]
      exact ⟨false, rfl, (hk.c 2 rfl hk.k), (hs.pick [] rfl)⟩
  · intro a w hR0
    rw [hR9] at hR0
    obtain ⟨u5, rfl, hk, hs⟩ := hR0
    have H := HL8
    try dsimp only at H
    refine hK3 _ _ ?_
    refine wp_ret ?_
    obtain rfl := Option.some.inj H
    exact fin hk _ [(.bool u5)] rfl ⟨rfl, trivial⟩ ⟨rfl, (hs.pick [] rfl).dnil⟩

noncomputable def impl_isContent.f (x0 : ByteArray) : Option (Bool) :=
  (some (decide ((x0.size : Int) ≤ 700)))
set_option maxRecDepth 100000 in
set_option maxHeartbeats 0 in
theorem impl_isContent_t (w0 : World) (x0 : ByteArray) (r : Bool) (H : impl_isContent.f x0 = some r) :
    Calls Try.prog 89 #[.string x0] w0 (Ret (fun v w => v = .bool r ∧ Sat [] w0 w [] [])) := by
  have hs : Sat [] w0 w0 [] [] := Sat.init w0 [] [] (by simp) (by simp) List.nodup_nil (by simp [blks])
  unfold impl_isContent.f at H
  refine enter Try.func89 rfl Try.ntmps89 rfl fun a hk => ?_
  apply wp_seq_k; intro K1 hK1
  apply wp_region_lit
  refine sa _ rfl hk rfl rfl rfl fun a hk => ?_
  show wpList _ _ _ [] _ _
  refine wpList_nil ?_
  refine hK1 _ _ ?_
  apply wp_seq_k; intro K2 hK2
  apply wp_region_lit
  refine sm _ rfl hk rfl rfl rfl fun a hk => ?_
  refine sles rfl hk rfl rfl rfl un9 fun a hk => ?_
  refine sv (.bool (decide ((x0.size : Int) ≤ 700))) hk rfl rfl rfl fun a hk => ?_
  refine sa _ rfl hk rfl rfl rfl fun a hk => ?_
  show wpList _ _ _ [] _ _
  refine wpList_nil ?_
  refine hK2 _ _ ?_
  refine wp_ret ?_
  obtain rfl := Option.some.inj H
  exact fin hk _ [(.bool (decide ((x0.size : Int) ≤ 700)))] rfl ⟨rfl, trivial⟩ ⟨rfl, (hs.pick [] rfl).dnil⟩

noncomputable def slices_IndexFunc_string_string.s0 (l0 : List ByteArray) (q1 : ByteArray → Option (Bool)) (u6 : Int) : Option ((Int) ⊕ Ex (Unit) (Int)) :=
  (bif (decide (u6 < (l0.length : Int))) then (if 0 ≤ u6 ∧ u6 < (l0.length : Int) then ((q1 (l0.getD u6.toNat ByteArray.empty)).bind fun y25 => (bif y25 then (some (.inr (.ret u6))) else (some (.inl (w64 (u6 + 1)))))) else none) else (some (.inr (.out ()))))
noncomputable def slices_IndexFunc_string_string.f (l0 : List ByteArray) (q1 : ByteArray → Option (Bool)) : Option (Int) :=
  ((loopO (fun s => slices_IndexFunc_string_string.s0 l0 q1 s) 0).bind fun o => match o with | .out _ => (some (-1)) | .ret r => (some r))
set_option maxRecDepth 100000 in
set_option maxHeartbeats 0 in
theorem slices_IndexFunc_string_string_t (w0 : World) (A0_ : Option Addr) (p0_ : Nat) (l0 : List ByteArray) (k0_ : Chunk) (v0_ : View Lay.str A0_ p0_ l0 k0_) (w0_ : Has w0 k0_) (f1_ : FuncId) (c1_ : List Value) (e1_ : Enters Try.prog f1_) (q1 : ByteArray → Option (Bool)) (k1_ : Chunk) (t1_ : ∀ w, Has w k1_ → ∀ (z0 : ByteArray) (r : Bool), q1 z0 = some r → Calls Try.prog f1_ (([.string z0] : List Value) ++ c1_).toArray w (Ret (fun v w2 => v = .bool r ∧ Sat [] w w2 [] []))) (w1_ : Has w0 k1_) (r : Int) (H : slices_IndexFunc_string_string.f l0 q1 = some r) :
    Calls Try.prog 149 #[.slice A0_ l0.length p0_, .func (.func f1_) #[] c1_.toArray] w0 (Ret (fun v w => v = .int .i64 r ∧ Sat [] w0 w [] [])) := by
  have hs : Sat [] w0 w0 [(1, k0_), (2, k1_)] [] := Sat.init w0 [(1, k0_), (2, k1_)] [] (by simp only [List.mem_cons, List.not_mem_nil, or_false]; rintro x (rfl | rfl) <;> assumption) (by simp) List.nodup_nil (by simp [blks])
  unfold slices_IndexFunc_string_string.f at H
  refine enter Try.func149 rfl Try.ntmps149 rfl fun a hk => ?_
  apply wp_seq_k; intro K1 hK1
  apply wp_region_lit
  refine sa _ rfl hk rfl rfl rfl fun a hk => ?_
  show wpList _ _ _ [] _ _
  refine wpList_nil ?_
  refine hK1 _ _ ?_
  apply wp_seq_k; intro K2 hK2
  apply wp_seq_k; intro K3 hK3
  apply wp_region_lit
  refine sm _ rfl hk rfl rfl rfl fun a hk => ?_
  refine sle rfl hk rfl rfl rfl un24 fun a hk => ?_
  refine sm _ rfl hk rfl rfl rfl fun a hk => ?_
  show wpList _ _ _ [] _ _
  refine wpList_nil ?_
  refine hK3 _ _ ?_
  obtain ⟨o7, h8, HL9⟩ := bind_some H
  clear H
  obtain ⟨R10, hR10⟩ : ∃ R : Act → World → Prop, R = fun a w => o7 = .out () ∧ Kn [] 19 a ∧ Sat [] w0 w [(1, k0_), (2, k1_)] [] := ⟨_, rfl⟩
  refine wp_cutq R10 ?_ ?_
  · refine wp_block ?_
    obtain ⟨fu12, h8⟩ := loopO_some h8
    obtain ⟨I11, hI11⟩ : ∃ I : Nat → Act → World → Prop, I = fun fu a w => ∃ (u6 : Int), loopN (fun s => slices_IndexFunc_string_string.s0 l0 q1 s) fu u6 = some o7 ∧ Kn [(0, (.slice A0_ l0.length p0_)), (1, (.func (.func f1_) #[] c1_.toArray)), (7, (.int .i64 (l0.length : Int))), (8, (.int .i64 u6))] 19 a ∧ Sat [] w0 w [(1, k0_), (2, k1_)] [] := ⟨_, rfl⟩
    refine wp_loop_ghost I11 fu12 ?_ ?_
    · rw [hI11]
      exact ⟨0, h8, (hk.c 0 rfl (hk.c 1 rfl (hk.c 7 rfl (hk.c 8 rfl hk.k)))), (hs.pick [] rfl)⟩
    · clear h8 hk hs
      intro fu12 a w hI0
      rw [hI11] at hI0
      obtain ⟨u6, hi, hk, hs⟩ := hI0
      obtain ⟨x13, H, h14⟩ := loop_round hi
      try dsimp only at H
      unfold slices_IndexFunc_string_string.s0 at H
      apply wp_seq_k; intro K15 hK15
      apply wp_region_lit
      refine sv (.bool (decide (u6 < (l0.length : Int)))) hk rfl rfl rfl fun a hk => ?_
      show wpList _ _ _ [] _ _
      refine wpList_nil ?_
      refine hK15 _ _ ?_
      apply wp_seq_k; intro K16 hK16
      rcases cond_some H with ⟨c17, H⟩ | ⟨c17, H⟩
      · have hk := hk.lit 9 c17 rfl
        refine cnd_true hk rfl rfl ?_
        refine wp_skip ?_
        refine hK16 _ _ ?_
        apply wp_seq_k; intro K18 hK18
        refine wp_block ?_
        apply wp_seq_k; intro K19 hK19
        apply wp_region_lit
        refine sm _ rfl hk rfl rfl rfl fun a hk => ?_
        refine sa _ rfl hk rfl rfl rfl fun a hk => ?_
        show wpList _ _ _ [] _ _
        refine wpList_nil ?_
        refine hK19 _ _ ?_
        apply wp_seq_k; intro K20 hK20
        apply wp_region_lit
        refine sm _ rfl hk rfl rfl rfl fun a hk => ?_
        refine sm _ rfl hk rfl rfl rfl fun a hk => ?_
        refine sm _ rfl hk rfl rfl rfl fun a hk => ?_
        rcases ite_some H with ⟨c21, H⟩ | ⟨_, H⟩
        rotate_left
        · cases H
        obtain ⟨b22, q23, hAc21⟩ := (v0_).some_ u6 c21.1 c21.2
        refine si rfl hk rfl rfl rfl rfl un24 sz9 c21.1 c21.2 hAc21 fun a hk => ?_
        obtain ⟨_, rfl, e24⟩ := (v0_).at_ ByteArray.empty u6 c21.1 c21.2
        refine sl (v := (.string (l0.getD u6.toNat ByteArray.empty))) rfl hk rfl rfl rfl ag9 ((e24 0 _ rfl).cell (hs.hasD (k := 1) rfl)) fun a hk => ?_
        obtain ⟨y25, h26, H⟩ := bind_some H
        refine scv (vs := ([(.string (l0.getD u6.toNat ByteArray.empty))] : List Value) ++ c1_) rfl rfl e1_ hk rfl rfl rfl (t1_ _ (hs.hasD (k := 2) rfl) (l0.getD u6.toNat ByteArray.empty) _ h26) ?_
        rintro _ w ⟨rfl, hG⟩ a hk
        have hs := hs.call0 hG
        show wpList _ _ _ [] _ _
        refine wpList_nil ?_
        refine hK20 _ _ ?_
        rcases cond_some H with ⟨c27, H⟩ | ⟨c27, H⟩
        · have hk := hk.lit 16 c27 rfl
          refine cnd_true hk rfl rfl ?_
          apply wp_seq_k; intro K28 hK28
          apply wp_region_lit
          refine sm _ rfl hk rfl rfl rfl fun a hk => ?_
          refine sa _ rfl hk rfl rfl rfl fun a hk => ?_
          show wpList _ _ _ [] _ _
          refine wpList_nil ?_
          refine hK28 _ _ ?_
          refine wp_ret ?_
          obtain rfl := Option.some.inj H
          have ho7 := h14
          try dsimp only at ho7
          subst ho7
          have H := HL9
          try dsimp only at H
          obtain rfl := Option.some.inj H
          exact fin hk _ [(.int .i64 u6)] rfl ⟨rfl, trivial⟩ ⟨rfl, (hs.pick [] rfl).dnil⟩
        · have hk := hk.lit 16 c27 rfl
          refine cnd_false hk rfl rfl ?_
          refine wp_skip ?_
          refine hK18 _ _ ?_
          apply wp_region_lit
          refine sv (.int .i64 (w64 (u6 + 1))) hk rfl rfl rfl fun a hk => ?_
          refine sm _ rfl hk rfl rfl rfl fun a hk => ?_
          show wpList _ _ _ [] _ _
          refine wpList_nil ?_
          obtain rfl := Option.some.inj H
          obtain ⟨m29, hmm29, h14⟩ := h14
          show ∃ n', n' < _ ∧ I11 n' _ _
          refine ⟨m29, hmm29, ?_⟩
          rw [hI11]
          exact ⟨(w64 (u6 + 1)), h14, (hk.c 0 rfl (hk.c 1 rfl (hk.c 7 rfl (hk.c 8 rfl hk.k)))), (hs.pick [] rfl)⟩
      · have hk := hk.lit 9 c17 rfl
        refine cnd_false hk rfl rfl ?_
        refine wp_exit ?_
        obtain rfl := Option.some.inj H
        show R10 _ _
        rw [hR10]
        exact ⟨h14.symm, hk.k, (hs.pick [] rfl)⟩
  · intro a w hR0
    rw [hR10] at hR0
    obtain ⟨rfl, hk, hs⟩ := hR0
    have H := HL9
    try dsimp only at H
    refine hK2 _ _ ?_
    apply wp_seq_k; intro K30 hK30
    apply wp_region_lit
    refine sa _ rfl hk rfl rfl rfl fun a hk => ?_
    show wpList _ _ _ [] _ _
    refine wpList_nil ?_
    refine hK30 _ _ ?_
    refine wp_ret ?_
    obtain rfl := Option.some.inj H
    exact fin hk _ [(.int .i64 (-1))] rfl ⟨rfl, trivial⟩ ⟨rfl, (hs.pick [] rfl).dnil⟩

noncomputable def slices_ContainsFunc_string_string.f (l0 : List ByteArray) (q1 : ByteArray → Option (Bool)) : Option (Bool) :=
  ((slices_IndexFunc_string_string.f l0 q1).bind fun y3 => (some (decide (y3 ≥ 0))))
set_option maxRecDepth 100000 in
set_option maxHeartbeats 0 in
theorem slices_ContainsFunc_string_string_t (w0 : World) (A0_ : Option Addr) (p0_ : Nat) (l0 : List ByteArray) (k0_ : Chunk) (v0_ : View Lay.str A0_ p0_ l0 k0_) (w0_ : Has w0 k0_) (f1_ : FuncId) (c1_ : List Value) (e1_ : Enters Try.prog f1_) (q1 : ByteArray → Option (Bool)) (k1_ : Chunk) (t1_ : ∀ w, Has w k1_ → ∀ (z0 : ByteArray) (r : Bool), q1 z0 = some r → Calls Try.prog f1_ (([.string z0] : List Value) ++ c1_).toArray w (Ret (fun v w2 => v = .bool r ∧ Sat [] w w2 [] []))) (w1_ : Has w0 k1_) (r : Bool) (H : slices_ContainsFunc_string_string.f l0 q1 = some r) :
    Calls Try.prog 136 #[.slice A0_ l0.length p0_, .func (.func f1_) #[] c1_.toArray] w0 (Ret (fun v w => v = .bool r ∧ Sat [] w0 w [] [])) := by
  have hs : Sat [] w0 w0 [(1, k0_), (2, k1_)] [] := Sat.init w0 [(1, k0_), (2, k1_)] [] (by simp only [List.mem_cons, List.not_mem_nil, or_false]; rintro x (rfl | rfl) <;> assumption) (by simp) List.nodup_nil (by simp [blks])
  unfold slices_ContainsFunc_string_string.f at H
  refine enter Try.func136 rfl Try.ntmps136 rfl fun a hk => ?_
  apply wp_seq_k; intro K1 hK1
  apply wp_region_lit
  refine sa _ rfl hk rfl rfl rfl fun a hk => ?_
  show wpList _ _ _ [] _ _
  refine wpList_nil ?_
  refine hK1 _ _ ?_
  apply wp_seq_k; intro K2 hK2
  apply wp_region_lit
  refine sm _ rfl hk rfl rfl rfl fun a hk => ?_
  refine sm _ rfl hk rfl rfl rfl fun a hk => ?_
  obtain ⟨y3, h4, H⟩ := bind_some H
  refine sc rfl en149 hk rfl rfl rfl (slices_IndexFunc_string_string_t _ A0_ p0_ l0 _ v0_ (hs.hasD (k := 1) rfl) f1_ c1_ e1_ q1 k1_ t1_ (hs.hasD (k := 2) rfl) _ h4) ?_
  rintro _ w ⟨rfl, hG⟩ a hk
  have hs := hs.call0 hG
  refine sv (.bool (decide (y3 ≥ 0))) hk rfl rfl rfl fun a hk => ?_
  refine sa _ rfl hk rfl rfl rfl fun a hk => ?_
  show wpList _ _ _ [] _ _
  refine wpList_nil ?_
  refine hK2 _ _ ?_
  refine wp_ret ?_
  obtain rfl := Option.some.inj H
  exact fin hk _ [(.bool (decide (y3 ≥ 0)))] rfl ⟨rfl, trivial⟩ ⟨rfl, (hs.pick [] rfl).dnil⟩

noncomputable def impl_areAll_string__c1.f (x0 : ByteArray) (q1 : ByteArray → Option (Bool)) : Option (Bool) :=
  ((q1 x0).bind fun y3 => (some (!y3)))
set_option maxRecDepth 100000 in
set_option maxHeartbeats 0 in
theorem impl_areAll_string__c1_t (w0 : World) (x0 : ByteArray) (b1_ : Nat) (f1_ : FuncId) (c1_ : List Value) (e1_ : Enters Try.prog f1_) (q1 : ByteArray → Option (Bool)) (k1_ : Chunk) (t1_ : ∀ w, Has w k1_ → ∀ (z0 : ByteArray) (r : Bool), q1 z0 = some r → Calls Try.prog f1_ (([.string z0] : List Value) ++ c1_).toArray w (Ret (fun v w2 => v = .bool r ∧ Sat [] w w2 [] []))) (w1_ : Has w0 k1_) (h1_ : Has w0 [(b1_, .cells #[.func (.func f1_) #[] c1_.toArray] 108 (0, 0))]) (r : Bool) (H : impl_areAll_string__c1.f x0 q1 = some r) :
    Calls Try.prog 137 #[.string x0, .pointer (some ⟨b1_, 0, none⟩)] w0 (Ret (fun v w => v = .bool r ∧ Sat [] w0 w [] [])) := by
  have hs : Sat [] w0 w0 [(2, k1_), (1, [(b1_, .cells #[.func (.func f1_) #[] c1_.toArray] 108 (0, 0))])] [] := Sat.init w0 [(2, k1_), (1, [(b1_, .cells #[.func (.func f1_) #[] c1_.toArray] 108 (0, 0))])] [] (by simp only [List.mem_cons, List.not_mem_nil, or_false]; rintro x (rfl | rfl) <;> assumption) (by simp) List.nodup_nil (by simp [blks])
  unfold impl_areAll_string__c1.f at H
  refine enter Try.func137 rfl Try.ntmps137 rfl fun a hk => ?_
  apply wp_seq_k; intro K1 hK1
  apply wp_region_lit
  refine sa _ rfl hk rfl rfl rfl fun a hk => ?_
  show wpList _ _ _ [] _ _
  refine wpList_nil ?_
  refine hK1 _ _ ?_
  apply wp_seq_k; intro K2 hK2
  apply wp_region_lit
  refine sl rfl hk rfl rfl rfl ag108 (box_cellD hs (k := 1) rfl rfl) fun a hk => ?_
  refine sm _ rfl hk rfl rfl rfl fun a hk => ?_
  obtain ⟨y3, h4, H⟩ := bind_some H
  refine scv (vs := ([(.string x0)] : List Value) ++ c1_) rfl rfl e1_ hk rfl rfl rfl (t1_ _ (hs.hasD (k := 2) rfl) x0 _ h4) ?_
  rintro _ w ⟨rfl, hG⟩ a hk
  have hs := hs.call0 hG
  refine sv (.bool (!y3)) hk rfl rfl rfl fun a hk => ?_
  refine sa _ rfl hk rfl rfl rfl fun a hk => ?_
  show wpList _ _ _ [] _ _
  refine wpList_nil ?_
  refine hK2 _ _ ?_
  refine wp_ret ?_
  obtain rfl := Option.some.inj H
  exact fin hk _ [(.bool (!y3))] rfl ⟨rfl, trivial⟩ ⟨rfl, (hs.pick [] rfl).dnil⟩

noncomputable def impl_areAll_string.f (l0 : List ByteArray) (q1 : ByteArray → Option (Bool)) : Option (Bool) :=
  ((slices_ContainsFunc_string_string.f l0 (fun z0 => impl_areAll_string__c1.f z0 q1)).bind fun y4 => (some (!y4)))
set_option maxRecDepth 100000 in
set_option maxHeartbeats 0 in
theorem impl_areAll_string_t (w0 : World) (A0_ : Option Addr) (p0_ : Nat) (l0 : List ByteArray) (k0_ : Chunk) (v0_ : View Lay.str A0_ p0_ l0 k0_) (w0_ : Has w0 k0_) (f1_ : FuncId) (c1_ : List Value) (e1_ : Enters Try.prog f1_) (q1 : ByteArray → Option (Bool)) (k1_ : Chunk) (t1_ : ∀ w, Has w k1_ → ∀ (z0 : ByteArray) (r : Bool), q1 z0 = some r → Calls Try.prog f1_ (([.string z0] : List Value) ++ c1_).toArray w (Ret (fun v w2 => v = .bool r ∧ Sat [] w w2 [] []))) (w1_ : Has w0 k1_) (r : Bool) (H : impl_areAll_string.f l0 q1 = some r) :
    Calls Try.prog 115 #[.slice A0_ l0.length p0_, .func (.func f1_) #[] c1_.toArray] w0 (Ret (fun v w => v = .bool r ∧ Sat [] w0 w [] [])) := by
  have hs : Sat [] w0 w0 [(1, k0_), (2, k1_)] [] := Sat.init w0 [(1, k0_), (2, k1_)] [] (by simp only [List.mem_cons, List.not_mem_nil, or_false]; rintro x (rfl | rfl) <;> assumption) (by simp) List.nodup_nil (by simp [blks])
  unfold impl_areAll_string.f at H
  refine enter Try.func115 rfl Try.ntmps115 rfl fun a hk => ?_
  apply wp_seq_k; intro K1 hK1
  apply wp_region_lit
  refine sbx 3 hs rfl hk rfl rfl rfl rfl fun b2 w a hk hs => ?_
  refine sa _ rfl hk rfl rfl rfl fun a hk => ?_
  show wpList _ _ _ [] _ _
  refine wpList_nil ?_
  refine hK1 _ _ ?_
  apply wp_seq_k; intro K3 hK3
  apply wp_region_lit
  refine sm _ rfl hk rfl rfl rfl fun a hk => ?_
  refine smf (cs := [.pointer (some ⟨b2, 0, none⟩)]) rfl hk rfl rfl rfl fun a hk => ?_
  obtain ⟨y4, h5, H⟩ := bind_some H
  refine sc rfl en136 hk rfl rfl rfl (slices_ContainsFunc_string_string_t _ A0_ p0_ l0 _ v0_ (hs.hasD (k := 1) rfl) 137 [.pointer (some ⟨b2, 0, none⟩)] en137 (fun z0 => impl_areAll_string__c1.f z0 q1) ([(b2, .cells #[.func (.func f1_) #[] c1_.toArray] 108 (0, 0))] ++ k1_) (fun w hz z0 r h => impl_areAll_string__c1_t w z0 _ f1_ c1_ e1_ q1 k1_ t1_ (Has.right hz) (Has.left hz) r h) (Has.app (hs.hasG (k := 3) rfl) (hs.hasD (k := 2) rfl)) _ h5) ?_
  rintro _ w ⟨rfl, hG⟩ a hk
  have hs := hs.call0 hG
  refine sv (.bool (!y4)) hk rfl rfl rfl fun a hk => ?_
  refine sa _ rfl hk rfl rfl rfl fun a hk => ?_
  show wpList _ _ _ [] _ _
  refine wpList_nil ?_
  refine hK3 _ _ ?_
  refine wp_ret ?_
  obtain rfl := Option.some.inj H
  exact fin hk _ [(.bool (!y4))] rfl ⟨rfl, trivial⟩ ⟨rfl, (hs.pick [] rfl).dnil⟩

noncomputable def slices_IndexFunc_impl_Io_impl_Io.s0 (l0 : List S_Io) (q1 : S_Io → Option (Bool)) (u6 : Int) : Option ((Int) ⊕ Ex (Unit) (Int)) :=
  (bif (decide (u6 < (l0.length : Int))) then (if 0 ≤ u6 ∧ u6 < (l0.length : Int) then ((q1 (l0.getD u6.toNat z_Io)).bind fun y25 => (bif y25 then (some (.inr (.ret u6))) else (some (.inl (w64 (u6 + 1)))))) else none) else (some (.inr (.out ()))))
noncomputable def slices_IndexFunc_impl_Io_impl_Io.f (l0 : List S_Io) (q1 : S_Io → Option (Bool)) : Option (Int) :=
  ((loopO (fun s => slices_IndexFunc_impl_Io_impl_Io.s0 l0 q1 s) 0).bind fun o => match o with | .out _ => (some (-1)) | .ret r => (some r))
set_option maxRecDepth 100000 in
set_option maxHeartbeats 0 in
theorem slices_IndexFunc_impl_Io_impl_Io_t (w0 : World) (A0_ : Option Addr) (p0_ : Nat) (l0 : List S_Io) (k0_ : Chunk) (v0_ : View L_Io A0_ p0_ l0 k0_) (w0_ : Has w0 k0_) (f1_ : FuncId) (c1_ : List Value) (e1_ : Enters Try.prog f1_) (q1 : S_Io → Option (Bool)) (k1_ : Chunk) (t1_ : ∀ w, Has w k1_ → ∀ (z0 : S_Io) (r : Bool), q1 z0 = some r → Calls Try.prog f1_ (([.agg #[.int .i64 z0.At, .string z0.Data]] : List Value) ++ c1_).toArray w (Ret (fun v w2 => v = .bool r ∧ Sat [] w w2 [] []))) (w1_ : Has w0 k1_) (r : Int) (H : slices_IndexFunc_impl_Io_impl_Io.f l0 q1 = some r) :
    Calls Try.prog 150 #[.slice A0_ l0.length p0_, .func (.func f1_) #[] c1_.toArray] w0 (Ret (fun v w => v = .int .i64 r ∧ Sat [] w0 w [] [])) := by
  have hs : Sat [] w0 w0 [(1, k0_), (2, k1_)] [] := Sat.init w0 [(1, k0_), (2, k1_)] [] (by simp only [List.mem_cons, List.not_mem_nil, or_false]; rintro x (rfl | rfl) <;> assumption) (by simp) List.nodup_nil (by simp [blks])
  unfold slices_IndexFunc_impl_Io_impl_Io.f at H
  refine enter Try.func150 rfl Try.ntmps150 rfl fun a hk => ?_
  apply wp_seq_k; intro K1 hK1
  apply wp_region_lit
  refine sa _ rfl hk rfl rfl rfl fun a hk => ?_
  show wpList _ _ _ [] _ _
  refine wpList_nil ?_
  refine hK1 _ _ ?_
  apply wp_seq_k; intro K2 hK2
  apply wp_seq_k; intro K3 hK3
  apply wp_region_lit
  refine sm _ rfl hk rfl rfl rfl fun a hk => ?_
  refine sle rfl hk rfl rfl rfl un33 fun a hk => ?_
  refine sm _ rfl hk rfl rfl rfl fun a hk => ?_
  show wpList _ _ _ [] _ _
  refine wpList_nil ?_
  refine hK3 _ _ ?_
  obtain ⟨o7, h8, HL9⟩ := bind_some H
  clear H
  obtain ⟨R10, hR10⟩ : ∃ R : Act → World → Prop, R = fun a w => o7 = .out () ∧ Kn [] 19 a ∧ Sat [] w0 w [(1, k0_), (2, k1_)] [] := ⟨_, rfl⟩
  refine wp_cutq R10 ?_ ?_
  · refine wp_block ?_
    obtain ⟨fu12, h8⟩ := loopO_some h8
    obtain ⟨I11, hI11⟩ : ∃ I : Nat → Act → World → Prop, I = fun fu a w => ∃ (u6 : Int), loopN (fun s => slices_IndexFunc_impl_Io_impl_Io.s0 l0 q1 s) fu u6 = some o7 ∧ Kn [(0, (.slice A0_ l0.length p0_)), (1, (.func (.func f1_) #[] c1_.toArray)), (7, (.int .i64 (l0.length : Int))), (8, (.int .i64 u6))] 19 a ∧ Sat [] w0 w [(1, k0_), (2, k1_)] [] := ⟨_, rfl⟩
    refine wp_loop_ghost I11 fu12 ?_ ?_
    · rw [hI11]
      exact ⟨0, h8, (hk.c 0 rfl (hk.c 1 rfl (hk.c 7 rfl (hk.c 8 rfl hk.k)))), (hs.pick [] rfl)⟩
    · clear h8 hk hs
      intro fu12 a w hI0
      rw [hI11] at hI0
      obtain ⟨u6, hi, hk, hs⟩ := hI0
      obtain ⟨x13, H, h14⟩ := loop_round hi
      try dsimp only at H
      unfold slices_IndexFunc_impl_Io_impl_Io.s0 at H
      apply wp_seq_k; intro K15 hK15
      apply wp_region_lit
      refine sv (.bool (decide (u6 < (l0.length : Int)))) hk rfl rfl rfl fun a hk => ?_
      show wpList _ _ _ [] _ _
      refine wpList_nil ?_
      refine hK15 _ _ ?_
      apply wp_seq_k; intro K16 hK16
      rcases cond_some H with ⟨c17, H⟩ | ⟨c17, H⟩
      · have hk := hk.lit 9 c17 rfl
        refine cnd_true hk rfl rfl ?_
        refine wp_skip ?_
        refine hK16 _ _ ?_
        apply wp_seq_k; intro K18 hK18
        refine wp_block ?_
        apply wp_seq_k; intro K19 hK19
        apply wp_region_lit
        refine sm _ rfl hk rfl rfl rfl fun a hk => ?_
        refine sa _ rfl hk rfl rfl rfl fun a hk => ?_
        show wpList _ _ _ [] _ _
        refine wpList_nil ?_
        refine hK19 _ _ ?_
        apply wp_seq_k; intro K20 hK20
        apply wp_region_lit
        refine sm _ rfl hk rfl rfl rfl fun a hk => ?_
        refine sm _ rfl hk rfl rfl rfl fun a hk => ?_
        refine sm _ rfl hk rfl rfl rfl fun a hk => ?_
        rcases ite_some H with ⟨c21, H⟩ | ⟨_, H⟩
        rotate_left
        · cases H
        obtain ⟨b22, q23, hAc21⟩ := (v0_).some_ u6 c21.1 c21.2
        refine si rfl hk rfl rfl rfl rfl un33 sz114 c21.1 c21.2 hAc21 fun a hk => ?_
        obtain ⟨_, rfl, e24⟩ := (v0_).at_ z_Io u6 c21.1 c21.2
        refine sln [.int .i64 ((l0.getD u6.toNat z_Io).At), .string ((l0.getD u6.toNat z_Io).Data)] rfl hk rfl rfl rfl ag114 sz114 (cells_at e24 (hs.hasD (k := 1) rfl)) fun a hk => ?_
        obtain ⟨y25, h26, H⟩ := bind_some H
        refine scv (vs := ([(.agg #[.int .i64 ((l0.getD u6.toNat z_Io).At), .string ((l0.getD u6.toNat z_Io).Data)])] : List Value) ++ c1_) rfl rfl e1_ hk rfl rfl rfl (t1_ _ (hs.hasD (k := 2) rfl) (l0.getD u6.toNat z_Io) _ h26) ?_
        rintro _ w ⟨rfl, hG⟩ a hk
        have hs := hs.call0 hG
        show wpList _ _ _ [] _ _
        refine wpList_nil ?_
        refine hK20 _ _ ?_
        rcases cond_some H with ⟨c27, H⟩ | ⟨c27, H⟩
        · have hk := hk.lit 16 c27 rfl
          refine cnd_true hk rfl rfl ?_
          apply wp_seq_k; intro K28 hK28
          apply wp_region_lit
          refine sm _ rfl hk rfl rfl rfl fun a hk => ?_
          refine sa _ rfl hk rfl rfl rfl fun a hk => ?_
          show wpList _ _ _ [] _ _
          refine wpList_nil ?_
          refine hK28 _ _ ?_
          refine wp_ret ?_
          obtain rfl := Option.some.inj H
          have ho7 := h14
          try dsimp only at ho7
          subst ho7
          have H := HL9
          try dsimp only at H
          obtain rfl := Option.some.inj H
          exact fin hk _ [(.int .i64 u6)] rfl ⟨rfl, trivial⟩ ⟨rfl, (hs.pick [] rfl).dnil⟩
        · have hk := hk.lit 16 c27 rfl
          refine cnd_false hk rfl rfl ?_
          refine wp_skip ?_
          refine hK18 _ _ ?_
          apply wp_region_lit
          refine sv (.int .i64 (w64 (u6 + 1))) hk rfl rfl rfl fun a hk => ?_
          refine sm _ rfl hk rfl rfl rfl fun a hk => ?_
          show wpList _ _ _ [] _ _
          refine wpList_nil ?_
          obtain rfl := Option.some.inj H
          obtain ⟨m29, hmm29, h14⟩ := h14
          show ∃ n', n' < _ ∧ I11 n' _ _
          refine ⟨m29, hmm29, ?_⟩
          rw [hI11]
          exact ⟨(w64 (u6 + 1)), h14, (hk.c 0 rfl (hk.c 1 rfl (hk.c 7 rfl (hk.c 8 rfl hk.k)))), (hs.pick [] rfl)⟩
      · have hk := hk.lit 9 c17 rfl
        refine cnd_false hk rfl rfl ?_
        refine wp_exit ?_
        obtain rfl := Option.some.inj H
        show R10 _ _
        rw [hR10]
        exact ⟨h14.symm, hk.k, (hs.pick [] rfl)⟩
  · intro a w hR0
    rw [hR10] at hR0
    obtain ⟨rfl, hk, hs⟩ := hR0
    have H := HL9
    try dsimp only at H
    refine hK2 _ _ ?_
    apply wp_seq_k; intro K30 hK30
    apply wp_region_lit
    refine sa _ rfl hk rfl rfl rfl fun a hk => ?_
    show wpList _ _ _ [] _ _
    refine wpList_nil ?_
    refine hK30 _ _ ?_
    refine wp_ret ?_
    obtain rfl := Option.some.inj H
    exact fin hk _ [(.int .i64 (-1))] rfl ⟨rfl, trivial⟩ ⟨rfl, (hs.pick [] rfl).dnil⟩

noncomputable def slices_ContainsFunc_impl_Io_impl_Io.f (l0 : List S_Io) (q1 : S_Io → Option (Bool)) : Option (Bool) :=
  ((slices_IndexFunc_impl_Io_impl_Io.f l0 q1).bind fun y3 => (some (decide (y3 ≥ 0))))
set_option maxRecDepth 100000 in
set_option maxHeartbeats 0 in
theorem slices_ContainsFunc_impl_Io_impl_Io_t (w0 : World) (A0_ : Option Addr) (p0_ : Nat) (l0 : List S_Io) (k0_ : Chunk) (v0_ : View L_Io A0_ p0_ l0 k0_) (w0_ : Has w0 k0_) (f1_ : FuncId) (c1_ : List Value) (e1_ : Enters Try.prog f1_) (q1 : S_Io → Option (Bool)) (k1_ : Chunk) (t1_ : ∀ w, Has w k1_ → ∀ (z0 : S_Io) (r : Bool), q1 z0 = some r → Calls Try.prog f1_ (([.agg #[.int .i64 z0.At, .string z0.Data]] : List Value) ++ c1_).toArray w (Ret (fun v w2 => v = .bool r ∧ Sat [] w w2 [] []))) (w1_ : Has w0 k1_) (r : Bool) (H : slices_ContainsFunc_impl_Io_impl_Io.f l0 q1 = some r) :
    Calls Try.prog 138 #[.slice A0_ l0.length p0_, .func (.func f1_) #[] c1_.toArray] w0 (Ret (fun v w => v = .bool r ∧ Sat [] w0 w [] [])) := by
  have hs : Sat [] w0 w0 [(1, k0_), (2, k1_)] [] := Sat.init w0 [(1, k0_), (2, k1_)] [] (by simp only [List.mem_cons, List.not_mem_nil, or_false]; rintro x (rfl | rfl) <;> assumption) (by simp) List.nodup_nil (by simp [blks])
  unfold slices_ContainsFunc_impl_Io_impl_Io.f at H
  refine enter Try.func138 rfl Try.ntmps138 rfl fun a hk => ?_
  apply wp_seq_k; intro K1 hK1
  apply wp_region_lit
  refine sa _ rfl hk rfl rfl rfl fun a hk => ?_
  show wpList _ _ _ [] _ _
  refine wpList_nil ?_
  refine hK1 _ _ ?_
  apply wp_seq_k; intro K2 hK2
  apply wp_region_lit
  refine sm _ rfl hk rfl rfl rfl fun a hk => ?_
  refine sm _ rfl hk rfl rfl rfl fun a hk => ?_
  obtain ⟨y3, h4, H⟩ := bind_some H
  refine sc rfl en150 hk rfl rfl rfl (slices_IndexFunc_impl_Io_impl_Io_t _ A0_ p0_ l0 _ v0_ (hs.hasD (k := 1) rfl) f1_ c1_ e1_ q1 k1_ t1_ (hs.hasD (k := 2) rfl) _ h4) ?_
  rintro _ w ⟨rfl, hG⟩ a hk
  have hs := hs.call0 hG
  refine sv (.bool (decide (y3 ≥ 0))) hk rfl rfl rfl fun a hk => ?_
  refine sa _ rfl hk rfl rfl rfl fun a hk => ?_
  show wpList _ _ _ [] _ _
  refine wpList_nil ?_
  refine hK2 _ _ ?_
  refine wp_ret ?_
  obtain rfl := Option.some.inj H
  exact fin hk _ [(.bool (decide (y3 ≥ 0)))] rfl ⟨rfl, trivial⟩ ⟨rfl, (hs.pick [] rfl).dnil⟩

noncomputable def impl_areAll_impl_Io__c1.f (x0 : S_Io) (q1 : S_Io → Option (Bool)) : Option (Bool) :=
  ((q1 x0).bind fun y4 => (some (!y4)))
set_option maxRecDepth 100000 in
set_option maxHeartbeats 0 in
theorem impl_areAll_impl_Io__c1_t (w0 : World) (x0 : S_Io) (b1_ : Nat) (f1_ : FuncId) (c1_ : List Value) (e1_ : Enters Try.prog f1_) (q1 : S_Io → Option (Bool)) (k1_ : Chunk) (t1_ : ∀ w, Has w k1_ → ∀ (z0 : S_Io) (r : Bool), q1 z0 = some r → Calls Try.prog f1_ (([.agg #[.int .i64 z0.At, .string z0.Data]] : List Value) ++ c1_).toArray w (Ret (fun v w2 => v = .bool r ∧ Sat [] w w2 [] []))) (w1_ : Has w0 k1_) (h1_ : Has w0 [(b1_, .cells #[.func (.func f1_) #[] c1_.toArray] 131 (0, 0))]) (r : Bool) (H : impl_areAll_impl_Io__c1.f x0 q1 = some r) :
    Calls Try.prog 139 #[.agg #[.int .i64 x0.At, .string x0.Data], .pointer (some ⟨b1_, 0, none⟩)] w0 (Ret (fun v w => v = .bool r ∧ Sat [] w0 w [] [])) := by
  have hs : Sat [] w0 w0 [(2, k1_), (1, [(b1_, .cells #[.func (.func f1_) #[] c1_.toArray] 131 (0, 0))])] [] := Sat.init w0 [(2, k1_), (1, [(b1_, .cells #[.func (.func f1_) #[] c1_.toArray] 131 (0, 0))])] [] (by simp only [List.mem_cons, List.not_mem_nil, or_false]; rintro x (rfl | rfl) <;> assumption) (by simp) List.nodup_nil (by simp [blks])
  unfold impl_areAll_impl_Io__c1.f at H
  refine enter Try.func139 rfl Try.ntmps139 rfl fun a hk => ?_
  apply wp_seq_k; intro K1 hK1
  apply wp_region_lit
  refine sbx 3 hs rfl hk rfl rfl rfl rfl fun b2 w a hk hs => ?_
  refine sa _ rfl hk rfl rfl rfl fun a hk => ?_
  show wpList _ _ _ [] _ _
  refine wpList_nil ?_
  refine hK1 _ _ ?_
  apply wp_seq_k; intro K3 hK3
  apply wp_region_lit
  refine sl rfl hk rfl rfl rfl ag131 (box_cellD hs (k := 1) rfl rfl) fun a hk => ?_
  refine sln [.int .i64 x0.At, .string x0.Data] rfl hk rfl rfl rfl ag114 sz114 (box_cells hs (k := 3) rfl) fun a hk => ?_
  obtain ⟨y4, h5, H⟩ := bind_some H
  refine scv (vs := ([(.agg #[.int .i64 x0.At, .string x0.Data])] : List Value) ++ c1_) rfl rfl e1_ hk rfl rfl rfl (t1_ _ (hs.hasD (k := 2) rfl) x0 _ h5) ?_
  rintro _ w ⟨rfl, hG⟩ a hk
  have hs := hs.call0 hG
  refine sv (.bool (!y4)) hk rfl rfl rfl fun a hk => ?_
  refine sa _ rfl hk rfl rfl rfl fun a hk => ?_
  show wpList _ _ _ [] _ _
  refine wpList_nil ?_
  refine hK3 _ _ ?_
  refine wp_ret ?_
  obtain rfl := Option.some.inj H
  exact fin hk _ [(.bool (!y4))] rfl ⟨rfl, trivial⟩ ⟨rfl, (hs.pick [] rfl).dnil⟩

noncomputable def impl_areAll_impl_Io.f (l0 : List S_Io) (q1 : S_Io → Option (Bool)) : Option (Bool) :=
  ((slices_ContainsFunc_impl_Io_impl_Io.f l0 (fun z0 => impl_areAll_impl_Io__c1.f z0 q1)).bind fun y4 => (some (!y4)))
set_option maxRecDepth 100000 in
set_option maxHeartbeats 0 in
theorem impl_areAll_impl_Io_t (w0 : World) (A0_ : Option Addr) (p0_ : Nat) (l0 : List S_Io) (k0_ : Chunk) (v0_ : View L_Io A0_ p0_ l0 k0_) (w0_ : Has w0 k0_) (f1_ : FuncId) (c1_ : List Value) (e1_ : Enters Try.prog f1_) (q1 : S_Io → Option (Bool)) (k1_ : Chunk) (t1_ : ∀ w, Has w k1_ → ∀ (z0 : S_Io) (r : Bool), q1 z0 = some r → Calls Try.prog f1_ (([.agg #[.int .i64 z0.At, .string z0.Data]] : List Value) ++ c1_).toArray w (Ret (fun v w2 => v = .bool r ∧ Sat [] w w2 [] []))) (w1_ : Has w0 k1_) (r : Bool) (H : impl_areAll_impl_Io.f l0 q1 = some r) :
    Calls Try.prog 116 #[.slice A0_ l0.length p0_, .func (.func f1_) #[] c1_.toArray] w0 (Ret (fun v w => v = .bool r ∧ Sat [] w0 w [] [])) := by
  have hs : Sat [] w0 w0 [(1, k0_), (2, k1_)] [] := Sat.init w0 [(1, k0_), (2, k1_)] [] (by simp only [List.mem_cons, List.not_mem_nil, or_false]; rintro x (rfl | rfl) <;> assumption) (by simp) List.nodup_nil (by simp [blks])
  unfold impl_areAll_impl_Io.f at H
  refine enter Try.func116 rfl Try.ntmps116 rfl fun a hk => ?_
  apply wp_seq_k; intro K1 hK1
  apply wp_region_lit
  refine sbx 3 hs rfl hk rfl rfl rfl rfl fun b2 w a hk hs => ?_
  refine sa _ rfl hk rfl rfl rfl fun a hk => ?_
  show wpList _ _ _ [] _ _
  refine wpList_nil ?_
  refine hK1 _ _ ?_
  apply wp_seq_k; intro K3 hK3
  apply wp_region_lit
  refine sm _ rfl hk rfl rfl rfl fun a hk => ?_
  refine smf (cs := [.pointer (some ⟨b2, 0, none⟩)]) rfl hk rfl rfl rfl fun a hk => ?_
  obtain ⟨y4, h5, H⟩ := bind_some H
  refine sc rfl en138 hk rfl rfl rfl (slices_ContainsFunc_impl_Io_impl_Io_t _ A0_ p0_ l0 _ v0_ (hs.hasD (k := 1) rfl) 139 [.pointer (some ⟨b2, 0, none⟩)] en139 (fun z0 => impl_areAll_impl_Io__c1.f z0 q1) ([(b2, .cells #[.func (.func f1_) #[] c1_.toArray] 131 (0, 0))] ++ k1_) (fun w hz z0 r h => impl_areAll_impl_Io__c1_t w z0 _ f1_ c1_ e1_ q1 k1_ t1_ (Has.right hz) (Has.left hz) r h) (Has.app (hs.hasG (k := 3) rfl) (hs.hasD (k := 2) rfl)) _ h5) ?_
  rintro _ w ⟨rfl, hG⟩ a hk
  have hs := hs.call0 hG
  refine sv (.bool (!y4)) hk rfl rfl rfl fun a hk => ?_
  refine sa _ rfl hk rfl rfl rfl fun a hk => ?_
  show wpList _ _ _ [] _ _
  refine wpList_nil ?_
  refine hK3 _ _ ?_
  refine wp_ret ?_
  obtain rfl := Option.some.inj H
  exact fin hk _ [(.bool (!y4))] rfl ⟨rfl, trivial⟩ ⟨rfl, (hs.pick [] rfl).dnil⟩

noncomputable def impl_isSector.f (x0 : Int) : Option (Bool) :=
  ((impl_within.f x0 0 39).bind fun y3 => (some y3))
set_option maxRecDepth 100000 in
set_option maxHeartbeats 0 in
theorem impl_isSector_t (w0 : World) (x0 : Int) (r : Bool) (H : impl_isSector.f x0 = some r) :
    Calls Try.prog 64 #[.int .i64 x0] w0 (Ret (fun v w => v = .bool r ∧ Sat [] w0 w [] [])) := by
  have hs : Sat [] w0 w0 [] [] := Sat.init w0 [] [] (by simp) (by simp) List.nodup_nil (by simp [blks])
  unfold impl_isSector.f at H
  refine enter Try.func64 rfl Try.ntmps64 rfl fun a hk => ?_
  apply wp_seq_k; intro K1 hK1
  apply wp_region_lit
  refine sa _ rfl hk rfl rfl rfl fun a hk => ?_
  show wpList _ _ _ [] _ _
  refine wpList_nil ?_
  refine hK1 _ _ ?_
  apply wp_seq_k; intro K2 hK2
  apply wp_region_lit
  refine sm _ rfl hk rfl rfl rfl fun a hk => ?_
  obtain ⟨y3, h4, H⟩ := bind_some H
  refine sc rfl en65 hk rfl rfl rfl (impl_within_t _ x0 0 39 _ h4) ?_
  rintro _ w ⟨rfl, hG⟩ a hk
  have hs := hs.call0 hG
  refine sa _ rfl hk rfl rfl rfl fun a hk => ?_
  show wpList _ _ _ [] _ _
  refine wpList_nil ?_
  refine hK2 _ _ ?_
  refine wp_ret ?_
  obtain rfl := Option.some.inj H
  exact fin hk _ [(.bool y3)] rfl ⟨rfl, trivial⟩ ⟨rfl, (hs.pick [] rfl).dnil⟩

noncomputable def impl_DeviceOK_c1.f (x0 : S_Io) : Option (Bool) :=
  ((((impl_isSector.f x0.At).bind fun y10 => (bif y10 then ((impl_isContent.f x0.Data).bind fun y13 => (some y13)) else (some false))) : Option (Bool)).bind fun u5 => (some u5))
set_option maxRecDepth 100000 in
set_option maxHeartbeats 0 in
theorem impl_DeviceOK_c1_t (w0 : World) (x0 : S_Io) (r : Bool) (H : impl_DeviceOK_c1.f x0 = some r) :
    Calls Try.prog 117 #[.agg #[.int .i64 x0.At, .string x0.Data]] w0 (Ret (fun v w => v = .bool r ∧ Sat [] w0 w [] [])) := by
  have hs : Sat [] w0 w0 [] [] := Sat.init w0 [] [] (by simp) (by simp) List.nodup_nil (by simp [blks])
  unfold impl_DeviceOK_c1.f at H
  refine enter Try.func117 rfl Try.ntmps117 rfl fun a hk => ?_
  apply wp_seq_k; intro K1 hK1
  apply wp_region_lit
  refine sbx 1 hs rfl hk rfl rfl rfl rfl fun b2 w a hk hs => ?_
  refine sa _ rfl hk rfl rfl rfl fun a hk => ?_
  show wpList _ _ _ [] _ _
  refine wpList_nil ?_
  refine hK1 _ _ ?_
  apply wp_seq_k; intro K3 hK3
  obtain ⟨o6, h7, HL8⟩ := bind_some H
  clear H
  obtain ⟨R9, hR9⟩ : ∃ R : Act → World → Prop, R = fun a w => ∃ (u5 : Bool), u5 = o6 ∧ Kn [(2, (.bool u5))] 11 a ∧ Sat [] w0 w [] [] := ⟨_, rfl⟩
  refine wp_cutq R9 ?_ ?_
  · have H := h7
    apply wp_region_lit
    refine sf ⟨b2, 0, none⟩ rfl hk rfl rfl rfl fd114_0 rfl fun a hk => ?_
    refine sl rfl hk rfl rfl rfl ag3 (box_cell hs (k := 1) rfl rfl) fun a hk => ?_
    obtain ⟨y10, h11, H⟩ := bind_some H
    refine sc rfl en64 hk rfl rfl rfl (impl_isSector_t _ x0.At _ h11) ?_
    rintro _ w ⟨rfl, hG⟩ a hk
    have hs := hs.call0 hG
    refine sm _ rfl hk rfl rfl rfl fun a hk => ?_
    rcases cond_some H with ⟨c12, H⟩ | ⟨c12, H⟩
    · have hk := hk.lit 6 c12 rfl
      refine sf ⟨b2, 1, none⟩ rfl hk rfl rfl rfl fd114_1 rfl fun a hk => ?_
      refine sl rfl hk rfl rfl rfl ag9 (box_cell hs (k := 1) rfl rfl) fun a hk => ?_
      obtain ⟨y13, h14, H⟩ := bind_some H
      refine sc rfl en89 hk rfl rfl rfl (impl_isContent_t _ x0.Data _ h14) ?_
      rintro _ w ⟨rfl, hG⟩ a hk
      have hs := hs.call0 hG
      refine sv (.bool y13) hk rfl rfl rfl fun a hk => ?_
      refine sa _ rfl hk rfl rfl rfl fun a hk => ?_
      show wpList _ _ _ [] _ _
      refine wpList_nil ?_
      obtain rfl := Option.some.inj H
      show R9 _ _
      rw [hR9]
      exact ⟨y13, rfl, (hk.c 2 rfl hk.k), (hs.pick [] rfl)⟩
    · have hk := hk.lit 6 c12 rfl
      refine sk hk rfl rfl rfl fun a hk => ?_
      refine sk hk rfl rfl rfl fun a hk => ?_
      refine sk hk rfl rfl rfl fun a hk => ?_
      refine sv (.bool false) hk rfl rfl rfl fun a hk => ?_
      refine sa _ rfl hk rfl rfl rfl fun a hk => ?_
      show wpList _ _ _ [] _ _
      refine wpList_nil ?_
      obtain rfl := Option.some.inj H
      show R9 _ _
      rw [hR9]
      exact ⟨false, rfl, (hk.c 2 rfl hk.k), (hs.pick [] rfl)⟩
  · intro a w hR0
    rw [hR9] at hR0
    obtain ⟨u5, rfl, hk, hs⟩ := hR0
    have H := HL8
    try dsimp only at H
    refine hK3 _ _ ?_
    refine wp_ret ?_
    obtain rfl := Option.some.inj H
    exact fin hk _ [(.bool u5)] rfl ⟨rfl, trivial⟩ ⟨rfl, (hs.pick [] rfl).dnil⟩

noncomputable def impl_DeviceOK.f (x0 : S_Device) : Option (Bool) :=
  (((bif ((x0.Sure.length : Int) == 40) then ((impl_areAll_string.f x0.Sure impl_isContent.f).bind fun y11 => (bif y11 then (bif (decide ((x0.Unsure.length : Int) ≤ 60)) then ((impl_areAll_impl_Io.f x0.Unsure impl_DeviceOK_c1.f).bind fun y15 => (some y15)) else (some false)) else (some false))) else (some false)) : Option (Bool)).bind fun u5 => (some u5))
set_option maxRecDepth 100000 in
set_option maxHeartbeats 0 in
theorem impl_DeviceOK_t (w0 : World) (x0 : S_Device) (A0_0 : Option Addr) (p0_0 : Nat) (k0_0 : Chunk) (v0_0 : View Lay.str A0_0 p0_0 x0.Sure k0_0) (w0_0 : Has w0 k0_0) (A0_1 : Option Addr) (p0_1 : Nat) (k0_1 : Chunk) (v0_1 : View L_Io A0_1 p0_1 x0.Unsure k0_1) (w0_1 : Has w0 k0_1) (r : Bool) (H : impl_DeviceOK.f x0 = some r) :
    Calls Try.prog 79 #[.agg #[.slice A0_0 x0.Sure.length p0_0, .slice A0_1 x0.Unsure.length p0_1]] w0 (Ret (fun v w => v = .bool r ∧ Sat [] w0 w [] [])) := by
  have hs : Sat [] w0 w0 [(1, k0_0), (2, k0_1)] [] := Sat.init w0 [(1, k0_0), (2, k0_1)] [] (by simp only [List.mem_cons, List.not_mem_nil, or_false]; rintro x (rfl | rfl) <;> assumption) (by simp) List.nodup_nil (by simp [blks])
  unfold impl_DeviceOK.f at H
  refine enter Try.func79 rfl Try.ntmps79 rfl fun a hk => ?_
  apply wp_seq_k; intro K1 hK1
  apply wp_region_lit
  refine sbx 3 hs rfl hk rfl rfl rfl rfl fun b2 w a hk hs => ?_
  refine sa _ rfl hk rfl rfl rfl fun a hk => ?_
  show wpList _ _ _ [] _ _
  refine wpList_nil ?_
  refine hK1 _ _ ?_
  apply wp_seq_k; intro K3 hK3
  obtain ⟨o6, h7, HL8⟩ := bind_some H
  clear H
  obtain ⟨R9, hR9⟩ : ∃ R : Act → World → Prop, R = fun a w => ∃ (u5 : Bool), u5 = o6 ∧ Kn [(2, (.bool u5))] 23 a ∧ Sat [] w0 w [(1, k0_0), (2, k0_1)] [] := ⟨_, rfl⟩
  refine wp_cutq R9 ?_ ?_
  · have H := h7
    apply wp_region_lit
    refine sf ⟨b2, 0, none⟩ rfl hk rfl rfl rfl fd35_0 rfl fun a hk => ?_
    refine sl rfl hk rfl rfl rfl ag24 (box_cell hs (k := 3) rfl rfl) fun a hk => ?_
    refine sle rfl hk rfl rfl rfl un24 fun a hk => ?_
    refine sv (.bool ((x0.Sure.length : Int) == 40)) hk rfl rfl rfl fun a hk => ?_
    refine sm _ rfl hk rfl rfl rfl fun a hk => ?_
    rcases cond_some H with ⟨c10, H⟩ | ⟨c10, H⟩
    · have hk := hk.lit 7 c10 rfl
      refine sf ⟨b2, 0, none⟩ rfl hk rfl rfl rfl fd35_0 rfl fun a hk => ?_
      refine sl rfl hk rfl rfl rfl ag24 (box_cell hs (k := 3) rfl rfl) fun a hk => ?_
      obtain ⟨y11, h12, H⟩ := bind_some H
      refine sc rfl en115 hk rfl rfl rfl (impl_areAll_string_t _ A0_0 p0_0 x0.Sure _ v0_0 (hs.hasD (k := 1) rfl) 89 [] en89 impl_isContent.f [] (fun w _ z0 r h => impl_isContent_t w z0 r h) (Has.nil _) _ h12) ?_
      rintro _ w ⟨rfl, hG⟩ a hk
      have hs := hs.call0 hG
      refine sv (.bool y11) hk rfl rfl rfl fun a hk => ?_
      refine sm _ rfl hk rfl rfl rfl fun a hk => ?_
      rcases cond_some H with ⟨c13, H⟩ | ⟨c13, H⟩
      · have hk := hk.lit 12 c13 rfl
        refine sf ⟨b2, 1, none⟩ rfl hk rfl rfl rfl fd35_1 rfl fun a hk => ?_
        refine sl rfl hk rfl rfl rfl ag33 (box_cell hs (k := 3) rfl rfl) fun a hk => ?_
        refine sle rfl hk rfl rfl rfl un33 fun a hk => ?_
        refine sv (.bool (decide ((x0.Unsure.length : Int) ≤ 60))) hk rfl rfl rfl fun a hk => ?_
        refine sv (.bool (decide ((x0.Unsure.length : Int) ≤ 60))) hk rfl rfl rfl fun a hk => ?_
        refine sm _ rfl hk rfl rfl rfl fun a hk => ?_
        rcases cond_some H with ⟨c14, H⟩ | ⟨c14, H⟩
        · have hk := hk.lit 18 c14 rfl
          refine sf ⟨b2, 1, none⟩ rfl hk rfl rfl rfl fd35_1 rfl fun a hk => ?_
          refine sl rfl hk rfl rfl rfl ag33 (box_cell hs (k := 3) rfl rfl) fun a hk => ?_
          obtain ⟨y15, h16, H⟩ := bind_some H
          refine sc rfl en116 hk rfl rfl rfl (impl_areAll_impl_Io_t _ A0_1 p0_1 x0.Unsure _ v0_1 (hs.hasD (k := 2) rfl) 117 [] en117 impl_DeviceOK_c1.f [] (fun w _ z0 r h => impl_DeviceOK_c1_t w z0 r h) (Has.nil _) _ h16) ?_
          rintro _ w ⟨rfl, hG⟩ a hk
          have hs := hs.call0 hG
          refine sv (.bool y15) hk rfl rfl rfl fun a hk => ?_
          refine sa _ rfl hk rfl rfl rfl fun a hk => ?_
          show wpList _ _ _ [] _ _
          refine wpList_nil ?_
          obtain rfl := Option.some.inj H
          show R9 _ _
          rw [hR9]
          exact ⟨y15, rfl, (hk.c 2 rfl hk.k), (hs.pick [] rfl)⟩
        · have hk := hk.lit 18 c14 rfl
          refine sk hk rfl rfl rfl fun a hk => ?_
          refine sk hk rfl rfl rfl fun a hk => ?_
          refine sk hk rfl rfl rfl fun a hk => ?_
          refine sv (.bool false) hk rfl rfl rfl fun a hk => ?_
          refine sa _ rfl hk rfl rfl rfl fun a hk => ?_
          show wpList _ _ _ [] _ _
          refine wpList_nil ?_
          obtain rfl := Option.some.inj H
          show R9 _ _
          rw [hR9]
          exact ⟨false, rfl, (hk.c 2 rfl hk.k), (hs.pick [] rfl)⟩
      · have hk := hk.lit 12 c13 rfl
        refine sk hk rfl rfl rfl fun a hk => ?_
        refine sk hk rfl rfl rfl fun a hk => ?_
        refine sk hk rfl rfl rfl fun a hk => ?_
        refine sk hk rfl rfl rfl fun a hk => ?_
        refine sv (.bool false) hk rfl rfl rfl fun a hk => ?_
        refine sm _ rfl hk rfl rfl rfl fun a hk => ?_
        refine sk hk rfl rfl rfl fun a hk => ?_
        refine sk hk rfl rfl rfl fun a hk => ?_
        refine sk hk rfl rfl rfl fun a hk => ?_
        refine sv (.bool false) hk rfl rfl rfl fun a hk => ?_
        refine sa _ rfl hk rfl rfl rfl fun a hk => ?_
        show wpList _ _ _ [] _ _
        refine wpList_nil ?_
        obtain rfl := Option.some.inj H
        show R9 _ _
        rw [hR9]
        exact ⟨false, rfl, (hk.c 2 rfl hk.k), (hs.pick [] rfl)⟩
    · have hk := hk.lit 7 c10 rfl
      refine sk hk rfl rfl rfl fun a hk => ?_
      refine sk hk rfl rfl rfl fun a hk => ?_
      refine sk hk rfl rfl rfl fun a hk => ?_
      refine sv (.bool false) hk rfl rfl rfl fun a hk => ?_
      refine sm _ rfl hk rfl rfl rfl fun a hk => ?_
      refine sk hk rfl rfl rfl fun a hk => ?_
      refine sk hk rfl rfl rfl fun a hk => ?_
      refine sk hk rfl rfl rfl fun a hk => ?_
      refine sk hk rfl rfl rfl fun a hk => ?_
      refine sv (.bool false) hk rfl rfl rfl fun a hk => ?_
      refine sm _ rfl hk rfl rfl rfl fun a hk => ?_
      refine sk hk rfl rfl rfl fun a hk => ?_
      refine sk hk rfl rfl rfl fun a hk => ?_
      refine sk hk rfl rfl rfl fun a hk => ?_
      refine sv (.bool false) hk rfl rfl rfl fun a hk => ?_
      refine sa _ rfl hk rfl rfl rfl fun a hk => ?_
      show wpList _ _ _ [] _ _
      refine wpList_nil ?_
      obtain rfl := Option.some.inj H
      show R9 _ _
      rw [hR9]
      exact ⟨false, rfl, (hk.c 2 rfl hk.k), (hs.pick [] rfl)⟩
  · intro a w hR0
    rw [hR9] at hR0
    obtain ⟨u5, rfl, hk, hs⟩ := hR0
    have H := HL8
    try dsimp only at H
    refine hK3 _ _ ?_
    refine wp_ret ?_
    obtain rfl := Option.some.inj H
    exact fin hk _ [(.bool u5)] rfl ⟨rfl, trivial⟩ ⟨rfl, (hs.pick [] rfl).dnil⟩

noncomputable def impl_isSure.f (x0 : S_Device) : Option (Bool) :=
  ((((impl_DeviceOK.f x0).bind fun y10 => (bif y10 then (some ((x0.Unsure.length : Int) == 0)) else (some false))) : Option (Bool)).bind fun u5 => (some u5))
set_option maxRecDepth 100000 in
set_option maxHeartbeats 0 in
theorem impl_isSure_t (w0 : World) (x0 : S_Device) (A0_0 : Option Addr) (p0_0 : Nat) (k0_0 : Chunk) (v0_0 : View Lay.str A0_0 p0_0 x0.Sure k0_0) (w0_0 : Has w0 k0_0) (A0_1 : Option Addr) (p0_1 : Nat) (k0_1 : Chunk) (v0_1 : View L_Io A0_1 p0_1 x0.Unsure k0_1) (w0_1 : Has w0 k0_1) (r : Bool) (H : impl_isSure.f x0 = some r) :
    Calls Try.prog 51 #[.agg #[.slice A0_0 x0.Sure.length p0_0, .slice A0_1 x0.Unsure.length p0_1]] w0 (Ret (fun v w => v = .bool r ∧ Sat [] w0 w [] [])) := by
  have hs : Sat [] w0 w0 [(1, k0_0), (2, k0_1)] [] := Sat.init w0 [(1, k0_0), (2, k0_1)] [] (by simp only [List.mem_cons, List.not_mem_nil, or_false]; rintro x (rfl | rfl) <;> assumption) (by simp) List.nodup_nil (by simp [blks])
  unfold impl_isSure.f at H
  refine enter Try.func51 rfl Try.ntmps51 rfl fun a hk => ?_
  apply wp_seq_k; intro K1 hK1
  apply wp_region_lit
  refine sbx 3 hs rfl hk rfl rfl rfl rfl fun b2 w a hk hs => ?_
  refine sa _ rfl hk rfl rfl rfl fun a hk => ?_
  show wpList _ _ _ [] _ _
  refine wpList_nil ?_
  refine hK1 _ _ ?_
  apply wp_seq_k; intro K3 hK3
  obtain ⟨o6, h7, HL8⟩ := bind_some H
  clear H
  obtain ⟨R9, hR9⟩ : ∃ R : Act → World → Prop, R = fun a w => ∃ (u5 : Bool), u5 = o6 ∧ Kn [(2, (.bool u5))] 11 a ∧ Sat [] w0 w [(1, k0_0), (2, k0_1)] [] := ⟨_, rfl⟩
  refine wp_cutq R9 ?_ ?_
  · have H := h7
    apply wp_region_lit
    refine sln [.slice A0_0 x0.Sure.length p0_0, .slice A0_1 x0.Unsure.length p0_1] rfl hk rfl rfl rfl ag35 sz35 (box_cells hs (k := 3) rfl) fun a hk => ?_
    obtain ⟨y10, h11, H⟩ := bind_some H
    refine sc rfl en79 hk rfl rfl rfl (impl_DeviceOK_t _ x0 A0_0 p0_0 _ v0_0 (hs.hasD (k := 1) rfl) A0_1 p0_1 _ v0_1 (hs.hasD (k := 2) rfl) _ h11) ?_
    rintro _ w ⟨rfl, hG⟩ a hk
    have hs := hs.call0 hG
    refine sm _ rfl hk rfl rfl rfl fun a hk => ?_
    rcases cond_some H with ⟨c12, H⟩ | ⟨c12, H⟩
    · have hk := hk.lit 5 c12 rfl
      refine sf ⟨b2, 1, none⟩ rfl hk rfl rfl rfl fd35_1 rfl fun a hk => ?_
      refine sl rfl hk rfl rfl rfl ag33 (box_cell hs (k := 3) rfl rfl) fun a hk => ?_
      refine sle rfl hk rfl rfl rfl un33 fun a hk => ?_
      refine sv (.bool ((x0.Unsure.length : Int) == 0)) hk rfl rfl rfl fun a hk => ?_
      refine sv (.bool ((x0.Unsure.length : Int) == 0)) hk rfl rfl rfl fun a hk => ?_
      refine sa _ rfl hk rfl rfl rfl fun a hk => ?_
      show wpList _ _ _ [] _ _
      refine wpList_nil ?_
      obtain rfl := Option.some.inj H
      show R9 _ _
      rw [hR9]
      exact ⟨((x0.Unsure.length : Int) == 0), rfl, (hk.c 2 rfl hk.k), (hs.pick [] rfl)⟩
    · have hk := hk.lit 5 c12 rfl
      refine sk hk rfl rfl rfl fun a hk => ?_
      refine sk hk rfl rfl rfl fun a hk => ?_
      refine sk hk rfl rfl rfl fun a hk => ?_
      refine sk hk rfl rfl rfl fun a hk => ?_
      refine sv (.bool false) hk rfl rfl rfl fun a hk => ?_
      refine sa _ rfl hk rfl rfl rfl fun a hk => ?_
      show wpList _ _ _ [] _ _
      refine wpList_nil ?_
      obtain rfl := Option.some.inj H
      show R9 _ _
      rw [hR9]
      exact ⟨false, rfl, (hk.c 2 rfl hk.k), (hs.pick [] rfl)⟩
  · intro a w hR0
    rw [hR9] at hR0
    obtain ⟨u5, rfl, hk, hs⟩ := hR0
    have H := HL8
    try dsimp only at H
    refine hK3 _ _ ?_
    refine wp_ret ?_
    obtain rfl := Option.some.inj H
    exact fin hk _ [(.bool u5)] rfl ⟨rfl, trivial⟩ ⟨rfl, (hs.pick [] rfl).dnil⟩

noncomputable def impl_StoreOK.f (x0 : S_Store) : Option (Bool) :=
  (((bif ((x0.Key.size : Int) == 32) then ((impl_RegisterOK.f x0.Reg).bind fun y11 => (bif y11 then ((impl_isSure.f x0.Device).bind fun y14 => (bif y14 then (bif x0.Up then (some (!x0.Dead)) else (some true)) else (some false))) else (some false))) else (some false)) : Option (Bool)).bind fun u5 => (some u5))
set_option maxRecDepth 100000 in
set_option maxHeartbeats 0 in
theorem impl_StoreOK_t (w0 : World) (x0 : S_Store) (A0_0 : Option Addr) (p0_0 : Nat) (k0_0 : Chunk) (v0_0 : View Lay.str A0_0 p0_0 x0.Device.Sure k0_0) (w0_0 : Has w0 k0_0) (A0_1 : Option Addr) (p0_1 : Nat) (k0_1 : Chunk) (v0_1 : View L_Io A0_1 p0_1 x0.Device.Unsure k0_1) (w0_1 : Has w0 k0_1) (r : Bool) (H : impl_StoreOK.f x0 = some r) :
    Calls Try.prog 17 #[.agg #[.string x0.Key, .int .i64 x0.Reg.Epoch, .int .i64 x0.Reg.Side, .int .i64 x0.Reg.Count, .int .i64 x0.Reg.Boot, .string x0.Reg.Base, .string x0.Reg.Tip, .string x0.Reg.Root, .slice A0_0 x0.Device.Sure.length p0_0, .slice A0_1 x0.Device.Unsure.length p0_1, .bool x0.Up, .bool x0.Dead]] w0 (Ret (fun v w => v = .bool r ∧ Sat [] w0 w [] [])) := by
  have hs : Sat [] w0 w0 [(1, k0_0), (2, k0_1)] [] := Sat.init w0 [(1, k0_0), (2, k0_1)] [] (by simp only [List.mem_cons, List.not_mem_nil, or_false]; rintro x (rfl | rfl) <;> assumption) (by simp) List.nodup_nil (by simp [blks])
  unfold impl_StoreOK.f at H
  refine enter Try.func17 rfl Try.ntmps17 rfl fun a hk => ?_
  apply wp_seq_k; intro K1 hK1
  apply wp_region_lit
  refine sbx 3 hs rfl hk rfl rfl rfl rfl fun b2 w a hk hs => ?_
  refine sa _ rfl hk rfl rfl rfl fun a hk => ?_
  show wpList _ _ _ [] _ _
  refine wpList_nil ?_
  refine hK1 _ _ ?_
  apply wp_seq_k; intro K3 hK3
  obtain ⟨o6, h7, HL8⟩ := bind_some H
  clear H
  obtain ⟨R9, hR9⟩ : ∃ R : Act → World → Prop, R = fun a w => ∃ (u5 : Bool), u5 = o6 ∧ Kn [(2, (.bool u5))] 26 a ∧ Sat [] w0 w [(1, k0_0), (2, k0_1)] [] := ⟨_, rfl⟩
  refine wp_cutq R9 ?_ ?_
  · have H := h7
    apply wp_region_lit
    refine sf ⟨b2, 0, none⟩ rfl hk rfl rfl rfl fd37_0 rfl fun a hk => ?_
    refine sl rfl hk rfl rfl rfl ag9 (box_cell hs (k := 3) rfl rfl) fun a hk => ?_
    refine sles rfl hk rfl rfl rfl un9 fun a hk => ?_
    refine sv (.bool ((x0.Key.size : Int) == 32)) hk rfl rfl rfl fun a hk => ?_
    refine sm _ rfl hk rfl rfl rfl fun a hk => ?_
    rcases cond_some H with ⟨c10, H⟩ | ⟨c10, H⟩
    · have hk := hk.lit 7 c10 rfl
      refine sf ⟨b2, 1, none⟩ rfl hk rfl rfl rfl fd37_1 rfl fun a hk => ?_
      refine sln [.int .i64 x0.Reg.Epoch, .int .i64 x0.Reg.Side, .int .i64 x0.Reg.Count, .int .i64 x0.Reg.Boot, .string x0.Reg.Base, .string x0.Reg.Tip, .string x0.Reg.Root] rfl hk rfl rfl rfl ag32 sz32 (box_part hs (k := 3) rfl rfl) fun a hk => ?_
      obtain ⟨y11, h12, H⟩ := bind_some H
      refine sc rfl en50 hk rfl rfl rfl (impl_RegisterOK_t _ x0.Reg _ h12) ?_
      rintro _ w ⟨rfl, hG⟩ a hk
      have hs := hs.call0 hG
      refine sv (.bool y11) hk rfl rfl rfl fun a hk => ?_
      refine sm _ rfl hk rfl rfl rfl fun a hk => ?_
      rcases cond_some H with ⟨c13, H⟩ | ⟨c13, H⟩
      · have hk := hk.lit 12 c13 rfl
        refine sf ⟨b2, 8, none⟩ rfl hk rfl rfl rfl fd37_2 rfl fun a hk => ?_
        refine sln [.slice A0_0 x0.Device.Sure.length p0_0, .slice A0_1 x0.Device.Unsure.length p0_1] rfl hk rfl rfl rfl ag35 sz35 (box_part hs (k := 3) rfl rfl) fun a hk => ?_
        obtain ⟨y14, h15, H⟩ := bind_some H
        refine sc rfl en51 hk rfl rfl rfl (impl_isSure_t _ x0.Device A0_0 p0_0 _ v0_0 (hs.hasD (k := 1) rfl) A0_1 p0_1 _ v0_1 (hs.hasD (k := 2) rfl) _ h15) ?_
        rintro _ w ⟨rfl, hG⟩ a hk
        have hs := hs.call0 hG
        refine sv (.bool y14) hk rfl rfl rfl fun a hk => ?_
        refine sm _ rfl hk rfl rfl rfl fun a hk => ?_
        rcases cond_some H with ⟨c16, H⟩ | ⟨c16, H⟩
        · have hk := hk.lit 17 c16 rfl
          refine sf ⟨b2, 10, none⟩ rfl hk rfl rfl rfl fd37_3 rfl fun a hk => ?_
          refine sl rfl hk rfl rfl rfl ag4 (box_cell hs (k := 3) rfl rfl) fun a hk => ?_
          refine sm _ rfl hk rfl rfl rfl fun a hk => ?_
          rcases cond_some H with ⟨c17, H⟩ | ⟨c17, H⟩
          · have hk := hk.lit 20 c17 rfl
            refine sf ⟨b2, 11, none⟩ rfl hk rfl rfl rfl fd37_4 rfl fun a hk => ?_
            refine sl rfl hk rfl rfl rfl ag4 (box_cell hs (k := 3) rfl rfl) fun a hk => ?_
            refine sv (.bool x0.Dead) hk rfl rfl rfl fun a hk => ?_
            refine sv (.bool (!x0.Dead)) hk rfl rfl rfl fun a hk => ?_
            refine sv (.bool (!x0.Dead)) hk rfl rfl rfl fun a hk => ?_
            refine sa _ rfl hk rfl rfl rfl fun a hk => ?_
            show wpList _ _ _ [] _ _
            refine wpList_nil ?_
            obtain rfl := Option.some.inj H
            show R9 _ _
            rw [hR9]
            exact ⟨(!x0.Dead), rfl, (hk.c 2 rfl hk.k), (hs.pick [] rfl)⟩
          · have hk := hk.lit 20 c17 rfl
            refine sk hk rfl rfl rfl fun a hk => ?_
            refine sk hk rfl rfl rfl fun a hk => ?_
            refine sv (.bool false) hk rfl rfl rfl fun a hk => ?_
            refine sv (.bool true) hk rfl rfl rfl fun a hk => ?_
            refine sv (.bool true) hk rfl rfl rfl fun a hk => ?_
            refine sa _ rfl hk rfl rfl rfl fun a hk => ?_
            show wpList _ _ _ [] _ _
            refine wpList_nil ?_
            obtain rfl := Option.some.inj H
            show R9 _ _
            rw [hR9]
            exact ⟨true, rfl, (hk.c 2 rfl hk.k), (hs.pick [] rfl)⟩
        · have hk := hk.lit 17 c16 rfl
          refine sk hk rfl rfl rfl fun a hk => ?_
          refine sk hk rfl rfl rfl fun a hk => ?_
          refine sk hk rfl rfl rfl fun a hk => ?_
          refine sk hk rfl rfl rfl fun a hk => ?_
          refine sk hk rfl rfl rfl fun a hk => ?_
          refine sk hk rfl rfl rfl fun a hk => ?_
          refine sk hk rfl rfl rfl fun a hk => ?_
          refine sv (.bool false) hk rfl rfl rfl fun a hk => ?_
          refine sa _ rfl hk rfl rfl rfl fun a hk => ?_
          show wpList _ _ _ [] _ _
          refine wpList_nil ?_
          obtain rfl := Option.some.inj H
          show R9 _ _
          rw [hR9]
          exact ⟨false, rfl, (hk.c 2 rfl hk.k), (hs.pick [] rfl)⟩
      · have hk := hk.lit 12 c13 rfl
        refine sk hk rfl rfl rfl fun a hk => ?_
        refine sk hk rfl rfl rfl fun a hk => ?_
        refine sk hk rfl rfl rfl fun a hk => ?_
        refine sv (.bool false) hk rfl rfl rfl fun a hk => ?_
        refine sm _ rfl hk rfl rfl rfl fun a hk => ?_
        refine sk hk rfl rfl rfl fun a hk => ?_
        refine sk hk rfl rfl rfl fun a hk => ?_
        refine sk hk rfl rfl rfl fun a hk => ?_
        refine sk hk rfl rfl rfl fun a hk => ?_
        refine sk hk rfl rfl rfl fun a hk => ?_
        refine sk hk rfl rfl rfl fun a hk => ?_
        refine sk hk rfl rfl rfl fun a hk => ?_
        refine sv (.bool false) hk rfl rfl rfl fun a hk => ?_
        refine sa _ rfl hk rfl rfl rfl fun a hk => ?_
        show wpList _ _ _ [] _ _
        refine wpList_nil ?_
        obtain rfl := Option.some.inj H
        show R9 _ _
        rw [hR9]
        exact ⟨false, rfl, (hk.c 2 rfl hk.k), (hs.pick [] rfl)⟩
    · have hk := hk.lit 7 c10 rfl
      refine sk hk rfl rfl rfl fun a hk => ?_
      refine sk hk rfl rfl rfl fun a hk => ?_
      refine sk hk rfl rfl rfl fun a hk => ?_
      refine sv (.bool false) hk rfl rfl rfl fun a hk => ?_
      refine sm _ rfl hk rfl rfl rfl fun a hk => ?_
      refine sk hk rfl rfl rfl fun a hk => ?_
      refine sk hk rfl rfl rfl fun a hk => ?_
      refine sk hk rfl rfl rfl fun a hk => ?_
      refine sv (.bool false) hk rfl rfl rfl fun a hk => ?_
      refine sm _ rfl hk rfl rfl rfl fun a hk => ?_
      refine sk hk rfl rfl rfl fun a hk => ?_
      refine sk hk rfl rfl rfl fun a hk => ?_
      refine sk hk rfl rfl rfl fun a hk => ?_
      refine sk hk rfl rfl rfl fun a hk => ?_
      refine sk hk rfl rfl rfl fun a hk => ?_
      refine sk hk rfl rfl rfl fun a hk => ?_
      refine sk hk rfl rfl rfl fun a hk => ?_
      refine sv (.bool false) hk rfl rfl rfl fun a hk => ?_
      refine sa _ rfl hk rfl rfl rfl fun a hk => ?_
      show wpList _ _ _ [] _ _
      refine wpList_nil ?_
      obtain rfl := Option.some.inj H
      show R9 _ _
      rw [hR9]
      exact ⟨false, rfl, (hk.c 2 rfl hk.k), (hs.pick [] rfl)⟩
  · intro a w hR0
    rw [hR9] at hR0
    obtain ⟨u5, rfl, hk, hs⟩ := hR0
    have H := HL8
    try dsimp only at H
    refine hK3 _ _ ?_
    refine wp_ret ?_
    obtain rfl := Option.some.inj H
    exact fin hk _ [(.bool u5)] rfl ⟨rfl, trivial⟩ ⟨rfl, (hs.pick [] rfl).dnil⟩

noncomputable def laws_FnExactStoreOK.f (x0 : S_Store) : Option (Bool) :=
  ((laws_szStore.f x0 1048576).bind fun y5 => (bif (decide (y5 < 0)) then (some true) else ((laws_toStore.f x0).bind fun y12 => ((spec_StoreOK.f y12).bind fun y22 => ((laws_toStore.f x0).bind fun y25 => ((impl_StoreOK.f y25).bind fun y37 => (bif (!(y37 == y22)) then (some false) else ((laws_toStore.f x0).bind fun y46 => ((laws_eqStore.f y25 y46).bind fun y57 => (bif (!y57) then (some false) else (some true)))))))))))
set_option maxRecDepth 100000 in
set_option maxHeartbeats 0 in
theorem laws_FnExactStoreOK_t (w0 : World) (x0 : S_Store) (A0_0 : Option Addr) (p0_0 : Nat) (k0_0 : Chunk) (v0_0 : View Lay.str A0_0 p0_0 x0.Device.Sure k0_0) (w0_0 : Has w0 k0_0) (A0_1 : Option Addr) (p0_1 : Nat) (k0_1 : Chunk) (v0_1 : View L_Io A0_1 p0_1 x0.Device.Unsure k0_1) (w0_1 : Has w0 k0_1) (r : Bool) (H : laws_FnExactStoreOK.f x0 = some r) :
    Calls Try.prog 4 #[.agg #[.string x0.Key, .int .i64 x0.Reg.Epoch, .int .i64 x0.Reg.Side, .int .i64 x0.Reg.Count, .int .i64 x0.Reg.Boot, .string x0.Reg.Base, .string x0.Reg.Tip, .string x0.Reg.Root, .slice A0_0 x0.Device.Sure.length p0_0, .slice A0_1 x0.Device.Unsure.length p0_1, .bool x0.Up, .bool x0.Dead]] w0 (Ret (fun v w => v = .bool r ∧ Sat [] w0 w [] [])) := by
  have hs : Sat [] w0 w0 [(1, k0_0), (2, k0_1)] [] := Sat.init w0 [(1, k0_0), (2, k0_1)] [] (by simp only [List.mem_cons, List.not_mem_nil, or_false]; rintro x (rfl | rfl) <;> assumption) (by simp) List.nodup_nil (by simp [blks])
  unfold laws_FnExactStoreOK.f at H
  refine enter Try.func4 rfl Try.ntmps4 rfl fun a hk => ?_
  apply wp_seq_k; intro K1 hK1
  apply wp_region_lit
  refine sbx 3 hs rfl hk rfl rfl rfl rfl fun b2 w a hk hs => ?_
  refine sa _ rfl hk rfl rfl rfl fun a hk => ?_
  show wpList _ _ _ [] _ _
  refine wpList_nil ?_
  refine hK1 _ _ ?_
  apply wp_seq_k; intro K3 hK3
  apply wp_region_lit
  refine sa _ rfl hk rfl rfl rfl fun a hk => ?_
  show wpList _ _ _ [] _ _
  refine wpList_nil ?_
  refine hK3 _ _ ?_
  apply wp_seq_k; intro K4 hK4
  apply wp_region_lit
  refine sln [.string x0.Key, .int .i64 x0.Reg.Epoch, .int .i64 x0.Reg.Side, .int .i64 x0.Reg.Count, .int .i64 x0.Reg.Boot, .string x0.Reg.Base, .string x0.Reg.Tip, .string x0.Reg.Root, .slice A0_0 x0.Device.Sure.length p0_0, .slice A0_1 x0.Device.Unsure.length p0_1, .bool x0.Up, .bool x0.Dead] rfl hk rfl rfl rfl ag29 sz29 (box_cells hs (k := 3) rfl) fun a hk => ?_
  refine sm _ rfl hk rfl rfl rfl fun a hk => ?_
  obtain ⟨y5, h6, H⟩ := bind_some H
  refine sc rfl en11 hk rfl rfl rfl (laws_szStore_t _ x0 A0_0 p0_0 _ v0_0 (hs.hasD (k := 1) rfl) A0_1 p0_1 _ v0_1 (hs.hasD (k := 2) rfl) 1048576 _ h6) ?_
  rintro _ w ⟨rfl, hG⟩ a hk
  have hs := hs.call0 hG
  refine sa _ rfl hk rfl rfl rfl fun a hk => ?_
  show wpList _ _ _ [] _ _
  refine wpList_nil ?_
  refine hK4 _ _ ?_
  apply wp_seq_k; intro K7 hK7
  apply wp_seq_k; intro K8 hK8
  apply wp_region_lit
  refine sm _ rfl hk rfl rfl rfl fun a hk => ?_
  refine sv (.bool (decide (y5 < 0))) hk rfl rfl rfl fun a hk => ?_
  show wpList _ _ _ [] _ _
  refine wpList_nil ?_
  refine hK8 _ _ ?_
  rcases cond_some H with ⟨c9, H⟩ | ⟨c9, H⟩
  · have hk := hk.lit 11 c9 rfl
    refine cnd_true hk rfl rfl ?_
    apply wp_seq_k; intro K10 hK10
    apply wp_region_lit
    refine sa _ rfl hk rfl rfl rfl fun a hk => ?_
    show wpList _ _ _ [] _ _
    refine wpList_nil ?_
    refine hK10 _ _ ?_
    refine wp_ret ?_
    obtain rfl := Option.some.inj H
    exact fin hk _ [(.bool true)] rfl ⟨rfl, trivial⟩ ⟨rfl, (hs.pick [] rfl).dnil⟩
  · have hk := hk.lit 11 c9 rfl
    refine cnd_false hk rfl rfl ?_
    refine wp_skip ?_
    refine hK7 _ _ ?_
    apply wp_seq_k; intro K11 hK11
    apply wp_region_lit
    refine sln [.string x0.Key, .int .i64 x0.Reg.Epoch, .int .i64 x0.Reg.Side, .int .i64 x0.Reg.Count, .int .i64 x0.Reg.Boot, .string x0.Reg.Base, .string x0.Reg.Tip, .string x0.Reg.Root, .slice A0_0 x0.Device.Sure.length p0_0, .slice A0_1 x0.Device.Unsure.length p0_1, .bool x0.Up, .bool x0.Dead] rfl hk rfl rfl rfl ag29 sz29 (box_cells hs (k := 3) rfl) fun a hk => ?_
    obtain ⟨y12, h13, H⟩ := bind_some H
    refine sc rfl en13 hk rfl rfl rfl (laws_toStore_t _ x0 A0_0 p0_0 _ v0_0 (hs.hasD (k := 1) rfl) A0_1 p0_1 _ v0_1 (hs.hasD (k := 2) rfl) _ h13) ?_
    rintro _ w ⟨A14, p15, k16, A18, p19, k20, rfl, o17, o21, hG⟩ a hk
    have hs := hs.call0k hG [4, 5] rfl
    obtain ⟨y22, h23, H⟩ := bind_some H
    refine sc rfl en16 hk rfl rfl rfl (spec_StoreOK_t _ y12 A14 p15 _ o17.view (hs.hasG (k := 4) rfl) A18 p19 _ o21.view (hs.hasG (k := 5) rfl) _ h23) ?_
    rintro _ w ⟨rfl, hG⟩ a hk
    have hs := hs.call0 hG
    refine sa _ rfl hk rfl rfl rfl fun a hk => ?_
    show wpList _ _ _ [] _ _
    refine wpList_nil ?_
    refine hK11 _ _ ?_
    apply wp_seq_k; intro K24 hK24
    apply wp_region_lit
    refine sln [.string x0.Key, .int .i64 x0.Reg.Epoch, .int .i64 x0.Reg.Side, .int .i64 x0.Reg.Count, .int .i64 x0.Reg.Boot, .string x0.Reg.Base, .string x0.Reg.Tip, .string x0.Reg.Root, .slice A0_0 x0.Device.Sure.length p0_0, .slice A0_1 x0.Device.Unsure.length p0_1, .bool x0.Up, .bool x0.Dead] rfl hk rfl rfl rfl ag29 sz29 (box_cells hs (k := 3) rfl) fun a hk => ?_
    obtain ⟨y25, h26, H⟩ := bind_some H
    refine sc rfl en13 hk rfl rfl rfl (laws_toStore_t _ x0 A0_0 p0_0 _ v0_0 (hs.hasD (k := 1) rfl) A0_1 p0_1 _ v0_1 (hs.hasD (k := 2) rfl) _ h26) ?_
    rintro _ w ⟨A27, p28, k29, A31, p32, k33, rfl, o30, o34, hG⟩ a hk
    have hs := hs.call0k hG [6, 7] rfl
    refine salx 8 hs rfl hk rfl rfl ze37 rfl fun b35 w a hk hs => ?_
    refine ssw 8 hs rfl rfl hk rfl rfl rfl rfl sz37 (by simp [Value.oneCell']) rfl fun w a hk hs => ?_
    show wpList _ _ _ [] _ _
    refine wpList_nil ?_
    refine hK24 _ _ ?_
    apply wp_seq_k; intro K36 hK36
    apply wp_region_lit
    refine sln [.string y25.Key, .int .i64 y25.Reg.Epoch, .int .i64 y25.Reg.Side, .int .i64 y25.Reg.Count, .int .i64 y25.Reg.Boot, .string y25.Reg.Base, .string y25.Reg.Tip, .string y25.Reg.Root, .slice A27 y25.Device.Sure.length p28, .slice A31 y25.Device.Unsure.length p32, .bool y25.Up, .bool y25.Dead] rfl hk rfl rfl rfl ag37 sz37 (box_cells hs (k := 8) rfl) fun a hk => ?_
    obtain ⟨y37, h38, H⟩ := bind_some H
    refine sc rfl en17 hk rfl rfl rfl (impl_StoreOK_t _ y25 A27 p28 _ o30.view (hs.hasG (k := 6) rfl) A31 p32 _ o34.view (hs.hasG (k := 7) rfl) _ h38) ?_
    rintro _ w ⟨rfl, hG⟩ a hk
    have hs := hs.call0 hG
    refine sa _ rfl hk rfl rfl rfl fun a hk => ?_
    show wpList _ _ _ [] _ _
    refine wpList_nil ?_
    refine hK36 _ _ ?_
    apply wp_seq_k; intro K39 hK39
    apply wp_seq_k; intro K40 hK40
    apply wp_region_lit
    refine sm _ rfl hk rfl rfl rfl fun a hk => ?_
    refine sm _ rfl hk rfl rfl rfl fun a hk => ?_
    refine sbn rfl hk rfl rfl rfl rfl un4 fun a hk => ?_
    show wpList _ _ _ [] _ _
    refine wpList_nil ?_
    refine hK40 _ _ ?_
    rcases cond_some H with ⟨c41, H⟩ | ⟨c41, H⟩
    · have hk := hk.lit 21 c41 rfl
      refine cnd_true hk rfl rfl ?_
      apply wp_seq_k; intro K42 hK42
      apply wp_region_lit
      refine sa _ rfl hk rfl rfl rfl fun a hk => ?_
      show wpList _ _ _ [] _ _
      refine wpList_nil ?_
      refine hK42 _ _ ?_
      refine wp_ret ?_
      obtain rfl := Option.some.inj H
      exact fin hk _ [(.bool false)] rfl ⟨rfl, trivial⟩ ⟨rfl, (hs.pick [] rfl).dnil⟩
    · have hk := hk.lit 21 c41 rfl
      refine cnd_false hk rfl rfl ?_
      refine wp_skip ?_
      refine hK39 _ _ ?_
      apply wp_seq_k; intro K43 hK43
      apply wp_seq_k; intro K44 hK44
      refine wp_region_mix [(0, true), (1, true), (2, false), (3, false), (4, false)] mo (by kernel_rfl) (hs.pick [(8, 8), (7, 7), (6, 6), (5, 5), (4, 4), (3, 3)] rfl) fun _ => ?_
      have hs := hs.drew
      refine qst (.agg #[.string y25.Key, .int .i64 y25.Reg.Epoch, .int .i64 y25.Reg.Side, .int .i64 y25.Reg.Count, .int .i64 y25.Reg.Boot, .string y25.Reg.Base, .string y25.Reg.Tip, .string y25.Reg.Root, .slice A27 y25.Device.Sure.length p28, .slice A31 y25.Device.Unsure.length p32, .bool y25.Up, .bool y25.Dead]) hk rfl rfl rfl rfl (fun w hs => sln [.string y25.Key, .int .i64 y25.Reg.Epoch, .int .i64 y25.Reg.Side, .int .i64 y25.Reg.Count, .int .i64 y25.Reg.Boot, .string y25.Reg.Base, .string y25.Reg.Tip, .string y25.Reg.Root, .slice A27 y25.Device.Sure.length p28, .slice A31 y25.Device.Unsure.length p32, .bool y25.Up, .bool y25.Dead] rfl hk rfl rfl rfl ag37 sz37 (box_cells hs (k := 8) rfl) fun a hk => qe hk) fun a hk => ?_
      refine qst (.agg #[.string x0.Key, .int .i64 x0.Reg.Epoch, .int .i64 x0.Reg.Side, .int .i64 x0.Reg.Count, .int .i64 x0.Reg.Boot, .string x0.Reg.Base, .string x0.Reg.Tip, .string x0.Reg.Root, .slice A0_0 x0.Device.Sure.length p0_0, .slice A0_1 x0.Device.Unsure.length p0_1, .bool x0.Up, .bool x0.Dead]) hk rfl rfl rfl rfl (fun w hs => sln [.string x0.Key, .int .i64 x0.Reg.Epoch, .int .i64 x0.Reg.Side, .int .i64 x0.Reg.Count, .int .i64 x0.Reg.Boot, .string x0.Reg.Base, .string x0.Reg.Tip, .string x0.Reg.Root, .slice A0_0 x0.Device.Sure.length p0_0, .slice A0_1 x0.Device.Unsure.length p0_1, .bool x0.Up, .bool x0.Dead] rfl hk rfl rfl rfl ag29 sz29 (box_cells hs (k := 3) rfl) fun a hk => qe hk) fun a hk => ?_
      refine sst hk rfl rfl fun K45 hK45 w hF => ?_
      have hs := hs.f hF
      obtain ⟨y46, h47, H⟩ := bind_some H
      refine sc rfl en13 hk rfl rfl rfl (laws_toStore_t _ x0 A0_0 p0_0 _ v0_0 (hs.hasD (k := 1) rfl) A0_1 p0_1 _ v0_1 (hs.hasD (k := 2) rfl) _ h47) ?_
      rintro _ w ⟨A48, p49, k50, A52, p53, k54, rfl, o51, o55, hG⟩ a hk
      have hs := hs.call0k hG [9, 10] rfl
      refine se (hs.pick [(8, 8), (7, 7), (6, 6), (5, 5), (4, 4), (3, 3)] rfl) hk (hK45 _ _ ?_)
      refine sst hk rfl rfl fun K56 hK56 w hF => ?_
      have hs := hs.f hF
      obtain ⟨y57, h58, H⟩ := bind_some H
      refine sc rfl en15 hk rfl rfl rfl (laws_eqStore_t _ y25 A27 p28 _ o30.view (hs.hasG (k := 6) rfl) A31 p32 _ o34.view (hs.hasG (k := 7) rfl) y46 A48 p49 _ o51.view (hs.hasG (k := 9) rfl) A52 p53 _ o55.view (hs.hasG (k := 10) rfl) _ h58) ?_
      rintro _ w ⟨rfl, hG⟩ a hk
      have hs := hs.call0 hG
      refine se (hs.pick [(8, 8), (7, 7), (6, 6), (5, 5), (4, 4), (3, 3)] rfl) hk (hK56 _ _ ?_)
      refine sst hk rfl rfl fun K59 hK59 w hF => ?_
      have hs := hs.f hF
      refine sv (.bool (!y57)) hk rfl rfl rfl fun a hk => ?_
      refine se (hs.pick [(8, 8), (7, 7), (6, 6), (5, 5), (4, 4), (3, 3)] rfl) hk (hK59 _ _ ?_)
      refine wml_nil fun w hF _ => ?_
      have hs := hs.f hF
      refine hK44 _ _ ?_
      rcases cond_some H with ⟨c60, H⟩ | ⟨c60, H⟩
      · have hk := hk.lit 26 c60 rfl
        refine cnd_true hk rfl rfl ?_
        apply wp_seq_k; intro K61 hK61
        apply wp_region_lit
        refine sa _ rfl hk rfl rfl rfl fun a hk => ?_
        show wpList _ _ _ [] _ _
        refine wpList_nil ?_
        refine hK61 _ _ ?_
        refine wp_ret ?_
        obtain rfl := Option.some.inj H
        exact fin hk _ [(.bool false)] rfl ⟨rfl, trivial⟩ ⟨rfl, (hs.pick [] rfl).dnil⟩
      · have hk := hk.lit 26 c60 rfl
        refine cnd_false hk rfl rfl ?_
        refine wp_skip ?_
        refine hK43 _ _ ?_
        apply wp_seq_k; intro K62 hK62
        apply wp_region_lit
        refine sa _ rfl hk rfl rfl rfl fun a hk => ?_
        show wpList _ _ _ [] _ _
        refine wpList_nil ?_
        refine hK62 _ _ ?_
        refine wp_ret ?_
        obtain rfl := Option.some.inj H
        exact fin hk _ [(.bool true)] rfl ⟨rfl, trivial⟩ ⟨rfl, (hs.pick [] rfl).dnil⟩

end Go.Proofs.Ytmafglodgnbajaa
