/- The functions that FnExactStoreOK reaches: for each a model and the walk that shows that the Go code comes to it. -/
import Derived.Test.YtmafglodgnbajaaGXSameStore
namespace Go.Proofs.Ytmafglodgnbajaa
open Go Go.Z Go.Proofs Go.MuLone Go.ChangeShapes Go.WideShapes Go.ChangeAt Go.RowKit
set_option linter.unusedVariables false
set_option linter.unusedSimpArgs false
noncomputable def spec_l01In.f (x0 : Int) (x1 : Int) (x2 : Int) : Option (Bool) :=
  (((bif (decide (x1 ≤ x0)) then (some (decide (x0 ≤ x2))) else (some false)) : Option (Bool)).bind fun u3 => (some u3))
set_option maxRecDepth 100000 in
set_option maxHeartbeats 0 in
theorem spec_l01In_t (w0 : World) (x0 : Int) (x1 : Int) (x2 : Int) (r : Bool) (H : spec_l01In.f x0 x1 x2 = some r) :
    Calls Try.prog 53 #[.int .i64 x0, .int .i64 x1, .int .i64 x2] w0 (Ret (fun v w => v = .bool r ∧ Sat [] w0 w [] [])) := by
  have hs : Sat [] w0 w0 [] [] := Sat.init w0 [] [] (by simp) (by simp) List.nodup_nil (by simp [blks])
  unfold spec_l01In.f at H
  refine enter Try.func53 rfl Try.ntmps53 rfl fun a hk => ?_
  apply wp_seq_k; intro K1 hK1
  apply wp_region_lit
  refine sa _ rfl hk rfl rfl rfl fun a hk => ?_
  show wpList _ _ _ [] _ _
  refine wpList_nil ?_
  refine hK1 _ _ ?_
  apply wp_seq_k; intro K2 hK2
  obtain ⟨o4, h5, HL6⟩ := bind_some H
  clear H
  obtain ⟨R7, hR7⟩ : ∃ R : Act → World → Prop, R = fun a w => ∃ (u3 : Bool), u3 = o4 ∧ Kn [(6, (.bool u3))] 15 a ∧ Sat [] w0 w [] [] := ⟨_, rfl⟩
  refine wp_cutq R7 ?_ ?_
  · have H := h5
    apply wp_region_lit
    refine sm _ rfl hk rfl rfl rfl fun a hk => ?_
    refine sm _ rfl hk rfl rfl rfl fun a hk => ?_
    refine sv (.bool (decide (x1 ≤ x0))) hk rfl rfl rfl fun a hk => ?_
    refine sm _ rfl hk rfl rfl rfl fun a hk => ?_
    rcases cond_some H with ⟨c8, H⟩ | ⟨c8, H⟩
    · have hk := hk.lit 10 c8 rfl
      refine sm _ rfl hk rfl rfl rfl fun a hk => ?_
      refine sm _ rfl hk rfl rfl rfl fun a hk => ?_
      refine sv (.bool (decide (x0 ≤ x2))) hk rfl rfl rfl fun a hk => ?_
      refine sv (.bool (decide (x0 ≤ x2))) hk rfl rfl rfl fun a hk => ?_
      refine sa _ rfl hk rfl rfl rfl fun a hk => ?_
      show wpList _ _ _ [] _ _
      refine wpList_nil ?_
      obtain rfl := Option.some.inj H
      show R7 _ _
      rw [hR7]
      exact ⟨(decide (x0 ≤ x2)), rfl, (hk.c 6 rfl hk.k), (hs.pick [] rfl)⟩
    · have hk := hk.lit 10 c8 rfl
      refine sk hk rfl rfl rfl fun a hk => ?_
      refine sk hk rfl rfl rfl fun a hk => ?_
      refine sk hk rfl rfl rfl fun a hk => ?_
      refine sv (.bool false) hk rfl rfl rfl fun a hk => ?_
      refine sa _ rfl hk rfl rfl rfl fun a hk => ?_
      show wpList _ _ _ [] _ _
      refine wpList_nil ?_
      obtain rfl := Option.some.inj H
      show R7 _ _
      rw [hR7]
      exact ⟨false, rfl, (hk.c 6 rfl hk.k), (hs.pick [] rfl)⟩
  · intro a w hR0
    rw [hR7] at hR0
    obtain ⟨u3, rfl, hk, hs⟩ := hR0
    have H := HL6
    try dsimp only at H
    refine hK2 _ _ ?_
    refine wp_ret ?_
    obtain rfl := Option.some.inj H
    exact fin hk _ [(.bool u3)] rfl ⟨rfl, trivial⟩ ⟨rfl, (hs.pick [] rfl).dnil⟩

noncomputable def spec_RegisterOK.f (x0 : S_Register) : Option (Bool) :=
  ((((spec_l01In.f x0.Epoch 0 1000000).bind fun y9 => (bif y9 then ((spec_l01In.f x0.Side 0 1).bind fun y12 => (bif y12 then ((spec_l01In.f x0.Boot 0 1000000).bind fun y15 => (bif y15 then ((spec_l01In.f x0.Count x0.Epoch (if 1000000 < (w64 (x0.Epoch + 4)) then 1000000 else (w64 (x0.Epoch + 4)))).bind fun y18 => (bif y18 then (bif ((x0.Base.size : Int) == 32) then (bif ((x0.Tip.size : Int) == 32) then (bif ((x0.Root.size : Int) == 32) then (bif (decide (x0.Count > x0.Epoch)) then (some true) else (some (x0.Base.toList == x0.Tip.toList))) else (some false)) else (some false)) else (some false)) else (some false))) else (some false))) else (some false))) else (some false))) : Option (Bool)).bind fun u4 => (some u4))
set_option maxRecDepth 100000 in
set_option maxHeartbeats 0 in
theorem spec_RegisterOK_t (w0 : World) (x0 : S_Register) (r : Bool) (H : spec_RegisterOK.f x0 = some r) :
    Calls Try.prog 48 #[.agg #[.int .i64 x0.Epoch, .int .i64 x0.Side, .int .i64 x0.Count, .int .i64 x0.Boot, .string x0.Base, .string x0.Tip, .string x0.Root]] w0 (Ret (fun v w => v = .bool r ∧ Sat [] w0 w [] [])) := by
  have hs : Sat [] w0 w0 [] [] := Sat.init w0 [] [] (by simp) (by simp) List.nodup_nil (by simp [blks])
  unfold spec_RegisterOK.f at H
  refine enter Try.func48 rfl Try.ntmps48 rfl fun a hk => ?_
  apply wp_seq_k; intro K1 hK1
  apply wp_region_lit
  refine sbx 1 hs rfl hk rfl rfl rfl rfl fun b2 w a hk hs => ?_
  refine sa _ rfl hk rfl rfl rfl fun a hk => ?_
  show wpList _ _ _ [] _ _
  refine wpList_nil ?_
  refine hK1 _ _ ?_
  apply wp_seq_k; intro K3 hK3
  obtain ⟨o5, h6, HL7⟩ := bind_some H
  clear H
  obtain ⟨R8, hR8⟩ : ∃ R : Act → World → Prop, R = fun a w => ∃ (u4 : Bool), u4 = o5 ∧ Kn [(2, (.bool u4))] 59 a ∧ Sat [] w0 w [] [] := ⟨_, rfl⟩
  refine wp_cutq R8 ?_ ?_
  · have H := h6
    apply wp_region_lit
    refine sf ⟨b2, 0, none⟩ rfl hk rfl rfl rfl fd32_0 rfl fun a hk => ?_
    refine sl rfl hk rfl rfl rfl ag3 (box_cell hs (k := 1) rfl rfl) fun a hk => ?_
    obtain ⟨y9, h10, H⟩ := bind_some H
    refine sc rfl en53 hk rfl rfl rfl (spec_l01In_t _ x0.Epoch 0 1000000 _ h10) ?_
    rintro _ w ⟨rfl, hG⟩ a hk
    have hs := hs.call0 hG
    refine sm _ rfl hk rfl rfl rfl fun a hk => ?_
    rcases cond_some H with ⟨c11, H⟩ | ⟨c11, H⟩
    · have hk := hk.lit 6 c11 rfl
      refine sf ⟨b2, 1, none⟩ rfl hk rfl rfl rfl fd32_1 rfl fun a hk => ?_
      refine sl rfl hk rfl rfl rfl ag3 (box_cell hs (k := 1) rfl rfl) fun a hk => ?_
      obtain ⟨y12, h13, H⟩ := bind_some H
      refine sc rfl en53 hk rfl rfl rfl (spec_l01In_t _ x0.Side 0 1 _ h13) ?_
      rintro _ w ⟨rfl, hG⟩ a hk
      have hs := hs.call0 hG
      refine sv (.bool y12) hk rfl rfl rfl fun a hk => ?_
      refine sm _ rfl hk rfl rfl rfl fun a hk => ?_
      rcases cond_some H with ⟨c14, H⟩ | ⟨c14, H⟩
      · have hk := hk.lit 11 c14 rfl
        refine sf ⟨b2, 3, none⟩ rfl hk rfl rfl rfl fd32_3 rfl fun a hk => ?_
        refine sl rfl hk rfl rfl rfl ag3 (box_cell hs (k := 1) rfl rfl) fun a hk => ?_
        obtain ⟨y15, h16, H⟩ := bind_some H
        refine sc rfl en53 hk rfl rfl rfl (spec_l01In_t _ x0.Boot 0 1000000 _ h16) ?_
        rintro _ w ⟨rfl, hG⟩ a hk
        have hs := hs.call0 hG
        refine sv (.bool y15) hk rfl rfl rfl fun a hk => ?_
        refine sm _ rfl hk rfl rfl rfl fun a hk => ?_
        rcases cond_some H with ⟨c17, H⟩ | ⟨c17, H⟩
        · have hk := hk.lit 16 c17 rfl
          refine sf ⟨b2, 2, none⟩ rfl hk rfl rfl rfl fd32_2 rfl fun a hk => ?_
          refine sl rfl hk rfl rfl rfl ag3 (box_cell hs (k := 1) rfl rfl) fun a hk => ?_
          refine sf ⟨b2, 0, none⟩ rfl hk rfl rfl rfl fd32_0 rfl fun a hk => ?_
          refine sl rfl hk rfl rfl rfl ag3 (box_cell hs (k := 1) rfl rfl) fun a hk => ?_
          refine sf ⟨b2, 0, none⟩ rfl hk rfl rfl rfl fd32_0 rfl fun a hk => ?_
          refine sl rfl hk rfl rfl rfl ag3 (box_cell hs (k := 1) rfl rfl) fun a hk => ?_
          refine sv (.int .i64 (w64 (x0.Epoch + 4))) hk rfl rfl rfl fun a hk => ?_
          refine smn rfl hk rfl rfl rfl rfl fun a hk => ?_
          obtain ⟨y18, h19, H⟩ := bind_some H
          refine sc rfl en53 hk rfl rfl rfl (spec_l01In_t _ x0.Count x0.Epoch (if 1000000 < (w64 (x0.Epoch + 4)) then 1000000 else (w64 (x0.Epoch + 4))) _ h19) ?_
          rintro _ w ⟨rfl, hG⟩ a hk
          have hs := hs.call0 hG
          refine sv (.bool y18) hk rfl rfl rfl fun a hk => ?_
          refine sm _ rfl hk rfl rfl rfl fun a hk => ?_
          rcases cond_some H with ⟨c20, H⟩ | ⟨c20, H⟩
          · have hk := hk.lit 27 c20 rfl
            refine sf ⟨b2, 4, none⟩ rfl hk rfl rfl rfl fd32_4 rfl fun a hk => ?_
            refine sl rfl hk rfl rfl rfl ag9 (box_cell hs (k := 1) rfl rfl) fun a hk => ?_
            refine sles rfl hk rfl rfl rfl un9 fun a hk => ?_
            refine sv (.bool ((x0.Base.size : Int) == 32)) hk rfl rfl rfl fun a hk => ?_
            refine sv (.bool ((x0.Base.size : Int) == 32)) hk rfl rfl rfl fun a hk => ?_
            refine sm _ rfl hk rfl rfl rfl fun a hk => ?_
            rcases cond_some H with ⟨c21, H⟩ | ⟨c21, H⟩
            · have hk := hk.lit 33 c21 rfl
              refine sf ⟨b2, 5, none⟩ rfl hk rfl rfl rfl fd32_5 rfl fun a hk => ?_
              refine sl rfl hk rfl rfl rfl ag9 (box_cell hs (k := 1) rfl rfl) fun a hk => ?_
              refine sles rfl hk rfl rfl rfl un9 fun a hk => ?_
              refine sv (.bool ((x0.Tip.size : Int) == 32)) hk rfl rfl rfl fun a hk => ?_
              refine sv (.bool ((x0.Tip.size : Int) == 32)) hk rfl rfl rfl fun a hk => ?_
              refine sm _ rfl hk rfl rfl rfl fun a hk => ?_
              rcases cond_some H with ⟨c22, H⟩ | ⟨c22, H⟩
              · have hk := hk.lit 39 c22 rfl
                refine sf ⟨b2, 6, none⟩ rfl hk rfl rfl rfl fd32_6 rfl fun a hk => ?_
                refine sl rfl hk rfl rfl rfl ag9 (box_cell hs (k := 1) rfl rfl) fun a hk => ?_
                refine sles rfl hk rfl rfl rfl un9 fun a hk => ?_
                refine sv (.bool ((x0.Root.size : Int) == 32)) hk rfl rfl rfl fun a hk => ?_
                refine sv (.bool ((x0.Root.size : Int) == 32)) hk rfl rfl rfl fun a hk => ?_
                refine sm _ rfl hk rfl rfl rfl fun a hk => ?_
                rcases cond_some H with ⟨c23, H⟩ | ⟨c23, H⟩
                · have hk := hk.lit 45 c23 rfl
                  refine sf ⟨b2, 2, none⟩ rfl hk rfl rfl rfl fd32_2 rfl fun a hk => ?_
                  refine sl rfl hk rfl rfl rfl ag3 (box_cell hs (k := 1) rfl rfl) fun a hk => ?_
                  refine sf ⟨b2, 0, none⟩ rfl hk rfl rfl rfl fd32_0 rfl fun a hk => ?_
                  refine sl rfl hk rfl rfl rfl ag3 (box_cell hs (k := 1) rfl rfl) fun a hk => ?_
                  refine sv (.bool (decide (x0.Count > x0.Epoch))) hk rfl rfl rfl fun a hk => ?_
                  refine sm _ rfl hk rfl rfl rfl fun a hk => ?_
                  rcases cond_some H with ⟨c24, H⟩ | ⟨c24, H⟩
                  · have hk := hk.lit 51 c24 rfl
                    refine sk hk rfl rfl rfl fun a hk => ?_
                    refine sk hk rfl rfl rfl fun a hk => ?_
                    refine sk hk rfl rfl rfl fun a hk => ?_
                    refine sk hk rfl rfl rfl fun a hk => ?_
                    refine sk hk rfl rfl rfl fun a hk => ?_
                    refine sv (.bool true) hk rfl rfl rfl fun a hk => ?_
                    refine sv (.bool true) hk rfl rfl rfl fun a hk => ?_
                    refine sa _ rfl hk rfl rfl rfl fun a hk => ?_
                    show wpList _ _ _ [] _ _
                    refine wpList_nil ?_
                    obtain rfl := Option.some.inj H
                    show R8 _ _
                    rw [hR8]
                    exact ⟨true, rfl, (hk.c 2 rfl hk.k), (hs.pick [] rfl)⟩
                  · have hk := hk.lit 51 c24 rfl
                    refine sf ⟨b2, 4, none⟩ rfl hk rfl rfl rfl fd32_4 rfl fun a hk => ?_
                    refine sl rfl hk rfl rfl rfl ag9 (box_cell hs (k := 1) rfl rfl) fun a hk => ?_
                    refine sf ⟨b2, 5, none⟩ rfl hk rfl rfl rfl fd32_5 rfl fun a hk => ?_
                    refine sl rfl hk rfl rfl rfl ag9 (box_cell hs (k := 1) rfl rfl) fun a hk => ?_
                    refine sv (.bool (x0.Base.toList == x0.Tip.toList)) hk rfl rfl rfl fun a hk => ?_
                    refine sv (.bool (x0.Base.toList == x0.Tip.toList)) hk rfl rfl rfl fun a hk => ?_
                    refine sv (.bool (x0.Base.toList == x0.Tip.toList)) hk rfl rfl rfl fun a hk => ?_
                    refine sa _ rfl hk rfl rfl rfl fun a hk => ?_
                    show wpList _ _ _ [] _ _
                    refine wpList_nil ?_
                    obtain rfl := Option.some.inj H
                    show R8 _ _
                    rw [hR8]
                    exact ⟨(x0.Base.toList == x0.Tip.toList), rfl, (hk.c 2 rfl hk.k), (hs.pick [] rfl)⟩
                · have hk := hk.lit 45 c23 rfl
                  refine sk hk rfl rfl rfl fun a hk => ?_
                  refine sk hk rfl rfl rfl fun a hk => ?_
                  refine sk hk rfl rfl rfl fun a hk => ?_
                  refine sk hk rfl rfl rfl fun a hk => ?_
                  refine sk hk rfl rfl rfl fun a hk => ?_
                  refine sk hk rfl rfl rfl fun a hk => ?_
                  refine sk hk rfl rfl rfl fun a hk => ?_
                  refine sk hk rfl rfl rfl fun a hk => ?_
                  refine sk hk rfl rfl rfl fun a hk => ?_
                  refine sk hk rfl rfl rfl fun a hk => ?_
                  refine sk hk rfl rfl rfl fun a hk => ?_
                  refine sk hk rfl rfl rfl fun a hk => ?_
                  refine sv (.bool false) hk rfl rfl rfl fun a hk => ?_
                  refine sa _ rfl hk rfl rfl rfl fun a hk => ?_
                  show wpList _ _ _ [] _ _
                  refine wpList_nil ?_
                  obtain rfl := Option.some.inj H
                  show R8 _ _
                  rw [hR8]
                  exact ⟨false, rfl, (hk.c 2 rfl hk.k), (hs.pick [] rfl)⟩
              · have hk := hk.lit 39 c22 rfl
                refine sk hk rfl rfl rfl fun a hk => ?_
                refine sk hk rfl rfl rfl fun a hk => ?_
                refine sk hk rfl rfl rfl fun a hk => ?_
                refine sk hk rfl rfl rfl fun a hk => ?_
                refine sv (.bool false) hk rfl rfl rfl fun a hk => ?_
                refine sm _ rfl hk rfl rfl rfl fun a hk => ?_
                refine sk hk rfl rfl rfl fun a hk => ?_
                refine sk hk rfl rfl rfl fun a hk => ?_
                refine sk hk rfl rfl rfl fun a hk => ?_
                refine sk hk rfl rfl rfl fun a hk => ?_
                refine sk hk rfl rfl rfl fun a hk => ?_
                refine sk hk rfl rfl rfl fun a hk => ?_
                refine sk hk rfl rfl rfl fun a hk => ?_
                refine sk hk rfl rfl rfl fun a hk => ?_
                refine sk hk rfl rfl rfl fun a hk => ?_
                refine sk hk rfl rfl rfl fun a hk => ?_
                refine sk hk rfl rfl rfl fun a hk => ?_
                refine sk hk rfl rfl rfl fun a hk => ?_
                refine sv (.bool false) hk rfl rfl rfl fun a hk => ?_
                refine sa _ rfl hk rfl rfl rfl fun a hk => ?_
                show wpList _ _ _ [] _ _
                refine wpList_nil ?_
                obtain rfl := Option.some.inj H
                show R8 _ _
                rw [hR8]
                exact ⟨false, rfl, (hk.c 2 rfl hk.k), (hs.pick [] rfl)⟩
            · have hk := hk.lit 33 c21 rfl
              refine sk hk rfl rfl rfl fun a hk => ?_
              refine sk hk rfl rfl rfl fun a hk => ?_
              refine sk hk rfl rfl rfl fun a hk => ?_
              refine sk hk rfl rfl rfl fun a hk => ?_
              refine sv (.bool false) hk rfl rfl rfl fun a hk => ?_
              refine sm _ rfl hk rfl rfl rfl fun a hk => ?_
              refine sk hk rfl rfl rfl fun a hk => ?_
              refine sk hk rfl rfl rfl fun a hk => ?_
              refine sk hk rfl rfl rfl fun a hk => ?_
              refine sk hk rfl rfl rfl fun a hk => ?_
              refine sv (.bool false) hk rfl rfl rfl fun a hk => ?_
              refine sm _ rfl hk rfl rfl rfl fun a hk => ?_
              refine sk hk rfl rfl rfl fun a hk => ?_
              refine sk hk rfl rfl rfl fun a hk => ?_
              refine sk hk rfl rfl rfl fun a hk => ?_
              refine sk hk rfl rfl rfl fun a hk => ?_
              refine sk hk rfl rfl rfl fun a hk => ?_
              refine sk hk rfl rfl rfl fun a hk => ?_
              refine sk hk rfl rfl rfl fun a hk => ?_
              refine sk hk rfl rfl rfl fun a hk => ?_
              refine sk hk rfl rfl rfl fun a hk => ?_
              refine sk hk rfl rfl rfl fun a hk => ?_
              refine sk hk rfl rfl rfl fun a hk => ?_
              refine sk hk rfl rfl rfl fun a hk => ?_
              refine sv (.bool false) hk rfl rfl rfl fun a hk => ?_
              refine sa _ rfl hk rfl rfl rfl fun a hk => ?_
              show wpList _ _ _ [] _ _
              refine wpList_nil ?_
              obtain rfl := Option.some.inj H
              show R8 _ _
              rw [hR8]
              exact ⟨false, rfl, (hk.c 2 rfl hk.k), (hs.pick [] rfl)⟩
          · have hk := hk.lit 27 c20 rfl
            refine sk hk rfl rfl rfl fun a hk => ?_
            refine sk hk rfl rfl rfl fun a hk => ?_
            refine sk hk rfl rfl rfl fun a hk => ?_
            refine sk hk rfl rfl rfl fun a hk => ?_
            refine sv (.bool false) hk rfl rfl rfl fun a hk => ?_
            refine sm _ rfl hk rfl rfl rfl fun a hk => ?_
            refine sk hk rfl rfl rfl fun a hk => ?_
            refine sk hk rfl rfl rfl fun a hk => ?_
            refine sk hk rfl rfl rfl fun a hk => ?_
            refine sk hk rfl rfl rfl fun a hk => ?_
            refine sv (.bool false) hk rfl rfl rfl fun a hk => ?_
            refine sm _ rfl hk rfl rfl rfl fun a hk => ?_
            refine sk hk rfl rfl rfl fun a hk => ?_
            refine sk hk rfl rfl rfl fun a hk => ?_
            refine sk hk rfl rfl rfl fun a hk => ?_
            refine sk hk rfl rfl rfl fun a hk => ?_
            refine sv (.bool false) hk rfl rfl rfl fun a hk => ?_
            refine sm _ rfl hk rfl rfl rfl fun a hk => ?_
            refine sk hk rfl rfl rfl fun a hk => ?_
            refine sk hk rfl rfl rfl fun a hk => ?_
            refine sk hk rfl rfl rfl fun a hk => ?_
            refine sk hk rfl rfl rfl fun a hk => ?_
            refine sk hk rfl rfl rfl fun a hk => ?_
            refine sk hk rfl rfl rfl fun a hk => ?_
            refine sk hk rfl rfl rfl fun a hk => ?_
            refine sk hk rfl rfl rfl fun a hk => ?_
            refine sk hk rfl rfl rfl fun a hk => ?_
            refine sk hk rfl rfl rfl fun a hk => ?_
            refine sk hk rfl rfl rfl fun a hk => ?_
            refine sk hk rfl rfl rfl fun a hk => ?_
            refine sv (.bool false) hk rfl rfl rfl fun a hk => ?_
            refine sa _ rfl hk rfl rfl rfl fun a hk => ?_
            show wpList _ _ _ [] _ _
            refine wpList_nil ?_
            obtain rfl := Option.some.inj H
            show R8 _ _
            rw [hR8]
            exact ⟨false, rfl, (hk.c 2 rfl hk.k), (hs.pick [] rfl)⟩
        · have hk := hk.lit 16 c17 rfl
          refine sk hk rfl rfl rfl fun a hk => ?_
          refine sk hk rfl rfl rfl fun a hk => ?_
          refine sk hk rfl rfl rfl fun a hk => ?_
          refine sk hk rfl rfl rfl fun a hk => ?_
          refine sk hk rfl rfl rfl fun a hk => ?_
          refine sk hk rfl rfl rfl fun a hk => ?_
          refine sk hk rfl rfl rfl fun a hk => ?_
          refine sk hk rfl rfl rfl fun a hk => ?_
          refine sk hk rfl rfl rfl fun a hk => ?_
          refine sv (.bool false) hk rfl rfl rfl fun a hk => ?_
          refine sm _ rfl hk rfl rfl rfl fun a hk => ?_
          refine sk hk rfl rfl rfl fun a hk => ?_
          refine sk hk rfl rfl rfl fun a hk => ?_
          refine sk hk rfl rfl rfl fun a hk => ?_
          refine sk hk rfl rfl rfl fun a hk => ?_
          refine sv (.bool false) hk rfl rfl rfl fun a hk => ?_
          refine sm _ rfl hk rfl rfl rfl fun a hk => ?_
          refine sk hk rfl rfl rfl fun a hk => ?_
          refine sk hk rfl rfl rfl fun a hk => ?_
          refine sk hk rfl rfl rfl fun a hk => ?_
          refine sk hk rfl rfl rfl fun a hk => ?_
          refine sv (.bool false) hk rfl rfl rfl fun a hk => ?_
          refine sm _ rfl hk rfl rfl rfl fun a hk => ?_
          refine sk hk rfl rfl rfl fun a hk => ?_
          refine sk hk rfl rfl rfl fun a hk => ?_
          refine sk hk rfl rfl rfl fun a hk => ?_
          refine sk hk rfl rfl rfl fun a hk => ?_
          refine sv (.bool false) hk rfl rfl rfl fun a hk => ?_
          refine sm _ rfl hk rfl rfl rfl fun a hk => ?_
          refine sk hk rfl rfl rfl fun a hk => ?_
          refine sk hk rfl rfl rfl fun a hk => ?_
          refine sk hk rfl rfl rfl fun a hk => ?_
          refine sk hk rfl rfl rfl fun a hk => ?_
          refine sk hk rfl rfl rfl fun a hk => ?_
          refine sk hk rfl rfl rfl fun a hk => ?_
          refine sk hk rfl rfl rfl fun a hk => ?_
          refine sk hk rfl rfl rfl fun a hk => ?_
          refine sk hk rfl rfl rfl fun a hk => ?_
          refine sk hk rfl rfl rfl fun a hk => ?_
          refine sk hk rfl rfl rfl fun a hk => ?_
          refine sk hk rfl rfl rfl fun a hk => ?_
          refine sv (.bool false) hk rfl rfl rfl fun a hk => ?_
          refine sa _ rfl hk rfl rfl rfl fun a hk => ?_
          show wpList _ _ _ [] _ _
          refine wpList_nil ?_
          obtain rfl := Option.some.inj H
          show R8 _ _
          rw [hR8]
          exact ⟨false, rfl, (hk.c 2 rfl hk.k), (hs.pick [] rfl)⟩
      · have hk := hk.lit 11 c14 rfl
        refine sk hk rfl rfl rfl fun a hk => ?_
        refine sk hk rfl rfl rfl fun a hk => ?_
        refine sk hk rfl rfl rfl fun a hk => ?_
        refine sv (.bool false) hk rfl rfl rfl fun a hk => ?_
        refine sm _ rfl hk rfl rfl rfl fun a hk => ?_
        refine sk hk rfl rfl rfl fun a hk => ?_
        refine sk hk rfl rfl rfl fun a hk => ?_
        refine sk hk rfl rfl rfl fun a hk => ?_
        refine sk hk rfl rfl rfl fun a hk => ?_
        refine sk hk rfl rfl rfl fun a hk => ?_
        refine sk hk rfl rfl rfl fun a hk => ?_
        refine sk hk rfl rfl rfl fun a hk => ?_
        refine sk hk rfl rfl rfl fun a hk => ?_
        refine sk hk rfl rfl rfl fun a hk => ?_
        refine sv (.bool false) hk rfl rfl rfl fun a hk => ?_
        refine sm _ rfl hk rfl rfl rfl fun a hk => ?_
        refine sk hk rfl rfl rfl fun a hk => ?_
        refine sk hk rfl rfl rfl fun a hk => ?_
        refine sk hk rfl rfl rfl fun a hk => ?_
        refine sk hk rfl rfl rfl fun a hk => ?_
        refine sv (.bool false) hk rfl rfl rfl fun a hk => ?_
        refine sm _ rfl hk rfl rfl rfl fun a hk => ?_
        refine sk hk rfl rfl rfl fun a hk => ?_
        refine sk hk rfl rfl rfl fun a hk => ?_
        refine sk hk rfl rfl rfl fun a hk => ?_
        refine sk hk rfl rfl rfl fun a hk => ?_
        refine sv (.bool false) hk rfl rfl rfl fun a hk => ?_
        refine sm _ rfl hk rfl rfl rfl fun a hk => ?_
        refine sk hk rfl rfl rfl fun a hk => ?_
        refine sk hk rfl rfl rfl fun a hk => ?_
        refine sk hk rfl rfl rfl fun a hk => ?_
        refine sk hk rfl rfl rfl fun a hk => ?_
        refine sv (.bool false) hk rfl rfl rfl fun a hk => ?_
        refine sm _ rfl hk rfl rfl rfl fun a hk => ?_
        refine sk hk rfl rfl rfl fun a hk => ?_
        refine sk hk rfl rfl rfl fun a hk => ?_
        refine sk hk rfl rfl rfl fun a hk => ?_
        refine sk hk rfl rfl rfl fun a hk => ?_
        refine sk hk rfl rfl rfl fun a hk => ?_
        refine sk hk rfl rfl rfl fun a hk => ?_
        refine sk hk rfl rfl rfl fun a hk => ?_
        refine sk hk rfl rfl rfl fun a hk => ?_
        refine sk hk rfl rfl rfl fun a hk => ?_
        refine sk hk rfl rfl rfl fun a hk => ?_
        refine sk hk rfl rfl rfl fun a hk => ?_
        refine sk hk rfl rfl rfl fun a hk => ?_
        refine sv (.bool false) hk rfl rfl rfl fun a hk => ?_
        refine sa _ rfl hk rfl rfl rfl fun a hk => ?_
        show wpList _ _ _ [] _ _
        refine wpList_nil ?_
        obtain rfl := Option.some.inj H
        show R8 _ _
        rw [hR8]
        exact ⟨false, rfl, (hk.c 2 rfl hk.k), (hs.pick [] rfl)⟩
    · have hk := hk.lit 6 c11 rfl
      refine sk hk rfl rfl rfl fun a hk => ?_
      refine sk hk rfl rfl rfl fun a hk => ?_
      refine sk hk rfl rfl rfl fun a hk => ?_
      refine sv (.bool false) hk rfl rfl rfl fun a hk => ?_
      refine sm _ rfl hk rfl rfl rfl fun a hk => ?_
      refine sk hk rfl rfl rfl fun a hk => ?_
      refine sk hk rfl rfl rfl fun a hk => ?_
      refine sk hk rfl rfl rfl fun a hk => ?_
      refine sv (.bool false) hk rfl rfl rfl fun a hk => ?_
      refine sm _ rfl hk rfl rfl rfl fun a hk => ?_
      refine sk hk rfl rfl rfl fun a hk => ?_
      refine sk hk rfl rfl rfl fun a hk => ?_
      refine sk hk rfl rfl rfl fun a hk => ?_
      refine sk hk rfl rfl rfl fun a hk => ?_
      refine sk hk rfl rfl rfl fun a hk => ?_
      refine sk hk rfl rfl rfl fun a hk => ?_
      refine sk hk rfl rfl rfl fun a hk => ?_
      refine sk hk rfl rfl rfl fun a hk => ?_
      refine sk hk rfl rfl rfl fun a hk => ?_
      refine sv (.bool false) hk rfl rfl rfl fun a hk => ?_
      refine sm _ rfl hk rfl rfl rfl fun a hk => ?_
      refine sk hk rfl rfl rfl fun a hk => ?_
      refine sk hk rfl rfl rfl fun a hk => ?_
      refine sk hk rfl rfl rfl fun a hk => ?_
      refine sk hk rfl rfl rfl fun a hk => ?_
      refine sv (.bool false) hk rfl rfl rfl fun a hk => ?_
      refine sm _ rfl hk rfl rfl rfl fun a hk => ?_
      refine sk hk rfl rfl rfl fun a hk => ?_
      refine sk hk rfl rfl rfl fun a hk => ?_
      refine sk hk rfl rfl rfl fun a hk => ?_
      refine sk hk rfl rfl rfl fun a hk => ?_
      refine sv (.bool false) hk rfl rfl rfl fun a hk => ?_
      refine sm _ rfl hk rfl rfl rfl fun a hk => ?_
      refine sk hk rfl rfl rfl fun a hk => ?_
      refine sk hk rfl rfl rfl fun a hk => ?_
      refine sk hk rfl rfl rfl fun a hk => ?_
      refine sk hk rfl rfl rfl fun a hk => ?_
      refine sv (.bool false) hk rfl rfl rfl fun a hk => ?_
      refine sm _ rfl hk rfl rfl rfl fun a hk => ?_
      refine sk hk rfl rfl rfl fun a hk => ?_
      refine sk hk rfl rfl rfl fun a hk => ?_
      refine sk hk rfl rfl rfl fun a hk => ?_
      refine sk hk rfl rfl rfl fun a hk => ?_
      refine sk hk rfl rfl rfl fun a hk => ?_
      refine sk hk rfl rfl rfl fun a hk => ?_
      refine sk hk rfl rfl rfl fun a hk => ?_
      refine sk hk rfl rfl rfl fun a hk => ?_
      refine sk hk rfl rfl rfl fun a hk => ?_
      refine sk hk rfl rfl rfl fun a hk => ?_
      refine sk hk rfl rfl rfl fun a hk => ?_
      refine sk hk rfl rfl rfl fun a hk => ?_
      refine sv (.bool false) hk rfl rfl rfl fun a hk => ?_
      refine sa _ rfl hk rfl rfl rfl fun a hk => ?_
      show wpList _ _ _ [] _ _
      refine wpList_nil ?_
      obtain rfl := Option.some.inj H
      show R8 _ _
      rw [hR8]
      exact ⟨false, rfl, (hk.c 2 rfl hk.k), (hs.pick [] rfl)⟩
  · intro a w hR0
    rw [hR8] at hR0
    obtain ⟨u4, rfl, hk, hs⟩ := hR0
    have H := HL7
    try dsimp only at H
    refine hK3 _ _ ?_
    refine wp_ret ?_
    obtain rfl := Option.some.inj H
    exact fin hk _ [(.bool u4)] rfl ⟨rfl, trivial⟩ ⟨rfl, (hs.pick [] rfl).dnil⟩

noncomputable def spec_l05In.f (x0 : Int) : Option (Bool) :=
  ((spec_l01In.f x0 0 39).bind fun y3 => (some y3))
set_option maxRecDepth 100000 in
set_option maxHeartbeats 0 in
theorem spec_l05In_t (w0 : World) (x0 : Int) (r : Bool) (H : spec_l05In.f x0 = some r) :
    Calls Try.prog 57 #[.int .i64 x0] w0 (Ret (fun v w => v = .bool r ∧ Sat [] w0 w [] [])) := by
  have hs : Sat [] w0 w0 [] [] := Sat.init w0 [] [] (by simp) (by simp) List.nodup_nil (by simp [blks])
  unfold spec_l05In.f at H
  refine enter Try.func57 rfl Try.ntmps57 rfl fun a hk => ?_
  apply wp_seq_k; intro K1 hK1
  apply wp_region_lit
  refine sa _ rfl hk rfl rfl rfl fun a hk => ?_
  show wpList _ _ _ [] _ _
  refine wpList_nil ?_
  refine hK1 _ _ ?_
  apply wp_seq_k; intro K2 hK2
  apply wp_region_lit
  refine sm _ rfl hk rfl rfl rfl fun a hk => ?_
  obtain ⟨y3, h4, H⟩ := bind_some H
  refine sc rfl en53 hk rfl rfl rfl (spec_l01In_t _ x0 0 39 _ h4) ?_
  rintro _ w ⟨rfl, hG⟩ a hk
  have hs := hs.call0 hG
  refine sa _ rfl hk rfl rfl rfl fun a hk => ?_
  show wpList _ _ _ [] _ _
  refine wpList_nil ?_
  refine hK2 _ _ ?_
  refine wp_ret ?_
  obtain rfl := Option.some.inj H
  exact fin hk _ [(.bool y3)] rfl ⟨rfl, trivial⟩ ⟨rfl, (hs.pick [] rfl).dnil⟩

noncomputable def spec_DeviceOK.s0 (x0 : S_Device) (u15 : Int) : Option ((Int) ⊕ Ex (Unit) (Bool)) :=
  (bif (decide (u15 < (x0.Sure.length : Int))) then (if 0 ≤ u15 ∧ u15 < (x0.Sure.length : Int) then (bif (decide (((x0.Sure.getD u15.toNat ByteArray.empty).size : Int) > 700)) then (some (.inr (.ret false))) else (some (.inl (w64 (u15 + 1))))) else none) else (some (.inr (.out ()))))
noncomputable def spec_DeviceOK.s1 (x0 : S_Device) (u38 : Int) : Option ((Int) ⊕ Ex (Unit) (Bool)) :=
  (bif (decide (u38 < (x0.Unsure.length : Int))) then (((if 0 ≤ u38 ∧ u38 < (x0.Unsure.length : Int) then ((spec_l05In.f ((x0.Unsure.getD u38.toNat z_Io).At)).bind fun y61 => (bif (!y61) then (some true) else (if 0 ≤ u38 ∧ u38 < (x0.Unsure.length : Int) then (some (decide ((((x0.Unsure.getD u38.toNat z_Io).Data).size : Int) > 700))) else none))) else none) : Option (Bool)).bind fun u52 => (bif u52 then (some (.inr (.ret false))) else (some (.inl (w64 (u38 + 1)))))) else (some (.inr (.out ()))))
noncomputable def spec_DeviceOK.f (x0 : S_Device) : Option (Bool) :=
  (((bif ((x0.Sure.length : Int) != 40) then (some true) else (some (decide ((x0.Unsure.length : Int) > 60)))) : Option (Bool)).bind fun u5 => (bif u5 then (some false) else ((loopO (fun s => spec_DeviceOK.s0 x0 s) 0).bind fun o => match o with | .out _ => ((loopO (fun s => spec_DeviceOK.s1 x0 s) 0).bind fun o => match o with | .out _ => (some true) | .ret r => (some r)) | .ret r => (some r))))
set_option maxRecDepth 100000 in
set_option maxHeartbeats 0 in
theorem spec_DeviceOK_t (w0 : World) (x0 : S_Device) (A0_0 : Option Addr) (p0_0 : Nat) (k0_0 : Chunk) (v0_0 : View Lay.str A0_0 p0_0 x0.Sure k0_0) (w0_0 : Has w0 k0_0) (A0_1 : Option Addr) (p0_1 : Nat) (k0_1 : Chunk) (v0_1 : View L_Io A0_1 p0_1 x0.Unsure k0_1) (w0_1 : Has w0 k0_1) (r : Bool) (H : spec_DeviceOK.f x0 = some r) :
    Calls Try.prog 49 #[.agg #[.slice A0_0 x0.Sure.length p0_0, .slice A0_1 x0.Unsure.length p0_1]] w0 (Ret (fun v w => v = .bool r ∧ Sat [] w0 w [] [])) := by
  have hs : Sat [] w0 w0 [(1, k0_0), (2, k0_1)] [] := Sat.init w0 [(1, k0_0), (2, k0_1)] [] (by simp only [List.mem_cons, List.not_mem_nil, or_false]; rintro x (rfl | rfl) <;> assumption) (by simp) List.nodup_nil (by simp [blks])
  unfold spec_DeviceOK.f at H
  refine enter Try.func49 rfl Try.ntmps49 rfl fun a hk => ?_
  apply wp_seq_k; intro K1 hK1
  apply wp_region_lit
  refine sbx 3 hs rfl hk rfl rfl rfl rfl fun b2 w a hk hs => ?_
  refine sa _ rfl hk rfl rfl rfl fun a hk => ?_
  show wpList _ _ _ [] _ _
  refine wpList_nil ?_
  refine hK1 _ _ ?_
  apply wp_seq_k; intro K3 hK3
  apply wp_seq_k; intro K4 hK4
  obtain ⟨o6, h7, HL8⟩ := bind_some H
  clear H
  obtain ⟨R9, hR9⟩ : ∃ R : Act → World → Prop, R = fun a w => ∃ (u5 : Bool), u5 = o6 ∧ Kn [(1, (.pointer (some ⟨b2, 0, none⟩))), (14, (.bool u5))] 54 a ∧ Sat [] w0 w [(1, k0_0), (2, k0_1)] [(3, [(b2, .cells #[.slice A0_0 x0.Sure.length p0_0, .slice A0_1 x0.Unsure.length p0_1] 35 (0, 0))])] := ⟨_, rfl⟩
  refine wp_cutq R9 ?_ ?_
  · have H := h7
    apply wp_region_lit
    refine sf ⟨b2, 0, none⟩ rfl hk rfl rfl rfl fd35_0 rfl fun a hk => ?_
    refine sl rfl hk rfl rfl rfl ag24 (box_cell hs (k := 3) rfl rfl) fun a hk => ?_
    refine sle rfl hk rfl rfl rfl un24 fun a hk => ?_
    refine sv (.bool ((x0.Sure.length : Int) != 40)) hk rfl rfl rfl fun a hk => ?_
    refine sm _ rfl hk rfl rfl rfl fun a hk => ?_
    rcases cond_some H with ⟨c10, H⟩ | ⟨c10, H⟩
    · have hk := hk.lit 9 c10 rfl
      refine sk hk rfl rfl rfl fun a hk => ?_
      refine sk hk rfl rfl rfl fun a hk => ?_
      refine sk hk rfl rfl rfl fun a hk => ?_
      refine sk hk rfl rfl rfl fun a hk => ?_
      refine sv (.bool true) hk rfl rfl rfl fun a hk => ?_
      show wpList _ _ _ [] _ _
      refine wpList_nil ?_
      obtain rfl := Option.some.inj H
      show R9 _ _
      rw [hR9]
      exact ⟨true, rfl, (hk.c 1 rfl (hk.c 14 rfl hk.k)), (hs.pick [(3, 3)] rfl)⟩
    · have hk := hk.lit 9 c10 rfl
      refine sf ⟨b2, 1, none⟩ rfl hk rfl rfl rfl fd35_1 rfl fun a hk => ?_
      refine sl rfl hk rfl rfl rfl ag33 (box_cell hs (k := 3) rfl rfl) fun a hk => ?_
      refine sle rfl hk rfl rfl rfl un33 fun a hk => ?_
      refine sv (.bool (decide ((x0.Unsure.length : Int) > 60))) hk rfl rfl rfl fun a hk => ?_
      refine sv (.bool (decide ((x0.Unsure.length : Int) > 60))) hk rfl rfl rfl fun a hk => ?_
      show wpList _ _ _ [] _ _
      refine wpList_nil ?_
      obtain rfl := Option.some.inj H
      show R9 _ _
      rw [hR9]
      exact ⟨(decide ((x0.Unsure.length : Int) > 60)), rfl, (hk.c 1 rfl (hk.c 14 rfl hk.k)), (hs.pick [(3, 3)] rfl)⟩
  · intro a w hR0
    rw [hR9] at hR0
    obtain ⟨u5, rfl, hk, hs⟩ := hR0
    have H := HL8
    try dsimp only at H
    refine hK4 _ _ ?_
    rcases cond_some H with ⟨c11, H⟩ | ⟨c11, H⟩
    · have hk := hk.lit 14 c11 rfl
      refine cnd_true hk rfl rfl ?_
      apply wp_seq_k; intro K12 hK12
      apply wp_region_lit
      refine sa _ rfl hk rfl rfl rfl fun a hk => ?_
      show wpList _ _ _ [] _ _
      refine wpList_nil ?_
      refine hK12 _ _ ?_
      refine wp_ret ?_
      obtain rfl := Option.some.inj H
      exact fin hk _ [(.bool false)] rfl ⟨rfl, trivial⟩ ⟨rfl, (hs.pick [] rfl).dnil⟩
    · have hk := hk.lit 14 c11 rfl
      refine cnd_false hk rfl rfl ?_
      refine wp_skip ?_
      refine hK3 _ _ ?_
      apply wp_seq_k; intro K13 hK13
      apply wp_seq_k; intro K14 hK14
      apply wp_region_lit
      refine sa _ rfl hk rfl rfl rfl fun a hk => ?_
      show wpList _ _ _ [] _ _
      refine wpList_nil ?_
      refine hK14 _ _ ?_
      obtain ⟨o16, h17, HL18⟩ := bind_some H
      clear H
      obtain ⟨R19, hR19⟩ : ∃ R : Act → World → Prop, R = fun a w => o16 = .out () ∧ Kn [(1, (.pointer (some ⟨b2, 0, none⟩)))] 54 a ∧ Sat [] w0 w [(1, k0_0), (2, k0_1)] [(3, [(b2, .cells #[.slice A0_0 x0.Sure.length p0_0, .slice A0_1 x0.Unsure.length p0_1] 35 (0, 0))])] := ⟨_, rfl⟩
      refine wp_cutq R19 ?_ ?_
      · refine wp_block ?_
        obtain ⟨fu21, h17⟩ := loopO_some h17
        obtain ⟨I20, hI20⟩ : ∃ I : Nat → Act → World → Prop, I = fun fu a w => ∃ (u15 : Int), loopN (fun s => spec_DeviceOK.s0 x0 s) fu u15 = some o16 ∧ Kn [(1, (.pointer (some ⟨b2, 0, none⟩))), (3, (.int .i64 u15))] 54 a ∧ Sat [] w0 w [(1, k0_0), (2, k0_1)] [(3, [(b2, .cells #[.slice A0_0 x0.Sure.length p0_0, .slice A0_1 x0.Unsure.length p0_1] 35 (0, 0))])] := ⟨_, rfl⟩
        refine wp_loop_ghost I20 fu21 ?_ ?_
        · rw [hI20]
          exact ⟨0, h17, (hk.c 1 rfl (hk.c 3 rfl hk.k)), (hs.pick [(3, 3)] rfl)⟩
        · clear h17 hk hs
          intro fu21 a w hI0
          rw [hI20] at hI0
          obtain ⟨u15, hi, hk, hs⟩ := hI0
          obtain ⟨x22, H, h23⟩ := loop_round hi
          try dsimp only at H
          unfold spec_DeviceOK.s0 at H
          apply wp_seq_k; intro K24 hK24
          apply wp_seq_k; intro K25 hK25
          apply wp_region_lit
          refine sm _ rfl hk rfl rfl rfl fun a hk => ?_
          refine sf ⟨b2, 0, none⟩ rfl hk rfl rfl rfl fd35_0 rfl fun a hk => ?_
          refine sl rfl hk rfl rfl rfl ag24 (box_cell hs (k := 3) rfl rfl) fun a hk => ?_
          refine sle rfl hk rfl rfl rfl un24 fun a hk => ?_
          refine sv (.bool (decide (u15 < (x0.Sure.length : Int)))) hk rfl rfl rfl fun a hk => ?_
          show wpList _ _ _ [] _ _
          refine wpList_nil ?_
          refine hK25 _ _ ?_
          rcases cond_some H with ⟨c26, H⟩ | ⟨c26, H⟩
          · have hk := hk.lit 19 c26 rfl
            refine cnd_true hk rfl rfl ?_
            refine wp_skip ?_
            refine hK24 _ _ ?_
            apply wp_seq_k; intro K27 hK27
            refine wp_block ?_
            apply wp_seq_k; intro K28 hK28
            apply wp_region_lit
            refine sf ⟨b2, 0, none⟩ rfl hk rfl rfl rfl fd35_0 rfl fun a hk => ?_
            refine sl rfl hk rfl rfl rfl ag24 (box_cell hs (k := 3) rfl rfl) fun a hk => ?_
            refine sm _ rfl hk rfl rfl rfl fun a hk => ?_
            rcases ite_some H with ⟨c29, H⟩ | ⟨_, H⟩
            rotate_left
            · cases H
            obtain ⟨b30, q31, hAc29⟩ := (v0_0).some_ u15 c29.1 c29.2
            refine si rfl hk rfl rfl rfl rfl un24 sz9 c29.1 c29.2 hAc29 fun a hk => ?_
            obtain ⟨_, rfl, e32⟩ := (v0_0).at_ ByteArray.empty u15 c29.1 c29.2
            refine sl (v := (.string (x0.Sure.getD u15.toNat ByteArray.empty))) rfl hk rfl rfl rfl ag9 ((e32 0 _ rfl).cell (hs.hasD (k := 1) rfl)) fun a hk => ?_
            refine sles rfl hk rfl rfl rfl un9 fun a hk => ?_
            refine sv (.bool (decide (((x0.Sure.getD u15.toNat ByteArray.empty).size : Int) > 700))) hk rfl rfl rfl fun a hk => ?_
            show wpList _ _ _ [] _ _
            refine wpList_nil ?_
            refine hK28 _ _ ?_
            rcases cond_some H with ⟨c33, H⟩ | ⟨c33, H⟩
            · have hk := hk.lit 28 c33 rfl
              refine cnd_true hk rfl rfl ?_
              apply wp_seq_k; intro K34 hK34
              apply wp_region_lit
              refine sa _ rfl hk rfl rfl rfl fun a hk => ?_
              show wpList _ _ _ [] _ _
              refine wpList_nil ?_
              refine hK34 _ _ ?_
              refine wp_ret ?_
              obtain rfl := Option.some.inj H
              have ho16 := h23
              try dsimp only at ho16
              subst ho16
              have H := HL18
              try dsimp only at H
              obtain rfl := Option.some.inj H
              exact fin hk _ [(.bool false)] rfl ⟨rfl, trivial⟩ ⟨rfl, (hs.pick [] rfl).dnil⟩
            · have hk := hk.lit 28 c33 rfl
              refine cnd_false hk rfl rfl ?_
              refine wp_skip ?_
              refine hK27 _ _ ?_
              apply wp_region_lit
              refine sm _ rfl hk rfl rfl rfl fun a hk => ?_
              refine sv (.int .i64 (w64 (u15 + 1))) hk rfl rfl rfl fun a hk => ?_
              refine sa _ rfl hk rfl rfl rfl fun a hk => ?_
              show wpList _ _ _ [] _ _
              refine wpList_nil ?_
              obtain rfl := Option.some.inj H
              obtain ⟨m35, hmm35, h23⟩ := h23
              show ∃ n', n' < _ ∧ I20 n' _ _
              refine ⟨m35, hmm35, ?_⟩
              rw [hI20]
              exact ⟨(w64 (u15 + 1)), h23, (hk.c 1 rfl (hk.c 3 rfl hk.k)), (hs.pick [(3, 3)] rfl)⟩
          · have hk := hk.lit 19 c26 rfl
            refine cnd_false hk rfl rfl ?_
            refine wp_exit ?_
            obtain rfl := Option.some.inj H
            show R19 _ _
            rw [hR19]
            exact ⟨h23.symm, (hk.c 1 rfl hk.k), (hs.pick [(3, 3)] rfl)⟩
      · intro a w hR0
        rw [hR19] at hR0
        obtain ⟨rfl, hk, hs⟩ := hR0
        have H := HL18
        try dsimp only at H
        refine hK13 _ _ ?_
        apply wp_seq_k; intro K36 hK36
        apply wp_seq_k; intro K37 hK37
        apply wp_region_lit
        refine sa _ rfl hk rfl rfl rfl fun a hk => ?_
        show wpList _ _ _ [] _ _
        refine wpList_nil ?_
        refine hK37 _ _ ?_
        obtain ⟨o39, h40, HL41⟩ := bind_some H
        clear H
        obtain ⟨R42, hR42⟩ : ∃ R : Act → World → Prop, R = fun a w => o39 = .out () ∧ Kn [] 54 a ∧ Sat [] w0 w [(1, k0_0), (2, k0_1)] [] := ⟨_, rfl⟩
        refine wp_cutq R42 ?_ ?_
        · refine wp_block ?_
          obtain ⟨fu44, h40⟩ := loopO_some h40
          obtain ⟨I43, hI43⟩ : ∃ I : Nat → Act → World → Prop, I = fun fu a w => ∃ (u38 : Int), loopN (fun s => spec_DeviceOK.s1 x0 s) fu u38 = some o39 ∧ Kn [(1, (.pointer (some ⟨b2, 0, none⟩))), (4, (.int .i64 u38))] 54 a ∧ Sat [] w0 w [(1, k0_0), (2, k0_1)] [(3, [(b2, .cells #[.slice A0_0 x0.Sure.length p0_0, .slice A0_1 x0.Unsure.length p0_1] 35 (0, 0))])] := ⟨_, rfl⟩
          refine wp_loop_ghost I43 fu44 ?_ ?_
          · rw [hI43]
            exact ⟨0, h40, (hk.c 1 rfl (hk.c 4 rfl hk.k)), (hs.pick [(3, 3)] rfl)⟩
          · clear h40 hk hs
            intro fu44 a w hI0
            rw [hI43] at hI0
            obtain ⟨u38, hi, hk, hs⟩ := hI0
            obtain ⟨x45, H, h46⟩ := loop_round hi
            try dsimp only at H
            unfold spec_DeviceOK.s1 at H
            apply wp_seq_k; intro K47 hK47
            apply wp_seq_k; intro K48 hK48
            apply wp_region_lit
            refine sm _ rfl hk rfl rfl rfl fun a hk => ?_
            refine sf ⟨b2, 1, none⟩ rfl hk rfl rfl rfl fd35_1 rfl fun a hk => ?_
            refine sl rfl hk rfl rfl rfl ag33 (box_cell hs (k := 3) rfl rfl) fun a hk => ?_
            refine sle rfl hk rfl rfl rfl un33 fun a hk => ?_
            refine sv (.bool (decide (u38 < (x0.Unsure.length : Int)))) hk rfl rfl rfl fun a hk => ?_
            show wpList _ _ _ [] _ _
            refine wpList_nil ?_
            refine hK48 _ _ ?_
            rcases cond_some H with ⟨c49, H⟩ | ⟨c49, H⟩
            · have hk := hk.lit 33 c49 rfl
              refine cnd_true hk rfl rfl ?_
              refine wp_skip ?_
              refine hK47 _ _ ?_
              apply wp_seq_k; intro K50 hK50
              refine wp_block ?_
              apply wp_seq_k; intro K51 hK51
              obtain ⟨o53, h54, HL55⟩ := bind_some H
              clear H
              obtain ⟨R56, hR56⟩ : ∃ R : Act → World → Prop, R = fun a w => ∃ (u52 : Bool), u52 = o53 ∧ Kn [(1, (.pointer (some ⟨b2, 0, none⟩))), (4, (.int .i64 u38)), (53, (.bool u52))] 54 a ∧ Sat [] w0 w [(1, k0_0), (2, k0_1)] [(3, [(b2, .cells #[.slice A0_0 x0.Sure.length p0_0, .slice A0_1 x0.Unsure.length p0_1] 35 (0, 0))])] := ⟨_, rfl⟩
              refine wp_cutq R56 ?_ ?_
              · have H := h54
                apply wp_region_lit
                refine sf ⟨b2, 1, none⟩ rfl hk rfl rfl rfl fd35_1 rfl fun a hk => ?_
                refine sl rfl hk rfl rfl rfl ag33 (box_cell hs (k := 3) rfl rfl) fun a hk => ?_
                refine sm _ rfl hk rfl rfl rfl fun a hk => ?_
                rcases ite_some H with ⟨c57, H⟩ | ⟨_, H⟩
                rotate_left
                · cases H
                obtain ⟨b58, q59, hAc57⟩ := (v0_1).some_ u38 c57.1 c57.2
                refine si rfl hk rfl rfl rfl rfl un33 sz114 c57.1 c57.2 hAc57 fun a hk => ?_
                refine sf (padd A0_1 (u38.toNat * 2 + 0)) rfl hk rfl rfl rfl fd114_0 (padd_add _ _ _) fun a hk => ?_
                obtain ⟨_, rfl, e60⟩ := (v0_1).at_ z_Io u38 c57.1 c57.2
                refine sl (v := (.int .i64 ((x0.Unsure.getD u38.toNat z_Io).At))) rfl hk rfl rfl rfl ag3 ((e60 0 _ rfl).cell (hs.hasD (k := 2) rfl)) fun a hk => ?_
                obtain ⟨y61, h62, H⟩ := bind_some H
                refine sc rfl en57 hk rfl rfl rfl (spec_l05In_t _ ((x0.Unsure.getD u38.toNat z_Io).At) _ h62) ?_
                rintro _ w ⟨rfl, hG⟩ a hk
                have hs := hs.call0 hG
                refine sv (.bool (!y61)) hk rfl rfl rfl fun a hk => ?_
                refine sm _ rfl hk rfl rfl rfl fun a hk => ?_
                rcases cond_some H with ⟨c63, H⟩ | ⟨c63, H⟩
                · have hk := hk.lit 44 c63 rfl
                  refine sk hk rfl rfl rfl fun a hk => ?_
                  refine sk hk rfl rfl rfl fun a hk => ?_
                  refine sk hk rfl rfl rfl fun a hk => ?_
                  refine sk hk rfl rfl rfl fun a hk => ?_
                  refine sk hk rfl rfl rfl fun a hk => ?_
                  refine sk hk rfl rfl rfl fun a hk => ?_
                  refine sk hk rfl rfl rfl fun a hk => ?_
                  refine sk hk rfl rfl rfl fun a hk => ?_
                  refine sv (.bool true) hk rfl rfl rfl fun a hk => ?_
                  show wpList _ _ _ [] _ _
                  refine wpList_nil ?_
                  obtain rfl := Option.some.inj H
                  show R56 _ _
                  rw [hR56]
                  exact ⟨true, rfl, (hk.c 1 rfl (hk.c 4 rfl (hk.c 53 rfl hk.k))), (hs.pick [(3, 3)] rfl)⟩
                · have hk := hk.lit 44 c63 rfl
                  refine sf ⟨b2, 1, none⟩ rfl hk rfl rfl rfl fd35_1 rfl fun a hk => ?_
                  refine sl rfl hk rfl rfl rfl ag33 (box_cell hs (k := 3) rfl rfl) fun a hk => ?_
                  refine sm _ rfl hk rfl rfl rfl fun a hk => ?_
                  rcases ite_some H with ⟨c64, H⟩ | ⟨_, H⟩
                  rotate_left
                  · cases H
                  obtain ⟨b65, q66, hAc64⟩ := (v0_1).some_ u38 c64.1 c64.2
                  refine si rfl hk rfl rfl rfl rfl un33 sz114 c64.1 c64.2 hAc64 fun a hk => ?_
                  refine sf (padd A0_1 (u38.toNat * 2 + 1)) rfl hk rfl rfl rfl fd114_1 (padd_add _ _ _) fun a hk => ?_
                  obtain ⟨_, rfl, e67⟩ := (v0_1).at_ z_Io u38 c64.1 c64.2
                  refine sl (v := (.string ((x0.Unsure.getD u38.toNat z_Io).Data))) rfl hk rfl rfl rfl ag9 ((e67 1 _ rfl).cell (hs.hasD (k := 2) rfl)) fun a hk => ?_
                  refine sles rfl hk rfl rfl rfl un9 fun a hk => ?_
                  refine sv (.bool (decide ((((x0.Unsure.getD u38.toNat z_Io).Data).size : Int) > 700))) hk rfl rfl rfl fun a hk => ?_
                  refine sv (.bool (decide ((((x0.Unsure.getD u38.toNat z_Io).Data).size : Int) > 700))) hk rfl rfl rfl fun a hk => ?_
                  show wpList _ _ _ [] _ _
                  refine wpList_nil ?_
                  obtain rfl := Option.some.inj H
                  show R56 _ _
                  rw [hR56]
                  exact ⟨(decide ((((x0.Unsure.getD u38.toNat z_Io).Data).size : Int) > 700)), rfl, (hk.c 1 rfl (hk.c 4 rfl (hk.c 53 rfl hk.k))), (hs.pick [(3, 3)] rfl)⟩
              · intro a w hR0
                rw [hR56] at hR0
                obtain ⟨u52, rfl, hk, hs⟩ := hR0
                have H := HL55
                try dsimp only at H
                refine hK51 _ _ ?_
                rcases cond_some H with ⟨c68, H⟩ | ⟨c68, H⟩
                · have hk := hk.lit 53 c68 rfl
                  refine cnd_true hk rfl rfl ?_
                  apply wp_seq_k; intro K69 hK69
                  apply wp_region_lit
                  refine sa _ rfl hk rfl rfl rfl fun a hk => ?_
                  show wpList _ _ _ [] _ _
                  refine wpList_nil ?_
                  refine hK69 _ _ ?_
                  refine wp_ret ?_
                  obtain rfl := Option.some.inj H
                  have ho39 := h46
                  try dsimp only at ho39
                  subst ho39
                  have H := HL41
                  try dsimp only at H
                  obtain rfl := Option.some.inj H
                  exact fin hk _ [(.bool false)] rfl ⟨rfl, trivial⟩ ⟨rfl, (hs.pick [] rfl).dnil⟩
                · have hk := hk.lit 53 c68 rfl
                  refine cnd_false hk rfl rfl ?_
                  refine wp_skip ?_
                  refine hK50 _ _ ?_
                  apply wp_region_lit
                  refine sm _ rfl hk rfl rfl rfl fun a hk => ?_
                  refine sv (.int .i64 (w64 (u38 + 1))) hk rfl rfl rfl fun a hk => ?_
                  refine sa _ rfl hk rfl rfl rfl fun a hk => ?_
                  show wpList _ _ _ [] _ _
                  refine wpList_nil ?_
                  obtain rfl := Option.some.inj H
                  obtain ⟨m70, hmm70, h46⟩ := h46
                  show ∃ n', n' < _ ∧ I43 n' _ _
                  refine ⟨m70, hmm70, ?_⟩
                  rw [hI43]
                  exact ⟨(w64 (u38 + 1)), h46, (hk.c 1 rfl (hk.c 4 rfl hk.k)), (hs.pick [(3, 3)] rfl)⟩
            · have hk := hk.lit 33 c49 rfl
              refine cnd_false hk rfl rfl ?_
              refine wp_exit ?_
              obtain rfl := Option.some.inj H
              show R42 _ _
              rw [hR42]
              exact ⟨h46.symm, hk.k, (hs.pick [] rfl)⟩
        · intro a w hR0
          rw [hR42] at hR0
          obtain ⟨rfl, hk, hs⟩ := hR0
          have H := HL41
          try dsimp only at H
          refine hK36 _ _ ?_
          apply wp_seq_k; intro K71 hK71
          apply wp_region_lit
          refine sa _ rfl hk rfl rfl rfl fun a hk => ?_
          show wpList _ _ _ [] _ _
          refine wpList_nil ?_
          refine hK71 _ _ ?_
          refine wp_ret ?_
          obtain rfl := Option.some.inj H
          exact fin hk _ [(.bool true)] rfl ⟨rfl, trivial⟩ ⟨rfl, (hs.pick [] rfl).dnil⟩

noncomputable def spec_StoreOK.f (x0 : S_Store) : Option (Bool) :=
  (((bif ((x0.Key.size : Int) == 32) then ((spec_RegisterOK.f x0.Reg).bind fun y10 => (bif y10 then ((spec_DeviceOK.f x0.Device).bind fun y13 => (bif y13 then (bif ((x0.Device.Unsure.length : Int) == 0) then (bif x0.Up then (some (!x0.Dead)) else (some true)) else (some false)) else (some false))) else (some false))) else (some false)) : Option (Bool)).bind fun u4 => (some u4))
set_option maxRecDepth 100000 in
set_option maxHeartbeats 0 in
theorem spec_StoreOK_t (w0 : World) (x0 : S_Store) (A0_0 : Option Addr) (p0_0 : Nat) (k0_0 : Chunk) (v0_0 : View Lay.str A0_0 p0_0 x0.Device.Sure k0_0) (w0_0 : Has w0 k0_0) (A0_1 : Option Addr) (p0_1 : Nat) (k0_1 : Chunk) (v0_1 : View L_Io A0_1 p0_1 x0.Device.Unsure k0_1) (w0_1 : Has w0 k0_1) (r : Bool) (H : spec_StoreOK.f x0 = some r) :
    Calls Try.prog 16 #[.agg #[.string x0.Key, .int .i64 x0.Reg.Epoch, .int .i64 x0.Reg.Side, .int .i64 x0.Reg.Count, .int .i64 x0.Reg.Boot, .string x0.Reg.Base, .string x0.Reg.Tip, .string x0.Reg.Root, .slice A0_0 x0.Device.Sure.length p0_0, .slice A0_1 x0.Device.Unsure.length p0_1, .bool x0.Up, .bool x0.Dead]] w0 (Ret (fun v w => v = .bool r ∧ Sat [] w0 w [] [])) := by
  have hs : Sat [] w0 w0 [(1, k0_0), (2, k0_1)] [] := Sat.init w0 [(1, k0_0), (2, k0_1)] [] (by simp only [List.mem_cons, List.not_mem_nil, or_false]; rintro x (rfl | rfl) <;> assumption) (by simp) List.nodup_nil (by simp [blks])
  unfold spec_StoreOK.f at H
  refine enter Try.func16 rfl Try.ntmps16 rfl fun a hk => ?_
  apply wp_seq_k; intro K1 hK1
  apply wp_region_lit
  refine sbx 3 hs rfl hk rfl rfl rfl rfl fun b2 w a hk hs => ?_
  refine sa _ rfl hk rfl rfl rfl fun a hk => ?_
  show wpList _ _ _ [] _ _
  refine wpList_nil ?_
  refine hK1 _ _ ?_
  apply wp_seq_k; intro K3 hK3
  obtain ⟨o5, h6, HL7⟩ := bind_some H
  clear H
  obtain ⟨R8, hR8⟩ : ∃ R : Act → World → Prop, R = fun a w => ∃ (u4 : Bool), u4 = o5 ∧ Kn [(2, (.bool u4))] 33 a ∧ Sat [] w0 w [(1, k0_0), (2, k0_1)] [] := ⟨_, rfl⟩
  refine wp_cutq R8 ?_ ?_
  · have H := h6
    apply wp_region_lit
    refine sf ⟨b2, 0, none⟩ rfl hk rfl rfl rfl fd37_0 rfl fun a hk => ?_
    refine sl rfl hk rfl rfl rfl ag9 (box_cell hs (k := 3) rfl rfl) fun a hk => ?_
    refine sles rfl hk rfl rfl rfl un9 fun a hk => ?_
    refine sv (.bool ((x0.Key.size : Int) == 32)) hk rfl rfl rfl fun a hk => ?_
    refine sm _ rfl hk rfl rfl rfl fun a hk => ?_
    rcases cond_some H with ⟨c9, H⟩ | ⟨c9, H⟩
    · have hk := hk.lit 7 c9 rfl
      refine sf ⟨b2, 1, none⟩ rfl hk rfl rfl rfl fd37_1 rfl fun a hk => ?_
      refine sln [.int .i64 x0.Reg.Epoch, .int .i64 x0.Reg.Side, .int .i64 x0.Reg.Count, .int .i64 x0.Reg.Boot, .string x0.Reg.Base, .string x0.Reg.Tip, .string x0.Reg.Root] rfl hk rfl rfl rfl ag32 sz32 (box_part hs (k := 3) rfl rfl) fun a hk => ?_
      obtain ⟨y10, h11, H⟩ := bind_some H
      refine sc rfl en48 hk rfl rfl rfl (spec_RegisterOK_t _ x0.Reg _ h11) ?_
      rintro _ w ⟨rfl, hG⟩ a hk
      have hs := hs.call0 hG
      refine sv (.bool y10) hk rfl rfl rfl fun a hk => ?_
      refine sm _ rfl hk rfl rfl rfl fun a hk => ?_
      rcases cond_some H with ⟨c12, H⟩ | ⟨c12, H⟩
      · have hk := hk.lit 12 c12 rfl
        refine sf ⟨b2, 8, none⟩ rfl hk rfl rfl rfl fd37_2 rfl fun a hk => ?_
        refine sln [.slice A0_0 x0.Device.Sure.length p0_0, .slice A0_1 x0.Device.Unsure.length p0_1] rfl hk rfl rfl rfl ag35 sz35 (box_part hs (k := 3) rfl rfl) fun a hk => ?_
        obtain ⟨y13, h14, H⟩ := bind_some H
        refine sc rfl en49 hk rfl rfl rfl (spec_DeviceOK_t _ x0.Device A0_0 p0_0 _ v0_0 (hs.hasD (k := 1) rfl) A0_1 p0_1 _ v0_1 (hs.hasD (k := 2) rfl) _ h14) ?_
        rintro _ w ⟨rfl, hG⟩ a hk
        have hs := hs.call0 hG
        refine sv (.bool y13) hk rfl rfl rfl fun a hk => ?_
        refine sm _ rfl hk rfl rfl rfl fun a hk => ?_
        rcases cond_some H with ⟨c15, H⟩ | ⟨c15, H⟩
        · have hk := hk.lit 17 c15 rfl
          refine sf ⟨b2, 8, none⟩ rfl hk rfl rfl rfl fd37_2 rfl fun a hk => ?_
          refine sf ⟨b2, 9, none⟩ rfl hk rfl rfl rfl fd35_1 rfl fun a hk => ?_
          refine sl rfl hk rfl rfl rfl ag33 (box_cell hs (k := 3) rfl rfl) fun a hk => ?_
          refine sle rfl hk rfl rfl rfl un33 fun a hk => ?_
          refine sv (.bool ((x0.Device.Unsure.length : Int) == 0)) hk rfl rfl rfl fun a hk => ?_
          refine sv (.bool ((x0.Device.Unsure.length : Int) == 0)) hk rfl rfl rfl fun a hk => ?_
          refine sm _ rfl hk rfl rfl rfl fun a hk => ?_
          rcases cond_some H with ⟨c16, H⟩ | ⟨c16, H⟩
          · have hk := hk.lit 24 c16 rfl
            refine sf ⟨b2, 10, none⟩ rfl hk rfl rfl rfl fd37_3 rfl fun a hk => ?_
            refine sl rfl hk rfl rfl rfl ag4 (box_cell hs (k := 3) rfl rfl) fun a hk => ?_
            refine sm _ rfl hk rfl rfl rfl fun a hk => ?_
            rcases cond_some H with ⟨c17, H⟩ | ⟨c17, H⟩
            · have hk := hk.lit 27 c17 rfl
              refine sf ⟨b2, 11, none⟩ rfl hk rfl rfl rfl fd37_4 rfl fun a hk => ?_
              refine sl rfl hk rfl rfl rfl ag4 (box_cell hs (k := 3) rfl rfl) fun a hk => ?_
              refine sv (.bool x0.Dead) hk rfl rfl rfl fun a hk => ?_
              refine sv (.bool (!x0.Dead)) hk rfl rfl rfl fun a hk => ?_
              refine sv (.bool (!x0.Dead)) hk rfl rfl rfl fun a hk => ?_
              refine sa _ rfl hk rfl rfl rfl fun a hk => ?_
              show wpList _ _ _ [] _ _
              refine wpList_nil ?_
              obtain rfl := Option.some.inj H
              show R8 _ _
              rw [hR8]
              exact ⟨(!x0.Dead), rfl, (hk.c 2 rfl hk.k), (hs.pick [] rfl)⟩
            · have hk := hk.lit 27 c17 rfl
              refine sk hk rfl rfl rfl fun a hk => ?_
              refine sk hk rfl rfl rfl fun a hk => ?_
              refine sv (.bool false) hk rfl rfl rfl fun a hk => ?_
              refine sv (.bool true) hk rfl rfl rfl fun a hk => ?_
              refine sv (.bool true) hk rfl rfl rfl fun a hk => ?_
              refine sa _ rfl hk rfl rfl rfl fun a hk => ?_
              show wpList _ _ _ [] _ _
              refine wpList_nil ?_
              obtain rfl := Option.some.inj H
              show R8 _ _
              rw [hR8]
              exact ⟨true, rfl, (hk.c 2 rfl hk.k), (hs.pick [] rfl)⟩
          · have hk := hk.lit 24 c16 rfl
            refine sk hk rfl rfl rfl fun a hk => ?_
            refine sk hk rfl rfl rfl fun a hk => ?_
            refine sk hk rfl rfl rfl fun a hk => ?_
            refine sk hk rfl rfl rfl fun a hk => ?_
            refine sk hk rfl rfl rfl fun a hk => ?_
            refine sk hk rfl rfl rfl fun a hk => ?_
            refine sk hk rfl rfl rfl fun a hk => ?_
            refine sv (.bool false) hk rfl rfl rfl fun a hk => ?_
            refine sa _ rfl hk rfl rfl rfl fun a hk => ?_
            show wpList _ _ _ [] _ _
            refine wpList_nil ?_
            obtain rfl := Option.some.inj H
            show R8 _ _
            rw [hR8]
            exact ⟨false, rfl, (hk.c 2 rfl hk.k), (hs.pick [] rfl)⟩
        · have hk := hk.lit 17 c15 rfl
          refine sk hk rfl rfl rfl fun a hk => ?_
          refine sk hk rfl rfl rfl fun a hk => ?_
          refine sk hk rfl rfl rfl fun a hk => ?_
          refine sk hk rfl rfl rfl fun a hk => ?_
          refine sk hk rfl rfl rfl fun a hk => ?_
          refine sv (.bool false) hk rfl rfl rfl fun a hk => ?_
          refine sm _ rfl hk rfl rfl rfl fun a hk => ?_
          refine sk hk rfl rfl rfl fun a hk => ?_
          refine sk hk rfl rfl rfl fun a hk => ?_
          refine sk hk rfl rfl rfl fun a hk => ?_
          refine sk hk rfl rfl rfl fun a hk => ?_
          refine sk hk rfl rfl rfl fun a hk => ?_
          refine sk hk rfl rfl rfl fun a hk => ?_
          refine sk hk rfl rfl rfl fun a hk => ?_
          refine sv (.bool false) hk rfl rfl rfl fun a hk => ?_
          refine sa _ rfl hk rfl rfl rfl fun a hk => ?_
          show wpList _ _ _ [] _ _
          refine wpList_nil ?_
          obtain rfl := Option.some.inj H
          show R8 _ _
          rw [hR8]
          exact ⟨false, rfl, (hk.c 2 rfl hk.k), (hs.pick [] rfl)⟩
      · have hk := hk.lit 12 c12 rfl
        refine sk hk rfl rfl rfl fun a hk => ?_
        refine sk hk rfl rfl rfl fun a hk => ?_
        refine sk hk rfl rfl rfl fun a hk => ?_
        refine sv (.bool false) hk rfl rfl rfl fun a hk => ?_
        refine sm _ rfl hk rfl rfl rfl fun a hk => ?_
        refine sk hk rfl rfl rfl fun a hk => ?_
        refine sk hk rfl rfl rfl fun a hk => ?_
        refine sk hk rfl rfl rfl fun a hk => ?_
        refine sk hk rfl rfl rfl fun a hk => ?_
        refine sk hk rfl rfl rfl fun a hk => ?_
        refine sv (.bool false) hk rfl rfl rfl fun a hk => ?_
        refine sm _ rfl hk rfl rfl rfl fun a hk => ?_
        refine sk hk rfl rfl rfl fun a hk => ?_
        refine sk hk rfl rfl rfl fun a hk => ?_
        refine sk hk rfl rfl rfl fun a hk => ?_
        refine sk hk rfl rfl rfl fun a hk => ?_
        refine sk hk rfl rfl rfl fun a hk => ?_
        refine sk hk rfl rfl rfl fun a hk => ?_
        refine sk hk rfl rfl rfl fun a hk => ?_
        refine sv (.bool false) hk rfl rfl rfl fun a hk => ?_
        refine sa _ rfl hk rfl rfl rfl fun a hk => ?_
        show wpList _ _ _ [] _ _
        refine wpList_nil ?_
        obtain rfl := Option.some.inj H
        show R8 _ _
        rw [hR8]
        exact ⟨false, rfl, (hk.c 2 rfl hk.k), (hs.pick [] rfl)⟩
    · have hk := hk.lit 7 c9 rfl
      refine sk hk rfl rfl rfl fun a hk => ?_
      refine sk hk rfl rfl rfl fun a hk => ?_
      refine sk hk rfl rfl rfl fun a hk => ?_
      refine sv (.bool false) hk rfl rfl rfl fun a hk => ?_
      refine sm _ rfl hk rfl rfl rfl fun a hk => ?_
      refine sk hk rfl rfl rfl fun a hk => ?_
      refine sk hk rfl rfl rfl fun a hk => ?_
      refine sk hk rfl rfl rfl fun a hk => ?_
      refine sv (.bool false) hk rfl rfl rfl fun a hk => ?_
      refine sm _ rfl hk rfl rfl rfl fun a hk => ?_
      refine sk hk rfl rfl rfl fun a hk => ?_
      refine sk hk rfl rfl rfl fun a hk => ?_
      refine sk hk rfl rfl rfl fun a hk => ?_
      refine sk hk rfl rfl rfl fun a hk => ?_
      refine sk hk rfl rfl rfl fun a hk => ?_
      refine sv (.bool false) hk rfl rfl rfl fun a hk => ?_
      refine sm _ rfl hk rfl rfl rfl fun a hk => ?_
      refine sk hk rfl rfl rfl fun a hk => ?_
      refine sk hk rfl rfl rfl fun a hk => ?_
      refine sk hk rfl rfl rfl fun a hk => ?_
      refine sk hk rfl rfl rfl fun a hk => ?_
      refine sk hk rfl rfl rfl fun a hk => ?_
      refine sk hk rfl rfl rfl fun a hk => ?_
      refine sk hk rfl rfl rfl fun a hk => ?_
      refine sv (.bool false) hk rfl rfl rfl fun a hk => ?_
      refine sa _ rfl hk rfl rfl rfl fun a hk => ?_
      show wpList _ _ _ [] _ _
      refine wpList_nil ?_
      obtain rfl := Option.some.inj H
      show R8 _ _
      rw [hR8]
      exact ⟨false, rfl, (hk.c 2 rfl hk.k), (hs.pick [] rfl)⟩
  · intro a w hR0
    rw [hR8] at hR0
    obtain ⟨u4, rfl, hk, hs⟩ := hR0
    have H := HL7
    try dsimp only at H
    refine hK3 _ _ ?_
    refine wp_ret ?_
    obtain rfl := Option.some.inj H
    exact fin hk _ [(.bool u4)] rfl ⟨rfl, trivial⟩ ⟨rfl, (hs.pick [] rfl).dnil⟩

noncomputable def impl_within.f (x0 : Int) (x1 : Int) (x2 : Int) : Option (Bool) :=
  (((bif (decide (x1 ≤ x0)) then (some (decide (x0 ≤ x2))) else (some false)) : Option (Bool)).bind fun u3 => (some u3))
set_option maxRecDepth 100000 in
set_option maxHeartbeats 0 in
theorem impl_within_t (w0 : World) (x0 : Int) (x1 : Int) (x2 : Int) (r : Bool) (H : impl_within.f x0 x1 x2 = some r) :
    Calls Try.prog 65 #[.int .i64 x0, .int .i64 x1, .int .i64 x2] w0 (Ret (fun v w => v = .bool r ∧ Sat [] w0 w [] [])) := by
  have hs : Sat [] w0 w0 [] [] := Sat.init w0 [] [] (by simp) (by simp) List.nodup_nil (by simp [blks])
  unfold impl_within.f at H
  refine enter Try.func65 rfl Try.ntmps65 rfl fun a hk => ?_
  apply wp_seq_k; intro K1 hK1
  apply wp_region_lit
  refine sa _ rfl hk rfl rfl rfl fun a hk => ?_
  show wpList _ _ _ [] _ _
  refine wpList_nil ?_
  refine hK1 _ _ ?_
  apply wp_seq_k; intro K2 hK2
  obtain ⟨o4, h5, HL6⟩ := bind_some H
  clear H
  obtain ⟨R7, hR7⟩ : ∃ R : Act → World → Prop, R = fun a w => ∃ (u3 : Bool), u3 = o4 ∧ Kn [(6, (.bool u3))] 15 a ∧ Sat [] w0 w [] [] := ⟨_, rfl⟩
  refine wp_cutq R7 ?_ ?_
  · have H := h5
    apply wp_region_lit
    refine sm _ rfl hk rfl rfl rfl fun a hk => ?_
    refine sm _ rfl hk rfl rfl rfl fun a hk => ?_
    refine sv (.bool (decide (x1 ≤ x0))) hk rfl rfl rfl fun a hk => ?_
    refine sm _ rfl hk rfl rfl rfl fun a hk => ?_
    rcases cond_some H with ⟨c8, H⟩ | ⟨c8, H⟩
    · have hk := hk.lit 10 c8 rfl
      refine sm _ rfl hk rfl rfl rfl fun a hk => ?_
      refine sm _ rfl hk rfl rfl rfl fun a hk => ?_
      refine sv (.bool (decide (x0 ≤ x2))) hk rfl rfl rfl fun a hk => ?_
      refine sv (.bool (decide (x0 ≤ x2))) hk rfl rfl rfl fun a hk => ?_
      refine sa _ rfl hk rfl rfl rfl fun a hk => ?_
      show wpList _ _ _ [] _ _
      refine wpList_nil ?_
      obtain rfl := Option.some.inj H
      show R7 _ _
      rw [hR7]
      exact ⟨(decide (x0 ≤ x2)), rfl, (hk.c 6 rfl hk.k), (hs.pick [] rfl)⟩
    · have hk := hk.lit 10 c8 rfl
      refine sk hk rfl rfl rfl fun a hk => ?_
      refine sk hk rfl rfl rfl fun a hk => ?_
      refine sk hk rfl rfl rfl fun a hk => ?_
      refine sv (.bool false) hk rfl rfl rfl fun a hk => ?_
      refine sa _ rfl hk rfl rfl rfl fun a hk => ?_
      show wpList _ _ _ [] _ _
      refine wpList_nil ?_
      obtain rfl := Option.some.inj H
      show R7 _ _
      rw [hR7]
      exact ⟨false, rfl, (hk.c 6 rfl hk.k), (hs.pick [] rfl)⟩
  · intro a w hR0
    rw [hR7] at hR0
    obtain ⟨u3, rfl, hk, hs⟩ := hR0
    have H := HL6
    try dsimp only at H
    refine hK2 _ _ ?_
    refine wp_ret ?_
    obtain rfl := Option.some.inj H
    exact fin hk _ [(.bool u3)] rfl ⟨rfl, trivial⟩ ⟨rfl, (hs.pick [] rfl).dnil⟩

noncomputable def impl_isDigest.f (x0 : ByteArray) : Option (Bool) :=
  (some ((x0.size : Int) == 32))
set_option maxRecDepth 100000 in
set_option maxHeartbeats 0 in
theorem impl_isDigest_t (w0 : World) (x0 : ByteArray) (r : Bool) (H : impl_isDigest.f x0 = some r) :
    Calls Try.prog 97 #[.string x0] w0 (Ret (fun v w => v = .bool r ∧ Sat [] w0 w [] [])) := by
  have hs : Sat [] w0 w0 [] [] := Sat.init w0 [] [] (by simp) (by simp) List.nodup_nil (by simp [blks])
  unfold impl_isDigest.f at H
  refine enter Try.func97 rfl Try.ntmps97 rfl fun a hk => ?_
  apply wp_seq_k; intro K1 hK1
  apply wp_region_lit
  refine sa _ rfl hk rfl rfl rfl fun a hk => ?_
  show wpList _ _ _ [] _ _
  refine wpList_nil ?_
  refine hK1 _ _ ?_
  apply wp_seq_k; intro K2 hK2
  apply wp_region_lit
  refine sm _ rfl hk rfl rfl rfl fun a hk => ?_
  refine sles rfl hk rfl rfl rfl un9 fun a hk => ?_
  refine sv (.bool ((x0.size : Int) == 32)) hk rfl rfl rfl fun a hk => ?_
  refine sa _ rfl hk rfl rfl rfl fun a hk => ?_
  show wpList _ _ _ [] _ _
  refine wpList_nil ?_
  refine hK2 _ _ ?_
  refine wp_ret ?_
  obtain rfl := Option.some.inj H
  exact fin hk _ [(.bool ((x0.size : Int) == 32))] rfl ⟨rfl, trivial⟩ ⟨rfl, (hs.pick [] rfl).dnil⟩

noncomputable def impl_Register_waiting.f (x0 : S_Register) : Option (Int) :=
  (some (w64 (x0.Count - x0.Epoch)))
set_option maxRecDepth 100000 in
set_option maxHeartbeats 0 in
theorem impl_Register_waiting_t (w0 : World) (x0 : S_Register) (r : Int) (H : impl_Register_waiting.f x0 = some r) :
    Calls Try.prog 98 #[.agg #[.int .i64 x0.Epoch, .int .i64 x0.Side, .int .i64 x0.Count, .int .i64 x0.Boot, .string x0.Base, .string x0.Tip, .string x0.Root]] w0 (Ret (fun v w => v = .int .i64 r ∧ Sat [] w0 w [] [])) := by
  have hs : Sat [] w0 w0 [] [] := Sat.init w0 [] [] (by simp) (by simp) List.nodup_nil (by simp [blks])
  unfold impl_Register_waiting.f at H
  refine enter Try.func98 rfl Try.ntmps98 rfl fun a hk => ?_
  apply wp_seq_k; intro K1 hK1
  apply wp_region_lit
  refine sbx 1 hs rfl hk rfl rfl rfl rfl fun b2 w a hk hs => ?_
  refine sa _ rfl hk rfl rfl rfl fun a hk => ?_
  show wpList _ _ _ [] _ _
  refine wpList_nil ?_
  refine hK1 _ _ ?_
  apply wp_seq_k; intro K3 hK3
  apply wp_region_lit
  refine sf ⟨b2, 2, none⟩ rfl hk rfl rfl rfl fd32_2 rfl fun a hk => ?_
  refine sl rfl hk rfl rfl rfl ag3 (box_cell hs (k := 1) rfl rfl) fun a hk => ?_
  refine sf ⟨b2, 0, none⟩ rfl hk rfl rfl rfl fd32_0 rfl fun a hk => ?_
  refine sl rfl hk rfl rfl rfl ag3 (box_cell hs (k := 1) rfl rfl) fun a hk => ?_
  refine sv (.int .i64 (w64 (x0.Count - x0.Epoch))) hk rfl rfl rfl fun a hk => ?_
  refine sa _ rfl hk rfl rfl rfl fun a hk => ?_
  show wpList _ _ _ [] _ _
  refine wpList_nil ?_
  refine hK3 _ _ ?_
  refine wp_ret ?_
  obtain rfl := Option.some.inj H
  exact fin hk _ [(.int .i64 (w64 (x0.Count - x0.Epoch)))] rfl ⟨rfl, trivial⟩ ⟨rfl, (hs.pick [] rfl).dnil⟩

noncomputable def impl_RegisterOK.f (x0 : S_Register) : Option (Bool) :=
  ((((impl_within.f x0.Epoch 0 1000000).bind fun y9 => (bif y9 then ((impl_within.f x0.Side 0 1).bind fun y12 => (bif y12 then ((impl_within.f x0.Count x0.Epoch (if 1000000 < (w64 (x0.Epoch + 4)) then 1000000 else (w64 (x0.Epoch + 4)))).bind fun y15 => (bif y15 then ((impl_within.f x0.Boot 0 1000000).bind fun y18 => (bif y18 then ((impl_isDigest.f x0.Base).bind fun y21 => (bif y21 then ((impl_isDigest.f x0.Tip).bind fun y24 => (bif y24 then ((impl_isDigest.f x0.Root).bind fun y27 => (bif y27 then ((impl_Register_waiting.f x0).bind fun y30 => (bif (decide (y30 > 0)) then (some true) else (some (x0.Base.toList == x0.Tip.toList)))) else (some false))) else (some false))) else (some false))) else (some false))) else (some false))) else (some false))) else (some false))) : Option (Bool)).bind fun u4 => (some u4))
set_option maxRecDepth 100000 in
set_option maxHeartbeats 0 in
theorem impl_RegisterOK_t (w0 : World) (x0 : S_Register) (r : Bool) (H : impl_RegisterOK.f x0 = some r) :
    Calls Try.prog 50 #[.agg #[.int .i64 x0.Epoch, .int .i64 x0.Side, .int .i64 x0.Count, .int .i64 x0.Boot, .string x0.Base, .string x0.Tip, .string x0.Root]] w0 (Ret (fun v w => v = .bool r ∧ Sat [] w0 w [] [])) := by
  have hs : Sat [] w0 w0 [] [] := Sat.init w0 [] [] (by simp) (by simp) List.nodup_nil (by simp [blks])
  unfold impl_RegisterOK.f at H
  refine enter Try.func50 rfl Try.ntmps50 rfl fun a hk => ?_
  apply wp_seq_k; intro K1 hK1
  apply wp_region_lit
  refine sbx 1 hs rfl hk rfl rfl rfl rfl fun b2 w a hk hs => ?_
  refine sa _ rfl hk rfl rfl rfl fun a hk => ?_
  show wpList _ _ _ [] _ _
  refine wpList_nil ?_
  refine hK1 _ _ ?_
  apply wp_seq_k; intro K3 hK3
  obtain ⟨o5, h6, HL7⟩ := bind_some H
  clear H
  obtain ⟨R8, hR8⟩ : ∃ R : Act → World → Prop, R = fun a w => ∃ (u4 : Bool), u4 = o5 ∧ Kn [(2, (.bool u4))] 54 a ∧ Sat [] w0 w [] [] := ⟨_, rfl⟩
  refine wp_cutq R8 ?_ ?_
  · have H := h6
    apply wp_region_lit
    refine sf ⟨b2, 0, none⟩ rfl hk rfl rfl rfl fd32_0 rfl fun a hk => ?_
    refine sl rfl hk rfl rfl rfl ag3 (box_cell hs (k := 1) rfl rfl) fun a hk => ?_
    obtain ⟨y9, h10, H⟩ := bind_some H
    refine sc rfl en65 hk rfl rfl rfl (impl_within_t _ x0.Epoch 0 1000000 _ h10) ?_
    rintro _ w ⟨rfl, hG⟩ a hk
    have hs := hs.call0 hG
    refine sm _ rfl hk rfl rfl rfl fun a hk => ?_
    rcases cond_some H with ⟨c11, H⟩ | ⟨c11, H⟩
    · have hk := hk.lit 6 c11 rfl
      refine sf ⟨b2, 1, none⟩ rfl hk rfl rfl rfl fd32_1 rfl fun a hk => ?_
      refine sl rfl hk rfl rfl rfl ag3 (box_cell hs (k := 1) rfl rfl) fun a hk => ?_
      obtain ⟨y12, h13, H⟩ := bind_some H
      refine sc rfl en65 hk rfl rfl rfl (impl_within_t _ x0.Side 0 1 _ h13) ?_
      rintro _ w ⟨rfl, hG⟩ a hk
      have hs := hs.call0 hG
      refine sv (.bool y12) hk rfl rfl rfl fun a hk => ?_
      refine sm _ rfl hk rfl rfl rfl fun a hk => ?_
      rcases cond_some H with ⟨c14, H⟩ | ⟨c14, H⟩
      · have hk := hk.lit 11 c14 rfl
        refine sf ⟨b2, 2, none⟩ rfl hk rfl rfl rfl fd32_2 rfl fun a hk => ?_
        refine sl rfl hk rfl rfl rfl ag3 (box_cell hs (k := 1) rfl rfl) fun a hk => ?_
        refine sf ⟨b2, 0, none⟩ rfl hk rfl rfl rfl fd32_0 rfl fun a hk => ?_
        refine sl rfl hk rfl rfl rfl ag3 (box_cell hs (k := 1) rfl rfl) fun a hk => ?_
        refine sf ⟨b2, 0, none⟩ rfl hk rfl rfl rfl fd32_0 rfl fun a hk => ?_
        refine sl rfl hk rfl rfl rfl ag3 (box_cell hs (k := 1) rfl rfl) fun a hk => ?_
        refine sv (.int .i64 (w64 (x0.Epoch + 4))) hk rfl rfl rfl fun a hk => ?_
        refine smn rfl hk rfl rfl rfl rfl fun a hk => ?_
        obtain ⟨y15, h16, H⟩ := bind_some H
        refine sc rfl en65 hk rfl rfl rfl (impl_within_t _ x0.Count x0.Epoch (if 1000000 < (w64 (x0.Epoch + 4)) then 1000000 else (w64 (x0.Epoch + 4))) _ h16) ?_
        rintro _ w ⟨rfl, hG⟩ a hk
        have hs := hs.call0 hG
        refine sv (.bool y15) hk rfl rfl rfl fun a hk => ?_
        refine sm _ rfl hk rfl rfl rfl fun a hk => ?_
        rcases cond_some H with ⟨c17, H⟩ | ⟨c17, H⟩
        · have hk := hk.lit 22 c17 rfl
          refine sf ⟨b2, 3, none⟩ rfl hk rfl rfl rfl fd32_3 rfl fun a hk => ?_
          refine sl rfl hk rfl rfl rfl ag3 (box_cell hs (k := 1) rfl rfl) fun a hk => ?_
          obtain ⟨y18, h19, H⟩ := bind_some H
          refine sc rfl en65 hk rfl rfl rfl (impl_within_t _ x0.Boot 0 1000000 _ h19) ?_
          rintro _ w ⟨rfl, hG⟩ a hk
          have hs := hs.call0 hG
          refine sv (.bool y18) hk rfl rfl rfl fun a hk => ?_
          refine sm _ rfl hk rfl rfl rfl fun a hk => ?_
          rcases cond_some H with ⟨c20, H⟩ | ⟨c20, H⟩
          · have hk := hk.lit 27 c20 rfl
            refine sf ⟨b2, 4, none⟩ rfl hk rfl rfl rfl fd32_4 rfl fun a hk => ?_
            refine sl rfl hk rfl rfl rfl ag9 (box_cell hs (k := 1) rfl rfl) fun a hk => ?_
            obtain ⟨y21, h22, H⟩ := bind_some H
            refine sc rfl en97 hk rfl rfl rfl (impl_isDigest_t _ x0.Base _ h22) ?_
            rintro _ w ⟨rfl, hG⟩ a hk
            have hs := hs.call0 hG
            refine sv (.bool y21) hk rfl rfl rfl fun a hk => ?_
            refine sm _ rfl hk rfl rfl rfl fun a hk => ?_
            rcases cond_some H with ⟨c23, H⟩ | ⟨c23, H⟩
            · have hk := hk.lit 32 c23 rfl
              refine sf ⟨b2, 5, none⟩ rfl hk rfl rfl rfl fd32_5 rfl fun a hk => ?_
              refine sl rfl hk rfl rfl rfl ag9 (box_cell hs (k := 1) rfl rfl) fun a hk => ?_
              obtain ⟨y24, h25, H⟩ := bind_some H
              refine sc rfl en97 hk rfl rfl rfl (impl_isDigest_t _ x0.Tip _ h25) ?_
              rintro _ w ⟨rfl, hG⟩ a hk
              have hs := hs.call0 hG
              refine sv (.bool y24) hk rfl rfl rfl fun a hk => ?_
              refine sm _ rfl hk rfl rfl rfl fun a hk => ?_
              rcases cond_some H with ⟨c26, H⟩ | ⟨c26, H⟩
              · have hk := hk.lit 37 c26 rfl
                refine sf ⟨b2, 6, none⟩ rfl hk rfl rfl rfl fd32_6 rfl fun a hk => ?_
                refine sl rfl hk rfl rfl rfl ag9 (box_cell hs (k := 1) rfl rfl) fun a hk => ?_
                obtain ⟨y27, h28, H⟩ := bind_some H
                refine sc rfl en97 hk rfl rfl rfl (impl_isDigest_t _ x0.Root _ h28) ?_
                rintro _ w ⟨rfl, hG⟩ a hk
                have hs := hs.call0 hG
                refine sv (.bool y27) hk rfl rfl rfl fun a hk => ?_
                refine sm _ rfl hk rfl rfl rfl fun a hk => ?_
                rcases cond_some H with ⟨c29, H⟩ | ⟨c29, H⟩
                · have hk := hk.lit 42 c29 rfl
                  refine sln [.int .i64 x0.Epoch, .int .i64 x0.Side, .int .i64 x0.Count, .int .i64 x0.Boot, .string x0.Base, .string x0.Tip, .string x0.Root] rfl hk rfl rfl rfl ag32 sz32 (box_cells hs (k := 1) rfl) fun a hk => ?_
                  obtain ⟨y30, h31, H⟩ := bind_some H
                  refine sc rfl en98 hk rfl rfl rfl (impl_Register_waiting_t _ x0 _ h31) ?_
                  rintro _ w ⟨rfl, hG⟩ a hk
                  have hs := hs.call0 hG
                  refine sv (.bool (decide (y30 > 0))) hk rfl rfl rfl fun a hk => ?_
                  refine sm _ rfl hk rfl rfl rfl fun a hk => ?_
                  rcases cond_some H with ⟨c32, H⟩ | ⟨c32, H⟩
                  · have hk := hk.lit 46 c32 rfl
                    refine sk hk rfl rfl rfl fun a hk => ?_
                    refine sk hk rfl rfl rfl fun a hk => ?_
                    refine sk hk rfl rfl rfl fun a hk => ?_
                    refine sk hk rfl rfl rfl fun a hk => ?_
                    refine sk hk rfl rfl rfl fun a hk => ?_
                    refine sv (.bool true) hk rfl rfl rfl fun a hk => ?_
                    refine sv (.bool true) hk rfl rfl rfl fun a hk => ?_
                    refine sa _ rfl hk rfl rfl rfl fun a hk => ?_
                    show wpList _ _ _ [] _ _
                    refine wpList_nil ?_
                    obtain rfl := Option.some.inj H
                    show R8 _ _
                    rw [hR8]
                    exact ⟨true, rfl, (hk.c 2 rfl hk.k), (hs.pick [] rfl)⟩
                  · have hk := hk.lit 46 c32 rfl
                    refine sf ⟨b2, 4, none⟩ rfl hk rfl rfl rfl fd32_4 rfl fun a hk => ?_
                    refine sl rfl hk rfl rfl rfl ag9 (box_cell hs (k := 1) rfl rfl) fun a hk => ?_
                    refine sf ⟨b2, 5, none⟩ rfl hk rfl rfl rfl fd32_5 rfl fun a hk => ?_
                    refine sl rfl hk rfl rfl rfl ag9 (box_cell hs (k := 1) rfl rfl) fun a hk => ?_
                    refine sv (.bool (x0.Base.toList == x0.Tip.toList)) hk rfl rfl rfl fun a hk => ?_
                    refine sv (.bool (x0.Base.toList == x0.Tip.toList)) hk rfl rfl rfl fun a hk => ?_
                    refine sv (.bool (x0.Base.toList == x0.Tip.toList)) hk rfl rfl rfl fun a hk => ?_
                    refine sa _ rfl hk rfl rfl rfl fun a hk => ?_
                    show wpList _ _ _ [] _ _
                    refine wpList_nil ?_
                    obtain rfl := Option.some.inj H
                    show R8 _ _
                    rw [hR8]
                    exact ⟨(x0.Base.toList == x0.Tip.toList), rfl, (hk.c 2 rfl hk.k), (hs.pick [] rfl)⟩
                · have hk := hk.lit 42 c29 rfl
                  refine sk hk rfl rfl rfl fun a hk => ?_
                  refine sk hk rfl rfl rfl fun a hk => ?_
                  refine sk hk rfl rfl rfl fun a hk => ?_
                  refine sk hk rfl rfl rfl fun a hk => ?_
                  refine sk hk rfl rfl rfl fun a hk => ?_
                  refine sk hk rfl rfl rfl fun a hk => ?_
                  refine sk hk rfl rfl rfl fun a hk => ?_
                  refine sk hk rfl rfl rfl fun a hk => ?_
                  refine sk hk rfl rfl rfl fun a hk => ?_
                  refine sk hk rfl rfl rfl fun a hk => ?_
                  refine sv (.bool false) hk rfl rfl rfl fun a hk => ?_
                  refine sa _ rfl hk rfl rfl rfl fun a hk => ?_
                  show wpList _ _ _ [] _ _
                  refine wpList_nil ?_
                  obtain rfl := Option.some.inj H
                  show R8 _ _
                  rw [hR8]
                  exact ⟨false, rfl, (hk.c 2 rfl hk.k), (hs.pick [] rfl)⟩
              · have hk := hk.lit 37 c26 rfl
                refine sk hk rfl rfl rfl fun a hk => ?_
                refine sk hk rfl rfl rfl fun a hk => ?_
                refine sk hk rfl rfl rfl fun a hk => ?_
                refine sv (.bool false) hk rfl rfl rfl fun a hk => ?_
                refine sm _ rfl hk rfl rfl rfl fun a hk => ?_
                refine sk hk rfl rfl rfl fun a hk => ?_
                refine sk hk rfl rfl rfl fun a hk => ?_
                refine sk hk rfl rfl rfl fun a hk => ?_
                refine sk hk rfl rfl rfl fun a hk => ?_
                refine sk hk rfl rfl rfl fun a hk => ?_
                refine sk hk rfl rfl rfl fun a hk => ?_
                refine sk hk rfl rfl rfl fun a hk => ?_
                refine sk hk rfl rfl rfl fun a hk => ?_
                refine sk hk rfl rfl rfl fun a hk => ?_
                refine sk hk rfl rfl rfl fun a hk => ?_
                refine sv (.bool false) hk rfl rfl rfl fun a hk => ?_
                refine sa _ rfl hk rfl rfl rfl fun a hk => ?_
                show wpList _ _ _ [] _ _
                refine wpList_nil ?_
                obtain rfl := Option.some.inj H
                show R8 _ _
                rw [hR8]
                exact ⟨false, rfl, (hk.c 2 rfl hk.k), (hs.pick [] rfl)⟩
            · have hk := hk.lit 32 c23 rfl
              refine sk hk rfl rfl rfl fun a hk => ?_
              refine sk hk rfl rfl rfl fun a hk => ?_
              refine sk hk rfl rfl rfl fun a hk => ?_
              refine sv (.bool false) hk rfl rfl rfl fun a hk => ?_
              refine sm _ rfl hk rfl rfl rfl fun a hk => ?_
              refine sk hk rfl rfl rfl fun a hk => ?_
              refine sk hk rfl rfl rfl fun a hk => ?_
              refine sk hk rfl rfl rfl fun a hk => ?_
              refine sv (.bool false) hk rfl rfl rfl fun a hk => ?_
              refine sm _ rfl hk rfl rfl rfl fun a hk => ?_
              refine sk hk rfl rfl rfl fun a hk => ?_
              refine sk hk rfl rfl rfl fun a hk => ?_
              refine sk hk rfl rfl rfl fun a hk => ?_
              refine sk hk rfl rfl rfl fun a hk => ?_
              refine sk hk rfl rfl rfl fun a hk => ?_
              refine sk hk rfl rfl rfl fun a hk => ?_
              refine sk hk rfl rfl rfl fun a hk => ?_
              refine sk hk rfl rfl rfl fun a hk => ?_
              refine sk hk rfl rfl rfl fun a hk => ?_
              refine sk hk rfl rfl rfl fun a hk => ?_
              refine sv (.bool false) hk rfl rfl rfl fun a hk => ?_
              refine sa _ rfl hk rfl rfl rfl fun a hk => ?_
              show wpList _ _ _ [] _ _
              refine wpList_nil ?_
              obtain rfl := Option.some.inj H
              show R8 _ _
              rw [hR8]
              exact ⟨false, rfl, (hk.c 2 rfl hk.k), (hs.pick [] rfl)⟩
          · have hk := hk.lit 27 c20 rfl
            refine sk hk rfl rfl rfl fun a hk => ?_
            refine sk hk rfl rfl rfl fun a hk => ?_
            refine sk hk rfl rfl rfl fun a hk => ?_
            refine sv (.bool false) hk rfl rfl rfl fun a hk => ?_
            refine sm _ rfl hk rfl rfl rfl fun a hk => ?_
            refine sk hk rfl rfl rfl fun a hk => ?_
            refine sk hk rfl rfl rfl fun a hk => ?_
            refine sk hk rfl rfl rfl fun a hk => ?_
            refine sv (.bool false) hk rfl rfl rfl fun a hk => ?_
            refine sm _ rfl hk rfl rfl rfl fun a hk => ?_
            refine sk hk rfl rfl rfl fun a hk => ?_
            refine sk hk rfl rfl rfl fun a hk => ?_
            refine sk hk rfl rfl rfl fun a hk => ?_
            refine sv (.bool false) hk rfl rfl rfl fun a hk => ?_
            refine sm _ rfl hk rfl rfl rfl fun a hk => ?_
            refine sk hk rfl rfl rfl fun a hk => ?_
            refine sk hk rfl rfl rfl fun a hk => ?_
            refine sk hk rfl rfl rfl fun a hk => ?_
            refine sk hk rfl rfl rfl fun a hk => ?_
            refine sk hk rfl rfl rfl fun a hk => ?_
            refine sk hk rfl rfl rfl fun a hk => ?_
            refine sk hk rfl rfl rfl fun a hk => ?_
            refine sk hk rfl rfl rfl fun a hk => ?_
            refine sk hk rfl rfl rfl fun a hk => ?_
            refine sk hk rfl rfl rfl fun a hk => ?_
            refine sv (.bool false) hk rfl rfl rfl fun a hk => ?_
            refine sa _ rfl hk rfl rfl rfl fun a hk => ?_
            show wpList _ _ _ [] _ _
            refine wpList_nil ?_
            obtain rfl := Option.some.inj H
            show R8 _ _
            rw [hR8]
            exact ⟨false, rfl, (hk.c 2 rfl hk.k), (hs.pick [] rfl)⟩
        · have hk := hk.lit 22 c17 rfl
          refine sk hk rfl rfl rfl fun a hk => ?_
          refine sk hk rfl rfl rfl fun a hk => ?_
          refine sk hk rfl rfl rfl fun a hk => ?_
          refine sv (.bool false) hk rfl rfl rfl fun a hk => ?_
          refine sm _ rfl hk rfl rfl rfl fun a hk => ?_
          refine sk hk rfl rfl rfl fun a hk => ?_
          refine sk hk rfl rfl rfl fun a hk => ?_
          refine sk hk rfl rfl rfl fun a hk => ?_
          refine sv (.bool false) hk rfl rfl rfl fun a hk => ?_
          refine sm _ rfl hk rfl rfl rfl fun a hk => ?_
          refine sk hk rfl rfl rfl fun a hk => ?_
          refine sk hk rfl rfl rfl fun a hk => ?_
          refine sk hk rfl rfl rfl fun a hk => ?_
          refine sv (.bool false) hk rfl rfl rfl fun a hk => ?_
          refine sm _ rfl hk rfl rfl rfl fun a hk => ?_
          refine sk hk rfl rfl rfl fun a hk => ?_
          refine sk hk rfl rfl rfl fun a hk => ?_
          refine sk hk rfl rfl rfl fun a hk => ?_
          refine sv (.bool false) hk rfl rfl rfl fun a hk => ?_
          refine sm _ rfl hk rfl rfl rfl fun a hk => ?_
          refine sk hk rfl rfl rfl fun a hk => ?_
          refine sk hk rfl rfl rfl fun a hk => ?_
          refine sk hk rfl rfl rfl fun a hk => ?_
          refine sk hk rfl rfl rfl fun a hk => ?_
          refine sk hk rfl rfl rfl fun a hk => ?_
          refine sk hk rfl rfl rfl fun a hk => ?_
          refine sk hk rfl rfl rfl fun a hk => ?_
          refine sk hk rfl rfl rfl fun a hk => ?_
          refine sk hk rfl rfl rfl fun a hk => ?_
          refine sk hk rfl rfl rfl fun a hk => ?_
          refine sv (.bool false) hk rfl rfl rfl fun a hk => ?_
          refine sa _ rfl hk rfl rfl rfl fun a hk => ?_
          show wpList _ _ _ [] _ _
          refine wpList_nil ?_
          obtain rfl := Option.some.inj H
          show R8 _ _
          rw [hR8]
          exact ⟨false, rfl, (hk.c 2 rfl hk.k), (hs.pick [] rfl)⟩
      · have hk := hk.lit 11 c14 rfl
        refine sk hk rfl rfl rfl fun a hk => ?_
        refine sk hk rfl rfl rfl fun a hk => ?_
        refine sk hk rfl rfl rfl fun a hk => ?_
        refine sk hk rfl rfl rfl fun a hk => ?_
        refine sk hk rfl rfl rfl fun a hk => ?_
        refine sk hk rfl rfl rfl fun a hk => ?_
        refine sk hk rfl rfl rfl fun a hk => ?_
        refine sk hk rfl rfl rfl fun a hk => ?_
        refine sk hk rfl rfl rfl fun a hk => ?_
        refine sv (.bool false) hk rfl rfl rfl fun a hk => ?_
        refine sm _ rfl hk rfl rfl rfl fun a hk => ?_
        refine sk hk rfl rfl rfl fun a hk => ?_
        refine sk hk rfl rfl rfl fun a hk => ?_
        refine sk hk rfl rfl rfl fun a hk => ?_
        refine sv (.bool false) hk rfl rfl rfl fun a hk => ?_
        refine sm _ rfl hk rfl rfl rfl fun a hk => ?_
        refine sk hk rfl rfl rfl fun a hk => ?_
        refine sk hk rfl rfl rfl fun a hk => ?_
        refine sk hk rfl rfl rfl fun a hk => ?_
        refine sv (.bool false) hk rfl rfl rfl fun a hk => ?_
        refine sm _ rfl hk rfl rfl rfl fun a hk => ?_
        refine sk hk rfl rfl rfl fun a hk => ?_
        refine sk hk rfl rfl rfl fun a hk => ?_
        refine sk hk rfl rfl rfl fun a hk => ?_
        refine sv (.bool false) hk rfl rfl rfl fun a hk => ?_
        refine sm _ rfl hk rfl rfl rfl fun a hk => ?_
        refine sk hk rfl rfl rfl fun a hk => ?_
        refine sk hk rfl rfl rfl fun a hk => ?_
        refine sk hk rfl rfl rfl fun a hk => ?_
        refine sv (.bool false) hk rfl rfl rfl fun a hk => ?_
        refine sm _ rfl hk rfl rfl rfl fun a hk => ?_
        refine sk hk rfl rfl rfl fun a hk => ?_
        refine sk hk rfl rfl rfl fun a hk => ?_
        refine sk hk rfl rfl rfl fun a hk => ?_
        refine sk hk rfl rfl rfl fun a hk => ?_
        refine sk hk rfl rfl rfl fun a hk => ?_
        refine sk hk rfl rfl rfl fun a hk => ?_
        refine sk hk rfl rfl rfl fun a hk => ?_
        refine sk hk rfl rfl rfl fun a hk => ?_
        refine sk hk rfl rfl rfl fun a hk => ?_
        refine sk hk rfl rfl rfl fun a hk => ?_
        refine sv (.bool false) hk rfl rfl rfl fun a hk => ?_
        refine sa _ rfl hk rfl rfl rfl fun a hk => ?_
        show wpList _ _ _ [] _ _
        refine wpList_nil ?_
        obtain rfl := Option.some.inj H
        show R8 _ _
        rw [hR8]
        exact ⟨false, rfl, (hk.c 2 rfl hk.k), (hs.pick [] rfl)⟩
    · have hk := hk.lit 6 c11 rfl
      refine sk hk rfl rfl rfl fun a hk => ?_
      refine sk hk rfl rfl rfl fun a hk => ?_
      refine sk hk rfl rfl rfl fun a hk => ?_
      refine sv (.bool false) hk rfl rfl rfl fun a hk => ?_
      refine sm _ rfl hk rfl rfl rfl fun a hk => ?_
      refine sk hk rfl rfl rfl fun a hk => ?_
      refine sk hk rfl rfl rfl fun a hk => ?_
      refine sk hk rfl rfl rfl fun a hk => ?_
      refine sk hk rfl rfl rfl fun a hk => ?_
      refine sk hk rfl rfl rfl fun a hk => ?_
      refine sk hk rfl rfl rfl fun a hk => ?_
      refine sk hk rfl rfl rfl fun a hk => ?_
      refine sk hk rfl rfl rfl fun a hk => ?_
      refine sk hk rfl rfl rfl fun a hk => ?_
      refine sv (.bool false) hk rfl rfl rfl fun a hk => ?_
      refine sm _ rfl hk rfl rfl rfl fun a hk => ?_
      refine sk hk rfl rfl rfl fun a hk => ?_
      refine sk hk rfl rfl rfl fun a hk => ?_
      refine sk hk rfl rfl rfl fun a hk => ?_
      refine sv (.bool false) hk rfl rfl rfl fun a hk => ?_
      refine sm _ rfl hk rfl rfl rfl fun a hk => ?_
      refine sk hk rfl rfl rfl fun a hk => ?_
      refine sk hk rfl rfl rfl fun a hk => ?_
      refine sk hk rfl rfl rfl fun a hk => ?_
      refine sv (.bool false) hk rfl rfl rfl fun a hk => ?_
      refine sm _ rfl hk rfl rfl rfl fun a hk => ?_
      refine sk hk rfl rfl rfl fun a hk => ?_
      refine sk hk rfl rfl rfl fun a hk => ?_
      refine sk hk rfl rfl rfl fun a hk => ?_
      refine sv (.bool false) hk rfl rfl rfl fun a hk => ?_
      refine sm _ rfl hk rfl rfl rfl fun a hk => ?_
      refine sk hk rfl rfl rfl fun a hk => ?_
      refine sk hk rfl rfl rfl fun a hk => ?_
      refine sk hk rfl rfl rfl fun a hk => ?_
      refine sv (.bool false) hk rfl rfl rfl fun a hk => ?_
      refine sm _ rfl hk rfl rfl rfl fun a hk => ?_
      refine sk hk rfl rfl rfl fun a hk => ?_
      refine sk hk rfl rfl rfl fun a hk => ?_
      refine sk hk rfl rfl rfl fun a hk => ?_
      refine sk hk rfl rfl rfl fun a hk => ?_
      refine sk hk rfl rfl rfl fun a hk => ?_
      refine sk hk rfl rfl rfl fun a hk => ?_
      refine sk hk rfl rfl rfl fun a hk => ?_
      refine sk hk rfl rfl rfl fun a hk => ?_
      refine sk hk rfl rfl rfl fun a hk => ?_
      refine sk hk rfl rfl rfl fun a hk => ?_
      refine sv (.bool false) hk rfl rfl rfl fun a hk => ?_
      refine sa _ rfl hk rfl rfl rfl fun a hk => ?_
      show wpList _ _ _ [] _ _
      refine wpList_nil ?_
      obtain rfl := Option.some.inj H
      show R8 _ _
      rw [hR8]
      exact ⟨false, rfl, (hk.c 2 rfl hk.k), (hs.pick [] rfl)⟩
  · intro a w hR0
    rw [hR8] at hR0
    obtain ⟨u4, rfl, hk, hs⟩ := hR0
    have H := HL7
    try dsimp only at H
    refine hK3 _ _ ?_
    refine wp_ret ?_
    obtain rfl := Option.some.inj H
    exact fin hk _ [(.bool u4)] rfl ⟨rfl, trivial⟩ ⟨rfl, (hs.pick [] rfl).dnil⟩

noncomputable def impl_isContent.f (x0 : ByteArray) : Option (Bool) :=
  (some (decide ((x0.size : Int) ≤ 700)))
set_option maxRecDepth 100000 in
set_option maxHeartbeats 0 in
theorem impl_isContent_t (w0 : World) (x0 : ByteArray) (r : Bool) (H : impl_isContent.f x0 = some r) :
    Calls Try.prog 89 #[.string x0] w0 (Ret (fun v w => v = .bool r ∧ Sat [] w0 w [] [])) := by
  have hs : Sat [] w0 w0 [] [] := Sat.init w0 [] [] (by simp) (by simp) List.nodup_nil (by simp [blks])
  unfold impl_isContent.f at H
  refine enter Try.func89 rfl Try.ntmps89 rfl fun a hk => ?_
  apply wp_seq_k; intro K1 hK1
  apply wp_region_lit
  refine sa _ rfl hk rfl rfl rfl fun a hk => ?_
  show wpList _ _ _ [] _ _
  refine wpList_nil ?_
  refine hK1 _ _ ?_
  apply wp_seq_k; intro K2 hK2
  apply wp_region_lit
  refine sm _ rfl hk rfl rfl rfl fun a hk => ?_
  refine sles rfl hk rfl rfl rfl un9 fun a hk => ?_
  refine sv (.bool (decide ((x0.size : Int) ≤ 700))) hk rfl rfl rfl fun a hk => ?_
  refine sa _ rfl hk rfl rfl rfl fun a hk => ?_
  show wpList _ _ _ [] _ _
  refine wpList_nil ?_
  refine hK2 _ _ ?_
  refine wp_ret ?_
  obtain rfl := Option.some.inj H
  exact fin hk _ [(.bool (decide ((x0.size : Int) ≤ 700)))] rfl ⟨rfl, trivial⟩ ⟨rfl, (hs.pick [] rfl).dnil⟩

noncomputable def slices_IndexFunc_string_string.s0 (l0 : List ByteArray) (q1 : ByteArray → Option (Bool)) (u4 : Int) : Option ((Int) ⊕ Ex (Unit) (Int)) :=
  (bif (decide (u4 < (l0.length : Int))) then (if 0 ≤ u4 ∧ u4 < (l0.length : Int) then ((q1 (l0.getD u4.toNat ByteArray.empty)).bind fun y23 => (bif y23 then (some (.inr (.ret u4))) else (some (.inl (w64 (u4 + 1)))))) else none) else (some (.inr (.out ()))))
noncomputable def slices_IndexFunc_string_string.f (l0 : List ByteArray) (q1 : ByteArray → Option (Bool)) : Option (Int) :=
  ((loopO (fun s => slices_IndexFunc_string_string.s0 l0 q1 s) 0).bind fun o => match o with | .out _ => (some (-1)) | .ret r => (some r))
set_option maxRecDepth 100000 in
set_option maxHeartbeats 0 in
theorem slices_IndexFunc_string_string_t (w0 : World) (A0_ : Option Addr) (p0_ : Nat) (l0 : List ByteArray) (k0_ : Chunk) (v0_ : View Lay.str A0_ p0_ l0 k0_) (w0_ : Has w0 k0_) (f1_ : FuncId) (c1_ : List Value) (e1_ : Enters Try.prog f1_) (q1 : ByteArray → Option (Bool)) (k1_ : Chunk) (t1_ : ∀ w, Has w k1_ → ∀ (z0 : ByteArray) (r : Bool), q1 z0 = some r → Calls Try.prog f1_ (([.string z0] : List Value) ++ c1_).toArray w (Ret (fun v w2 => v = .bool r ∧ Sat [] w w2 [] []))) (w1_ : Has w0 k1_) (r : Int) (H : slices_IndexFunc_string_string.f l0 q1 = some r) :
    Calls Try.prog 149 #[.slice A0_ l0.length p0_, .func (.func f1_) #[] c1_.toArray] w0 (Ret (fun v w => v = .int .i64 r ∧ Sat [] w0 w [] [])) := by
  have hs : Sat [] w0 w0 [(1, k0_), (2, k1_)] [] := Sat.init w0 [(1, k0_), (2, k1_)] [] (by simp only [List.mem_cons, List.not_mem_nil, or_false]; rintro x (rfl | rfl) <;> assumption) (by simp) List.nodup_nil (by simp [blks])
  unfold slices_IndexFunc_string_string.f at H
  refine enter Try.func149 rfl Try.ntmps149 rfl fun a hk => ?_
  apply wp_seq_k; intro K1 hK1
  apply wp_region_lit
  refine sa _ rfl hk rfl rfl rfl fun a hk => ?_
  show wpList _ _ _ [] _ _
  refine wpList_nil ?_
  refine hK1 _ _ ?_
  apply wp_seq_k; intro K2 hK2
  apply wp_seq_k; intro K3 hK3
  apply wp_region_lit
  refine sm _ rfl hk rfl rfl rfl fun a hk => ?_
  refine sle rfl hk rfl rfl rfl un24 fun a hk => ?_
  refine sm _ rfl hk rfl rfl rfl fun a hk => ?_
  show wpList _ _ _ [] _ _
  refine wpList_nil ?_
  refine hK3 _ _ ?_
  obtain ⟨o5, h6, HL7⟩ := bind_some H
  clear H
  obtain ⟨R8, hR8⟩ : ∃ R : Act → World → Prop, R = fun a w => o5 = .out () ∧ Kn [] 19 a ∧ Sat [] w0 w [(1, k0_), (2, k1_)] [] := ⟨_, rfl⟩
  refine wp_cutq R8 ?_ ?_
  · refine wp_block ?_
    obtain ⟨fu10, h6⟩ := loopO_some h6
    obtain ⟨I9, hI9⟩ : ∃ I : Nat → Act → World → Prop, I = fun fu a w => ∃ (u4 : Int), loopN (fun s => slices_IndexFunc_string_string.s0 l0 q1 s) fu u4 = some o5 ∧ Kn [(0, (.slice A0_ l0.length p0_)), (1, (.func (.func f1_) #[] c1_.toArray)), (7, (.int .i64 (l0.length : Int))), (8, (.int .i64 u4))] 19 a ∧ Sat [] w0 w [(1, k0_), (2, k1_)] [] := ⟨_, rfl⟩
    refine wp_loop_ghost I9 fu10 ?_ ?_
    · rw [hI9]
      exact ⟨0, h6, (hk.c 0 rfl (hk.c 1 rfl (hk.c 7 rfl (hk.c 8 rfl hk.k)))), (hs.pick [] rfl)⟩
    · clear h6 hk hs
      intro fu10 a w hI0
      rw [hI9] at hI0
      obtain ⟨u4, hi, hk, hs⟩ := hI0
      obtain ⟨x11, H, h12⟩ := loop_round hi
      try dsimp only at H
      unfold slices_IndexFunc_string_string.s0 at H
      apply wp_seq_k; intro K13 hK13
      apply wp_region_lit
      refine sv (.bool (decide (u4 < (l0.length : Int)))) hk rfl rfl rfl fun a hk => ?_
      show wpList _ _ _ [] _ _
      refine wpList_nil ?_
      refine hK13 _ _ ?_
      apply wp_seq_k; intro K14 hK14
      rcases cond_some H with ⟨c15, H⟩ | ⟨c15, H⟩
      · have hk := hk.lit 9 c15 rfl
        refine cnd_true hk rfl rfl ?_
        refine wp_skip ?_
        refine hK14 _ _ ?_
        apply wp_seq_k; intro K16 hK16
        refine wp_block ?_
        apply wp_seq_k; intro K17 hK17
        apply wp_region_lit
        refine sm _ rfl hk rfl rfl rfl fun a hk => ?_
        refine sa _ rfl hk rfl rfl rfl fun a hk => ?_
        show wpList _ _ _ [] _ _
        refine wpList_nil ?_
        refine hK17 _ _ ?_
        apply wp_seq_k; intro K18 hK18
        apply wp_region_lit
        refine sm _ rfl hk rfl rfl rfl fun a hk => ?_
        refine sm _ rfl hk rfl rfl rfl fun a hk => ?_
        refine sm _ rfl hk rfl rfl rfl fun a hk => ?_
        rcases ite_some H with ⟨c19, H⟩ | ⟨_, H⟩
        rotate_left
        · cases H
        obtain ⟨b20, q21, hAc19⟩ := (v0_).some_ u4 c19.1 c19.2
        refine si rfl hk rfl rfl rfl rfl un24 sz9 c19.1 c19.2 hAc19 fun a hk => ?_
        obtain ⟨_, rfl, e22⟩ := (v0_).at_ ByteArray.empty u4 c19.1 c19.2
        refine sl (v := (.string (l0.getD u4.toNat ByteArray.empty))) rfl hk rfl rfl rfl ag9 ((e22 0 _ rfl).cell (hs.hasD (k := 1) rfl)) fun a hk => ?_
        obtain ⟨y23, h24, H⟩ := bind_some H
        refine scv (vs := ([(.string (l0.getD u4.toNat ByteArray.empty))] : List Value) ++ c1_) rfl rfl e1_ hk rfl rfl rfl (t1_ _ (hs.hasD (k := 2) rfl) (l0.getD u4.toNat ByteArray.empty) _ h24) ?_
        rintro _ w ⟨rfl, hG⟩ a hk
        have hs := hs.call0 hG
        show wpList _ _ _ [] _ _
        refine wpList_nil ?_
        refine hK18 _ _ ?_
        rcases cond_some H with ⟨c25, H⟩ | ⟨c25, H⟩
        · have hk := hk.lit 16 c25 rfl
          refine cnd_true hk rfl rfl ?_
          apply wp_seq_k; intro K26 hK26
          apply wp_region_lit
          refine sm _ rfl hk rfl rfl rfl fun a hk => ?_
          refine sa _ rfl hk rfl rfl rfl fun a hk => ?_
          show wpList _ _ _ [] _ _
          refine wpList_nil ?_
          refine hK26 _ _ ?_
          refine wp_ret ?_
          obtain rfl := Option.some.inj H
          have ho5 := h12
          try dsimp only at ho5
          subst ho5
          have H := HL7
          try dsimp only at H
          obtain rfl := Option.some.inj H
          exact fin hk _ [(.int .i64 u4)] rfl ⟨rfl, trivial⟩ ⟨rfl, (hs.pick [] rfl).dnil⟩
        · have hk := hk.lit 16 c25 rfl
          refine cnd_false hk rfl rfl ?_
          refine wp_skip ?_
          refine hK16 _ _ ?_
          apply wp_region_lit
          refine sv (.int .i64 (w64 (u4 + 1))) hk rfl rfl rfl fun a hk => ?_
          refine sm _ rfl hk rfl rfl rfl fun a hk => ?_
          show wpList _ _ _ [] _ _
          refine wpList_nil ?_
          obtain rfl := Option.some.inj H
          obtain ⟨m27, hmm27, h12⟩ := h12
          show ∃ n', n' < _ ∧ I9 n' _ _
          refine ⟨m27, hmm27, ?_⟩
          rw [hI9]
          exact ⟨(w64 (u4 + 1)), h12, (hk.c 0 rfl (hk.c 1 rfl (hk.c 7 rfl (hk.c 8 rfl hk.k)))), (hs.pick [] rfl)⟩
      · have hk := hk.lit 9 c15 rfl
        refine cnd_false hk rfl rfl ?_
        refine wp_exit ?_
        obtain rfl := Option.some.inj H
        show R8 _ _
        rw [hR8]
        exact ⟨h12.symm, hk.k, (hs.pick [] rfl)⟩
  · intro a w hR0
    rw [hR8] at hR0
    obtain ⟨rfl, hk, hs⟩ := hR0
    have H := HL7
    try dsimp only at H
    refine hK2 _ _ ?_
    apply wp_seq_k; intro K28 hK28
    apply wp_region_lit
    refine sa _ rfl hk rfl rfl rfl fun a hk => ?_
    show wpList _ _ _ [] _ _
    refine wpList_nil ?_
    refine hK28 _ _ ?_
    refine wp_ret ?_
    obtain rfl := Option.some.inj H
    exact fin hk _ [(.int .i64 (-1))] rfl ⟨rfl, trivial⟩ ⟨rfl, (hs.pick [] rfl).dnil⟩

noncomputable def slices_ContainsFunc_string_string.f (l0 : List ByteArray) (q1 : ByteArray → Option (Bool)) : Option (Bool) :=
  ((slices_IndexFunc_string_string.f l0 q1).bind fun y3 => (some (decide (y3 ≥ 0))))
set_option maxRecDepth 100000 in
set_option maxHeartbeats 0 in
theorem slices_ContainsFunc_string_string_t (w0 : World) (A0_ : Option Addr) (p0_ : Nat) (l0 : List ByteArray) (k0_ : Chunk) (v0_ : View Lay.str A0_ p0_ l0 k0_) (w0_ : Has w0 k0_) (f1_ : FuncId) (c1_ : List Value) (e1_ : Enters Try.prog f1_) (q1 : ByteArray → Option (Bool)) (k1_ : Chunk) (t1_ : ∀ w, Has w k1_ → ∀ (z0 : ByteArray) (r : Bool), q1 z0 = some r → Calls Try.prog f1_ (([.string z0] : List Value) ++ c1_).toArray w (Ret (fun v w2 => v = .bool r ∧ Sat [] w w2 [] []))) (w1_ : Has w0 k1_) (r : Bool) (H : slices_ContainsFunc_string_string.f l0 q1 = some r) :
    Calls Try.prog 136 #[.slice A0_ l0.length p0_, .func (.func f1_) #[] c1_.toArray] w0 (Ret (fun v w => v = .bool r ∧ Sat [] w0 w [] [])) := by
  have hs : Sat [] w0 w0 [(1, k0_), (2, k1_)] [] := Sat.init w0 [(1, k0_), (2, k1_)] [] (by simp only [List.mem_cons, List.not_mem_nil, or_false]; rintro x (rfl | rfl) <;> assumption) (by simp) List.nodup_nil (by simp [blks])
  unfold slices_ContainsFunc_string_string.f at H
  refine enter Try.func136 rfl Try.ntmps136 rfl fun a hk => ?_
  apply wp_seq_k; intro K1 hK1
  apply wp_region_lit
  refine sa _ rfl hk rfl rfl rfl fun a hk => ?_
  show wpList _ _ _ [] _ _
  refine wpList_nil ?_
  refine hK1 _ _ ?_
  apply wp_seq_k; intro K2 hK2
  apply wp_region_lit
  refine sm _ rfl hk rfl rfl rfl fun a hk => ?_
  refine sm _ rfl hk rfl rfl rfl fun a hk => ?_
  obtain ⟨y3, h4, H⟩ := bind_some H
  refine sc rfl en149 hk rfl rfl rfl (slices_IndexFunc_string_string_t _ A0_ p0_ l0 _ v0_ (hs.hasD (k := 1) rfl) f1_ c1_ e1_ q1 k1_ t1_ (hs.hasD (k := 2) rfl) _ h4) ?_
  rintro _ w ⟨rfl, hG⟩ a hk
  have hs := hs.call0 hG
  refine sv (.bool (decide (y3 ≥ 0))) hk rfl rfl rfl fun a hk => ?_
  refine sa _ rfl hk rfl rfl rfl fun a hk => ?_
  show wpList _ _ _ [] _ _
  refine wpList_nil ?_
  refine hK2 _ _ ?_
  refine wp_ret ?_
  obtain rfl := Option.some.inj H
  exact fin hk _ [(.bool (decide (y3 ≥ 0)))] rfl ⟨rfl, trivial⟩ ⟨rfl, (hs.pick [] rfl).dnil⟩

noncomputable def impl_areAll_string__c1.f (x0 : ByteArray) (q1 : ByteArray → Option (Bool)) : Option (Bool) :=
  ((q1 x0).bind fun y3 => (some (!y3)))
set_option maxRecDepth 100000 in
set_option maxHeartbeats 0 in
theorem impl_areAll_string__c1_t (w0 : World) (x0 : ByteArray) (b1_ : Nat) (f1_ : FuncId) (c1_ : List Value) (e1_ : Enters Try.prog f1_) (q1 : ByteArray → Option (Bool)) (k1_ : Chunk) (t1_ : ∀ w, Has w k1_ → ∀ (z0 : ByteArray) (r : Bool), q1 z0 = some r → Calls Try.prog f1_ (([.string z0] : List Value) ++ c1_).toArray w (Ret (fun v w2 => v = .bool r ∧ Sat [] w w2 [] []))) (w1_ : Has w0 k1_) (h1_ : Has w0 [(b1_, .cells #[.func (.func f1_) #[] c1_.toArray] 108 (0, 0))]) (r : Bool) (H : impl_areAll_string__c1.f x0 q1 = some r) :
    Calls Try.prog 137 #[.string x0, .pointer (some ⟨b1_, 0, none⟩)] w0 (Ret (fun v w => v = .bool r ∧ Sat [] w0 w [] [])) := by
  have hs : Sat [] w0 w0 [(2, k1_), (1, [(b1_, .cells #[.func (.func f1_) #[] c1_.toArray] 108 (0, 0))])] [] := Sat.init w0 [(2, k1_), (1, [(b1_, .cells #[.func (.func f1_) #[] c1_.toArray] 108 (0, 0))])] [] (by simp only [List.mem_cons, List.not_mem_nil, or_false]; rintro x (rfl | rfl) <;> assumption) (by simp) List.nodup_nil (by simp [blks])
  unfold impl_areAll_string__c1.f at H
  refine enter Try.func137 rfl Try.ntmps137 rfl fun a hk => ?_
  apply wp_seq_k; intro K1 hK1
  apply wp_region_lit
  refine sa _ rfl hk rfl rfl rfl fun a hk => ?_
  show wpList _ _ _ [] _ _
  refine wpList_nil ?_
  refine hK1 _ _ ?_
  apply wp_seq_k; intro K2 hK2
  apply wp_region_lit
  refine sl rfl hk rfl rfl rfl ag108 (box_cellD hs (k := 1) rfl rfl) fun a hk => ?_
  refine sm _ rfl hk rfl rfl rfl fun a hk => ?_
  obtain ⟨y3, h4, H⟩ := bind_some H
  refine scv (vs := ([(.string x0)] : List Value) ++ c1_) rfl rfl e1_ hk rfl rfl rfl (t1_ _ (hs.hasD (k := 2) rfl) x0 _ h4) ?_
  rintro _ w ⟨rfl, hG⟩ a hk
  have hs := hs.call0 hG
  refine sv (.bool (!y3)) hk rfl rfl rfl fun a hk => ?_
  refine sa _ rfl hk rfl rfl rfl fun a hk => ?_
  show wpList _ _ _ [] _ _
  refine wpList_nil ?_
  refine hK2 _ _ ?_
  refine wp_ret ?_
  obtain rfl := Option.some.inj H
  exact fin hk _ [(.bool (!y3))] rfl ⟨rfl, trivial⟩ ⟨rfl, (hs.pick [] rfl).dnil⟩

noncomputable def impl_areAll_string.f (l0 : List ByteArray) (q1 : ByteArray → Option (Bool)) : Option (Bool) :=
  ((slices_ContainsFunc_string_string.f l0 (fun z0 => impl_areAll_string__c1.f z0 q1)).bind fun y4 => (some (!y4)))
set_option maxRecDepth 100000 in
set_option maxHeartbeats 0 in
theorem impl_areAll_string_t (w0 : World) (A0_ : Option Addr) (p0_ : Nat) (l0 : List ByteArray) (k0_ : Chunk) (v0_ : View Lay.str A0_ p0_ l0 k0_) (w0_ : Has w0 k0_) (f1_ : FuncId) (c1_ : List Value) (e1_ : Enters Try.prog f1_) (q1 : ByteArray → Option (Bool)) (k1_ : Chunk) (t1_ : ∀ w, Has w k1_ → ∀ (z0 : ByteArray) (r : Bool), q1 z0 = some r → Calls Try.prog f1_ (([.string z0] : List Value) ++ c1_).toArray w (Ret (fun v w2 => v = .bool r ∧ Sat [] w w2 [] []))) (w1_ : Has w0 k1_) (r : Bool) (H : impl_areAll_string.f l0 q1 = some r) :
    Calls Try.prog 115 #[.slice A0_ l0.length p0_, .func (.func f1_) #[] c1_.toArray] w0 (Ret (fun v w => v = .bool r ∧ Sat [] w0 w [] [])) := by
  have hs : Sat [] w0 w0 [(1, k0_), (2, k1_)] [] := Sat.init w0 [(1, k0_), (2, k1_)] [] (by simp only [List.mem_cons, List.not_mem_nil, or_false]; rintro x (rfl | rfl) <;> assumption) (by simp) List.nodup_nil (by simp [blks])
  unfold impl_areAll_string.f at H
  refine enter Try.func115 rfl Try.ntmps115 rfl fun a hk => ?_
  apply wp_seq_k; intro K1 hK1
  apply wp_region_lit
  refine sbx 3 hs rfl hk rfl rfl rfl rfl fun b2 w a hk hs => ?_
  refine sa _ rfl hk rfl rfl rfl fun a hk => ?_
  show wpList _ _ _ [] _ _
  refine wpList_nil ?_
  refine hK1 _ _ ?_
  apply wp_seq_k; intro K3 hK3
  apply wp_region_lit
  refine sm _ rfl hk rfl rfl rfl fun a hk => ?_
  refine smf (cs := [.pointer (some ⟨b2, 0, none⟩)]) rfl hk rfl rfl rfl fun a hk => ?_
  obtain ⟨y4, h5, H⟩ := bind_some H
  refine sc rfl en136 hk rfl rfl rfl (slices_ContainsFunc_string_string_t _ A0_ p0_ l0 _ v0_ (hs.hasD (k := 1) rfl) 137 [.pointer (some ⟨b2, 0, none⟩)] en137 (fun z0 => impl_areAll_string__c1.f z0 q1) ([(b2, .cells #[.func (.func f1_) #[] c1_.toArray] 108 (0, 0))] ++ k1_) (fun w hz z0 r h => impl_areAll_string__c1_t w z0 _ f1_ c1_ e1_ q1 k1_ t1_ (Has.right hz) (Has.left hz) r h) (Has.app (hs.hasG (k := 3) rfl) (hs.hasD (k := 2) rfl)) _ h5) ?_
  rintro _ w ⟨rfl, hG⟩ a hk
  have hs := hs.call0 hG
  refine sv (.bool (!y4)) hk rfl rfl rfl fun a hk => ?_
  refine sa _ rfl hk rfl rfl rfl fun a hk => ?_
  show wpList _ _ _ [] _ _
  refine wpList_nil ?_
  refine hK3 _ _ ?_
  refine wp_ret ?_
  obtain rfl := Option.some.inj H
  exact fin hk _ [(.bool (!y4))] rfl ⟨rfl, trivial⟩ ⟨rfl, (hs.pick [] rfl).dnil⟩

noncomputable def slices_IndexFunc_impl_Io_impl_Io.s0 (l0 : List S_Io) (q1 : S_Io → Option (Bool)) (u4 : Int) : Option ((Int) ⊕ Ex (Unit) (Int)) :=
  (bif (decide (u4 < (l0.length : Int))) then (if 0 ≤ u4 ∧ u4 < (l0.length : Int) then ((q1 (l0.getD u4.toNat z_Io)).bind fun y23 => (bif y23 then (some (.inr (.ret u4))) else (some (.inl (w64 (u4 + 1)))))) else none) else (some (.inr (.out ()))))
noncomputable def slices_IndexFunc_impl_Io_impl_Io.f (l0 : List S_Io) (q1 : S_Io → Option (Bool)) : Option (Int) :=
  ((loopO (fun s => slices_IndexFunc_impl_Io_impl_Io.s0 l0 q1 s) 0).bind fun o => match o with | .out _ => (some (-1)) | .ret r => (some r))
set_option maxRecDepth 100000 in
set_option maxHeartbeats 0 in
theorem slices_IndexFunc_impl_Io_impl_Io_t (w0 : World) (A0_ : Option Addr) (p0_ : Nat) (l0 : List S_Io) (k0_ : Chunk) (v0_ : View L_Io A0_ p0_ l0 k0_) (w0_ : Has w0 k0_) (f1_ : FuncId) (c1_ : List Value) (e1_ : Enters Try.prog f1_) (q1 : S_Io → Option (Bool)) (k1_ : Chunk) (t1_ : ∀ w, Has w k1_ → ∀ (z0 : S_Io) (r : Bool), q1 z0 = some r → Calls Try.prog f1_ (([.agg #[.int .i64 z0.At, .string z0.Data]] : List Value) ++ c1_).toArray w (Ret (fun v w2 => v = .bool r ∧ Sat [] w w2 [] []))) (w1_ : Has w0 k1_) (r : Int) (H : slices_IndexFunc_impl_Io_impl_Io.f l0 q1 = some r) :
    Calls Try.prog 150 #[.slice A0_ l0.length p0_, .func (.func f1_) #[] c1_.toArray] w0 (Ret (fun v w => v = .int .i64 r ∧ Sat [] w0 w [] [])) := by
  have hs : Sat [] w0 w0 [(1, k0_), (2, k1_)] [] := Sat.init w0 [(1, k0_), (2, k1_)] [] (by simp only [List.mem_cons, List.not_mem_nil, or_false]; rintro x (rfl | rfl) <;> assumption) (by simp) List.nodup_nil (by simp [blks])
  unfold slices_IndexFunc_impl_Io_impl_Io.f at H
  refine enter Try.func150 rfl Try.ntmps150 rfl fun a hk => ?_
  apply wp_seq_k; intro K1 hK1
  apply wp_region_lit
  refine sa _ rfl hk rfl rfl rfl fun a hk => ?_
  show wpList _ _ _ [] _ _
  refine wpList_nil ?_
  refine hK1 _ _ ?_
  apply wp_seq_k; intro K2 hK2
  apply wp_seq_k; intro K3 hK3
  apply wp_region_lit
  refine sm _ rfl hk rfl rfl rfl fun a hk => ?_
  refine sle rfl hk rfl rfl rfl un33 fun a hk => ?_
  refine sm _ rfl hk rfl rfl rfl fun a hk => ?_
  show wpList _ _ _ [] _ _
  refine wpList_nil ?_
  refine hK3 _ _ ?_
  obtain ⟨o5, h6, HL7⟩ := bind_some H
  clear H
  obtain ⟨R8, hR8⟩ : ∃ R : Act → World → Prop, R = fun a w => o5 = .out () ∧ Kn [] 19 a ∧ Sat [] w0 w [(1, k0_), (2, k1_)] [] := ⟨_, rfl⟩
  refine wp_cutq R8 ?_ ?_
  · refine wp_block ?_
    obtain ⟨fu10, h6⟩ := loopO_some h6
    obtain ⟨I9, hI9⟩ : ∃ I : Nat → Act → World → Prop, I = fun fu a w => ∃ (u4 : Int), loopN (fun s => slices_IndexFunc_impl_Io_impl_Io.s0 l0 q1 s) fu u4 = some o5 ∧ Kn [(0, (.slice A0_ l0.length p0_)), (1, (.func (.func f1_) #[] c1_.toArray)), (7, (.int .i64 (l0.length : Int))), (8, (.int .i64 u4))] 19 a ∧ Sat [] w0 w [(1, k0_), (2, k1_)] [] := ⟨_, rfl⟩
    refine wp_loop_ghost I9 fu10 ?_ ?_
    · rw [hI9]
      exact ⟨0, h6, (hk.c 0 rfl (hk.c 1 rfl (hk.c 7 rfl (hk.c 8 rfl hk.k)))), (hs.pick [] rfl)⟩
    · clear h6 hk hs
      intro fu10 a w hI0
      rw [hI9] at hI0
      obtain ⟨u4, hi, hk, hs⟩ := hI0
      obtain ⟨x11, H, h12⟩ := loop_round hi
      try dsimp only at H
      unfold slices_IndexFunc_impl_Io_impl_Io.s0 at H
      apply wp_seq_k; intro K13 hK13
      apply wp_region_lit
      refine sv (.bool (decide (u4 < (l0.length : Int)))) hk rfl rfl rfl fun a hk => ?_
      show wpList _ _ _ [] _ _
      refine wpList_nil ?_
      refine hK13 _ _ ?_
      apply wp_seq_k; intro K14 hK14
      rcases cond_some H with ⟨c15, H⟩ | ⟨c15, H⟩
      · have hk := hk.lit 9 c15 rfl
        refine cnd_true hk rfl rfl ?_
        refine wp_skip ?_
        refine hK14 _ _ ?_
        apply wp_seq_k; intro K16 hK16
        refine wp_block ?_
        apply wp_seq_k; intro K17 hK17
        apply wp_region_lit
        refine sm _ rfl hk rfl rfl rfl fun a hk => ?_
        refine sa _ rfl hk rfl rfl rfl fun a hk => ?_
        show wpList _ _ _ [] _ _
        refine wpList_nil ?_
        refine hK17 _ _ ?_
        apply wp_seq_k; intro K18 hK18
        apply wp_region_lit
        refine sm _ rfl hk rfl rfl rfl fun a hk => ?_
        refine sm _ rfl hk rfl rfl rfl fun a hk => ?_
        refine sm _ rfl hk rfl rfl rfl fun a hk => ?_
        rcases ite_some H with ⟨c19, H⟩ | ⟨_, H⟩
        rotate_left
        · cases H
        obtain ⟨b20, q21, hAc19⟩ := (v0_).some_ u4 c19.1 c19.2
        refine si rfl hk rfl rfl rfl rfl un33 sz114 c19.1 c19.2 hAc19 fun a hk => ?_
        obtain ⟨_, rfl, e22⟩ := (v0_).at_ z_Io u4 c19.1 c19.2
        refine sln [.int .i64 ((l0.getD u4.toNat z_Io).At), .string ((l0.getD u4.toNat z_Io).Data)] rfl hk rfl rfl rfl ag114 sz114 (cells_at e22 (hs.hasD (k := 1) rfl)) fun a hk => ?_
        obtain ⟨y23, h24, H⟩ := bind_some H
        refine scv (vs := ([(.agg #[.int .i64 ((l0.getD u4.toNat z_Io).At), .string ((l0.getD u4.toNat z_Io).Data)])] : List Value) ++ c1_) rfl rfl e1_ hk rfl rfl rfl (t1_ _ (hs.hasD (k := 2) rfl) (l0.getD u4.toNat z_Io) _ h24) ?_
        rintro _ w ⟨rfl, hG⟩ a hk
        have hs := hs.call0 hG
        show wpList _ _ _ [] _ _
        refine wpList_nil ?_
        refine hK18 _ _ ?_
        rcases cond_some H with ⟨c25, H⟩ | ⟨c25, H⟩
        · have hk := hk.lit 16 c25 rfl
          refine cnd_true hk rfl rfl ?_
          apply wp_seq_k; intro K26 hK26
          apply wp_region_lit
          refine sm _ rfl hk rfl rfl rfl fun a hk => ?_
          refine sa _ rfl hk rfl rfl rfl fun a hk => ?_
          show wpList _ _ _ [] _ _
          refine wpList_nil ?_
          refine hK26 _ _ ?_
          refine wp_ret ?_
          obtain rfl := Option.some.inj H
          have ho5 := h12
          try dsimp only at ho5
          subst ho5
          have H := HL7
          try dsimp only at H
          obtain rfl := Option.some.inj H
          exact fin hk _ [(.int .i64 u4)] rfl ⟨rfl, trivial⟩ ⟨rfl, (hs.pick [] rfl).dnil⟩
        · have hk := hk.lit 16 c25 rfl
          refine cnd_false hk rfl rfl ?_
          refine wp_skip ?_
          refine hK16 _ _ ?_
          apply wp_region_lit
          refine sv (.int .i64 (w64 (u4 + 1))) hk rfl rfl rfl fun a hk => ?_
          refine sm _ rfl hk rfl rfl rfl fun a hk => ?_
          show wpList _ _ _ [] _ _
          refine wpList_nil ?_
          obtain rfl := Option.some.inj H
          obtain ⟨m27, hmm27, h12⟩ := h12
          show ∃ n', n' < _ ∧ I9 n' _ _
          refine ⟨m27, hmm27, ?_⟩
          rw [hI9]
          exact ⟨(w64 (u4 + 1)), h12, (hk.c 0 rfl (hk.c 1 rfl (hk.c 7 rfl (hk.c 8 rfl hk.k)))), (hs.pick [] rfl)⟩
      · have hk := hk.lit 9 c15 rfl
        refine cnd_false hk rfl rfl ?_
        refine wp_exit ?_
        obtain rfl := Option.some.inj H
        show R8 _ _
        rw [hR8]
        exact ⟨h12.symm, hk.k, (hs.pick [] rfl)⟩
  · intro a w hR0
    rw [hR8] at hR0
    obtain ⟨rfl, hk, hs⟩ := hR0
    have H := HL7
    try dsimp only at H
    refine hK2 _ _ ?_
    apply wp_seq_k; intro K28 hK28
    apply wp_region_lit
    refine sa _ rfl hk rfl rfl rfl fun a hk => ?_
    show wpList _ _ _ [] _ _
    refine wpList_nil ?_
    refine hK28 _ _ ?_
    refine wp_ret ?_
    obtain rfl := Option.some.inj H
    exact fin hk _ [(.int .i64 (-1))] rfl ⟨rfl, trivial⟩ ⟨rfl, (hs.pick [] rfl).dnil⟩

noncomputable def slices_ContainsFunc_impl_Io_impl_Io.f (l0 : List S_Io) (q1 : S_Io → Option (Bool)) : Option (Bool) :=
  ((slices_IndexFunc_impl_Io_impl_Io.f l0 q1).bind fun y3 => (some (decide (y3 ≥ 0))))
set_option maxRecDepth 100000 in
set_option maxHeartbeats 0 in
theorem slices_ContainsFunc_impl_Io_impl_Io_t (w0 : World) (A0_ : Option Addr) (p0_ : Nat) (l0 : List S_Io) (k0_ : Chunk) (v0_ : View L_Io A0_ p0_ l0 k0_) (w0_ : Has w0 k0_) (f1_ : FuncId) (c1_ : List Value) (e1_ : Enters Try.prog f1_) (q1 : S_Io → Option (Bool)) (k1_ : Chunk) (t1_ : ∀ w, Has w k1_ → ∀ (z0 : S_Io) (r : Bool), q1 z0 = some r → Calls Try.prog f1_ (([.agg #[.int .i64 z0.At, .string z0.Data]] : List Value) ++ c1_).toArray w (Ret (fun v w2 => v = .bool r ∧ Sat [] w w2 [] []))) (w1_ : Has w0 k1_) (r : Bool) (H : slices_ContainsFunc_impl_Io_impl_Io.f l0 q1 = some r) :
    Calls Try.prog 138 #[.slice A0_ l0.length p0_, .func (.func f1_) #[] c1_.toArray] w0 (Ret (fun v w => v = .bool r ∧ Sat [] w0 w [] [])) := by
  have hs : Sat [] w0 w0 [(1, k0_), (2, k1_)] [] := Sat.init w0 [(1, k0_), (2, k1_)] [] (by simp only [List.mem_cons, List.not_mem_nil, or_false]; rintro x (rfl | rfl) <;> assumption) (by simp) List.nodup_nil (by simp [blks])
  unfold slices_ContainsFunc_impl_Io_impl_Io.f at H
  refine enter Try.func138 rfl Try.ntmps138 rfl fun a hk => ?_
  apply wp_seq_k; intro K1 hK1
  apply wp_region_lit
  refine sa _ rfl hk rfl rfl rfl fun a hk => ?_
  show wpList _ _ _ [] _ _
  refine wpList_nil ?_
  refine hK1 _ _ ?_
  apply wp_seq_k; intro K2 hK2
  apply wp_region_lit
  refine sm _ rfl hk rfl rfl rfl fun a hk => ?_
  refine sm _ rfl hk rfl rfl rfl fun a hk => ?_
  obtain ⟨y3, h4, H⟩ := bind_some H
  refine sc rfl en150 hk rfl rfl rfl (slices_IndexFunc_impl_Io_impl_Io_t _ A0_ p0_ l0 _ v0_ (hs.hasD (k := 1) rfl) f1_ c1_ e1_ q1 k1_ t1_ (hs.hasD (k := 2) rfl) _ h4) ?_
  rintro _ w ⟨rfl, hG⟩ a hk
  have hs := hs.call0 hG
  refine sv (.bool (decide (y3 ≥ 0))) hk rfl rfl rfl fun a hk => ?_
  refine sa _ rfl hk rfl rfl rfl fun a hk => ?_
  show wpList _ _ _ [] _ _
  refine wpList_nil ?_
  refine hK2 _ _ ?_
  refine wp_ret ?_
  obtain rfl := Option.some.inj H
  exact fin hk _ [(.bool (decide (y3 ≥ 0)))] rfl ⟨rfl, trivial⟩ ⟨rfl, (hs.pick [] rfl).dnil⟩

noncomputable def impl_areAll_impl_Io__c1.f (x0 : S_Io) (q1 : S_Io → Option (Bool)) : Option (Bool) :=
  ((q1 x0).bind fun y4 => (some (!y4)))
set_option maxRecDepth 100000 in
set_option maxHeartbeats 0 in
theorem impl_areAll_impl_Io__c1_t (w0 : World) (x0 : S_Io) (b1_ : Nat) (f1_ : FuncId) (c1_ : List Value) (e1_ : Enters Try.prog f1_) (q1 : S_Io → Option (Bool)) (k1_ : Chunk) (t1_ : ∀ w, Has w k1_ → ∀ (z0 : S_Io) (r : Bool), q1 z0 = some r → Calls Try.prog f1_ (([.agg #[.int .i64 z0.At, .string z0.Data]] : List Value) ++ c1_).toArray w (Ret (fun v w2 => v = .bool r ∧ Sat [] w w2 [] []))) (w1_ : Has w0 k1_) (h1_ : Has w0 [(b1_, .cells #[.func (.func f1_) #[] c1_.toArray] 131 (0, 0))]) (r : Bool) (H : impl_areAll_impl_Io__c1.f x0 q1 = some r) :
    Calls Try.prog 139 #[.agg #[.int .i64 x0.At, .string x0.Data], .pointer (some ⟨b1_, 0, none⟩)] w0 (Ret (fun v w => v = .bool r ∧ Sat [] w0 w [] [])) := by
  have hs : Sat [] w0 w0 [(2, k1_), (1, [(b1_, .cells #[.func (.func f1_) #[] c1_.toArray] 131 (0, 0))])] [] := Sat.init w0 [(2, k1_), (1, [(b1_, .cells #[.func (.func f1_) #[] c1_.toArray] 131 (0, 0))])] [] (by simp only [List.mem_cons, List.not_mem_nil, or_false]; rintro x (rfl | rfl) <;> assumption) (by simp) List.nodup_nil (by simp [blks])
  unfold impl_areAll_impl_Io__c1.f at H
  refine enter Try.func139 rfl Try.ntmps139 rfl fun a hk => ?_
  apply wp_seq_k; intro K1 hK1
  apply wp_region_lit
  refine sbx 3 hs rfl hk rfl rfl rfl rfl fun b2 w a hk hs => ?_
  refine sa _ rfl hk rfl rfl rfl fun a hk => ?_
  show wpList _ _ _ [] _ _
  refine wpList_nil ?_
  refine hK1 _ _ ?_
  apply wp_seq_k; intro K3 hK3
  apply wp_region_lit
  refine sl rfl hk rfl rfl rfl ag131 (box_cellD hs (k := 1) rfl rfl) fun a hk => ?_
  refine sln [.int .i64 x0.At, .string x0.Data] rfl hk rfl rfl rfl ag114 sz114 (box_cells hs (k := 3) rfl) fun a hk => ?_
  obtain ⟨y4, h5, H⟩ := bind_some H
  refine scv (vs := ([(.agg #[.int .i64 x0.At, .string x0.Data])] : List Value) ++ c1_) rfl rfl e1_ hk rfl rfl rfl (t1_ _ (hs.hasD (k := 2) rfl) x0 _ h5) ?_
  rintro _ w ⟨rfl, hG⟩ a hk
  have hs := hs.call0 hG
  refine sv (.bool (!y4)) hk rfl rfl rfl fun a hk => ?_
  refine sa _ rfl hk rfl rfl rfl fun a hk => ?_
  show wpList _ _ _ [] _ _
  refine wpList_nil ?_
  refine hK3 _ _ ?_
  refine wp_ret ?_
  obtain rfl := Option.some.inj H
  exact fin hk _ [(.bool (!y4))] rfl ⟨rfl, trivial⟩ ⟨rfl, (hs.pick [] rfl).dnil⟩

noncomputable def impl_areAll_impl_Io.f (l0 : List S_Io) (q1 : S_Io → Option (Bool)) : Option (Bool) :=
  ((slices_ContainsFunc_impl_Io_impl_Io.f l0 (fun z0 => impl_areAll_impl_Io__c1.f z0 q1)).bind fun y4 => (some (!y4)))
set_option maxRecDepth 100000 in
set_option maxHeartbeats 0 in
theorem impl_areAll_impl_Io_t (w0 : World) (A0_ : Option Addr) (p0_ : Nat) (l0 : List S_Io) (k0_ : Chunk) (v0_ : View L_Io A0_ p0_ l0 k0_) (w0_ : Has w0 k0_) (f1_ : FuncId) (c1_ : List Value) (e1_ : Enters Try.prog f1_) (q1 : S_Io → Option (Bool)) (k1_ : Chunk) (t1_ : ∀ w, Has w k1_ → ∀ (z0 : S_Io) (r : Bool), q1 z0 = some r → Calls Try.prog f1_ (([.agg #[.int .i64 z0.At, .string z0.Data]] : List Value) ++ c1_).toArray w (Ret (fun v w2 => v = .bool r ∧ Sat [] w w2 [] []))) (w1_ : Has w0 k1_) (r : Bool) (H : impl_areAll_impl_Io.f l0 q1 = some r) :
    Calls Try.prog 116 #[.slice A0_ l0.length p0_, .func (.func f1_) #[] c1_.toArray] w0 (Ret (fun v w => v = .bool r ∧ Sat [] w0 w [] [])) := by
  have hs : Sat [] w0 w0 [(1, k0_), (2, k1_)] [] := Sat.init w0 [(1, k0_), (2, k1_)] [] (by simp only [List.mem_cons, List.not_mem_nil, or_false]; rintro x (rfl | rfl) <;> assumption) (by simp) List.nodup_nil (by simp [blks])
  unfold impl_areAll_impl_Io.f at H
  refine enter Try.func116 rfl Try.ntmps116 rfl fun a hk => ?_
  apply wp_seq_k; intro K1 hK1
  apply wp_region_lit
  refine sbx 3 hs rfl hk rfl rfl rfl rfl fun b2 w a hk hs => ?_
  refine sa _ rfl hk rfl rfl rfl fun a hk => ?_
  show wpList _ _ _ [] _ _
  refine wpList_nil ?_
  refine hK1 _ _ ?_
  apply wp_seq_k; intro K3 hK3
  apply wp_region_lit
  refine sm _ rfl hk rfl rfl rfl fun a hk => ?_
  refine smf (cs := [.pointer (some ⟨b2, 0, none⟩)]) rfl hk rfl rfl rfl fun a hk => ?_
  obtain ⟨y4, h5, H⟩ := bind_some H
  refine sc rfl en138 hk rfl rfl rfl (slices_ContainsFunc_impl_Io_impl_Io_t _ A0_ p0_ l0 _ v0_ (hs.hasD (k := 1) rfl) 139 [.pointer (some ⟨b2, 0, none⟩)] en139 (fun z0 => impl_areAll_impl_Io__c1.f z0 q1) ([(b2, .cells #[.func (.func f1_) #[] c1_.toArray] 131 (0, 0))] ++ k1_) (fun w hz z0 r h => impl_areAll_impl_Io__c1_t w z0 _ f1_ c1_ e1_ q1 k1_ t1_ (Has.right hz) (Has.left hz) r h) (Has.app (hs.hasG (k := 3) rfl) (hs.hasD (k := 2) rfl)) _ h5) ?_
  rintro _ w ⟨rfl, hG⟩ a hk
  have hs := hs.call0 hG
  refine sv (.bool (!y4)) hk rfl rfl rfl fun a hk => ?_
  refine sa _ rfl hk rfl rfl rfl fun a hk => ?_
  show wpList _ _ _ [] _ _
  refine wpList_nil ?_
  refine hK3 _ _ ?_
  refine wp_ret ?_
  obtain rfl := Option.some.inj H
  exact fin hk _ [(.bool (!y4))] rfl ⟨rfl, trivial⟩ ⟨rfl, (hs.pick [] rfl).dnil⟩

noncomputable def impl_isSector.f (x0 : Int) : Option (Bool) :=
  ((impl_within.f x0 0 39).bind fun y3 => (some y3))
set_option maxRecDepth 100000 in
set_option maxHeartbeats 0 in
theorem impl_isSector_t (w0 : World) (x0 : Int) (r : Bool) (H : impl_isSector.f x0 = some r) :
    Calls Try.prog 64 #[.int .i64 x0] w0 (Ret (fun v w => v = .bool r ∧ Sat [] w0 w [] [])) := by
  have hs : Sat [] w0 w0 [] [] := Sat.init w0 [] [] (by simp) (by simp) List.nodup_nil (by simp [blks])
  unfold impl_isSector.f at H
  refine enter Try.func64 rfl Try.ntmps64 rfl fun a hk => ?_
  apply wp_seq_k; intro K1 hK1
  apply wp_region_lit
  refine sa _ rfl hk rfl rfl rfl fun a hk => ?_
  show wpList _ _ _ [] _ _
  refine wpList_nil ?_
  refine hK1 _ _ ?_
  apply wp_seq_k; intro K2 hK2
  apply wp_region_lit
  refine sm _ rfl hk rfl rfl rfl fun a hk => ?_
  obtain ⟨y3, h4, H⟩ := bind_some H
  refine sc rfl en65 hk rfl rfl rfl (impl_within_t _ x0 0 39 _ h4) ?_
  rintro _ w ⟨rfl, hG⟩ a hk
  have hs := hs.call0 hG
  refine sa _ rfl hk rfl rfl rfl fun a hk => ?_
  show wpList _ _ _ [] _ _
  refine wpList_nil ?_
  refine hK2 _ _ ?_
  refine wp_ret ?_
  obtain rfl := Option.some.inj H
  exact fin hk _ [(.bool y3)] rfl ⟨rfl, trivial⟩ ⟨rfl, (hs.pick [] rfl).dnil⟩

noncomputable def impl_DeviceOK_c1.f (x0 : S_Io) : Option (Bool) :=
  ((((impl_isSector.f x0.At).bind fun y9 => (bif y9 then ((impl_isContent.f x0.Data).bind fun y12 => (some y12)) else (some false))) : Option (Bool)).bind fun u4 => (some u4))
set_option maxRecDepth 100000 in
set_option maxHeartbeats 0 in
theorem impl_DeviceOK_c1_t (w0 : World) (x0 : S_Io) (r : Bool) (H : impl_DeviceOK_c1.f x0 = some r) :
    Calls Try.prog 117 #[.agg #[.int .i64 x0.At, .string x0.Data]] w0 (Ret (fun v w => v = .bool r ∧ Sat [] w0 w [] [])) := by
  have hs : Sat [] w0 w0 [] [] := Sat.init w0 [] [] (by simp) (by simp) List.nodup_nil (by simp [blks])
  unfold impl_DeviceOK_c1.f at H
  refine enter Try.func117 rfl Try.ntmps117 rfl fun a hk => ?_
  apply wp_seq_k; intro K1 hK1
  apply wp_region_lit
  refine sbx 1 hs rfl hk rfl rfl rfl rfl fun b2 w a hk hs => ?_
  refine sa _ rfl hk rfl rfl rfl fun a hk => ?_
  show wpList _ _ _ [] _ _
  refine wpList_nil ?_
  refine hK1 _ _ ?_
  apply wp_seq_k; intro K3 hK3
  obtain ⟨o5, h6, HL7⟩ := bind_some H
  clear H
  obtain ⟨R8, hR8⟩ : ∃ R : Act → World → Prop, R = fun a w => ∃ (u4 : Bool), u4 = o5 ∧ Kn [(2, (.bool u4))] 11 a ∧ Sat [] w0 w [] [] := ⟨_, rfl⟩
  refine wp_cutq R8 ?_ ?_
  · have H := h6
    apply wp_region_lit
    refine sf ⟨b2, 0, none⟩ rfl hk rfl rfl rfl fd114_0 rfl fun a hk => ?_
    refine sl rfl hk rfl rfl rfl ag3 (box_cell hs (k := 1) rfl rfl) fun a hk => ?_
    obtain ⟨y9, h10, H⟩ := bind_some H
    refine sc rfl en64 hk rfl rfl rfl (impl_isSector_t _ x0.At _ h10) ?_
    rintro _ w ⟨rfl, hG⟩ a hk
    have hs := hs.call0 hG
    refine sm _ rfl hk rfl rfl rfl fun a hk => ?_
    rcases cond_some H with ⟨c11, H⟩ | ⟨c11, H⟩
    · have hk := hk.lit 6 c11 rfl
      refine sf ⟨b2, 1, none⟩ rfl hk rfl rfl rfl fd114_1 rfl fun a hk => ?_
      refine sl rfl hk rfl rfl rfl ag9 (box_cell hs (k := 1) rfl rfl) fun a hk => ?_
      obtain ⟨y12, h13, H⟩ := bind_some H
      refine sc rfl en89 hk rfl rfl rfl (impl_isContent_t _ x0.Data _ h13) ?_
      rintro _ w ⟨rfl, hG⟩ a hk
      have hs := hs.call0 hG
      refine sv (.bool y12) hk rfl rfl rfl fun a hk => ?_
      refine sa _ rfl hk rfl rfl rfl fun a hk => ?_
      show wpList _ _ _ [] _ _
      refine wpList_nil ?_
      obtain rfl := Option.some.inj H
      show R8 _ _
      rw [hR8]
      exact ⟨y12, rfl, (hk.c 2 rfl hk.k), (hs.pick [] rfl)⟩
    · have hk := hk.lit 6 c11 rfl
      refine sk hk rfl rfl rfl fun a hk => ?_
      refine sk hk rfl rfl rfl fun a hk => ?_
      refine sk hk rfl rfl rfl fun a hk => ?_
      refine sv (.bool false) hk rfl rfl rfl fun a hk => ?_
      refine sa _ rfl hk rfl rfl rfl fun a hk => ?_
      show wpList _ _ _ [] _ _
      refine wpList_nil ?_
      obtain rfl := Option.some.inj H
      show R8 _ _
      rw [hR8]
      exact ⟨false, rfl, (hk.c 2 rfl hk.k), (hs.pick [] rfl)⟩
  · intro a w hR0
    rw [hR8] at hR0
    obtain ⟨u4, rfl, hk, hs⟩ := hR0
    have H := HL7
    try dsimp only at H
    refine hK3 _ _ ?_
    refine wp_ret ?_
    obtain rfl := Option.some.inj H
    exact fin hk _ [(.bool u4)] rfl ⟨rfl, trivial⟩ ⟨rfl, (hs.pick [] rfl).dnil⟩

noncomputable def impl_DeviceOK.f (x0 : S_Device) : Option (Bool) :=
  (((bif ((x0.Sure.length : Int) == 40) then ((impl_areAll_string.f x0.Sure impl_isContent.f).bind fun y10 => (bif y10 then (bif (decide ((x0.Unsure.length : Int) ≤ 60)) then ((impl_areAll_impl_Io.f x0.Unsure impl_DeviceOK_c1.f).bind fun y14 => (some y14)) else (some false)) else (some false))) else (some false)) : Option (Bool)).bind fun u4 => (some u4))
set_option maxRecDepth 100000 in
set_option maxHeartbeats 0 in
theorem impl_DeviceOK_t (w0 : World) (x0 : S_Device) (A0_0 : Option Addr) (p0_0 : Nat) (k0_0 : Chunk) (v0_0 : View Lay.str A0_0 p0_0 x0.Sure k0_0) (w0_0 : Has w0 k0_0) (A0_1 : Option Addr) (p0_1 : Nat) (k0_1 : Chunk) (v0_1 : View L_Io A0_1 p0_1 x0.Unsure k0_1) (w0_1 : Has w0 k0_1) (r : Bool) (H : impl_DeviceOK.f x0 = some r) :
    Calls Try.prog 79 #[.agg #[.slice A0_0 x0.Sure.length p0_0, .slice A0_1 x0.Unsure.length p0_1]] w0 (Ret (fun v w => v = .bool r ∧ Sat [] w0 w [] [])) := by
  have hs : Sat [] w0 w0 [(1, k0_0), (2, k0_1)] [] := Sat.init w0 [(1, k0_0), (2, k0_1)] [] (by simp only [List.mem_cons, List.not_mem_nil, or_false]; rintro x (rfl | rfl) <;> assumption) (by simp) List.nodup_nil (by simp [blks])
  unfold impl_DeviceOK.f at H
  refine enter Try.func79 rfl Try.ntmps79 rfl fun a hk => ?_
  apply wp_seq_k; intro K1 hK1
  apply wp_region_lit
  refine sbx 3 hs rfl hk rfl rfl rfl rfl fun b2 w a hk hs => ?_
  refine sa _ rfl hk rfl rfl rfl fun a hk => ?_
  show wpList _ _ _ [] _ _
  refine wpList_nil ?_
  refine hK1 _ _ ?_
  apply wp_seq_k; intro K3 hK3
  obtain ⟨o5, h6, HL7⟩ := bind_some H
  clear H
  obtain ⟨R8, hR8⟩ : ∃ R : Act → World → Prop, R = fun a w => ∃ (u4 : Bool), u4 = o5 ∧ Kn [(2, (.bool u4))] 23 a ∧ Sat [] w0 w [(1, k0_0), (2, k0_1)] [] := ⟨_, rfl⟩
  refine wp_cutq R8 ?_ ?_
  · have H := h6
    apply wp_region_lit
    refine sf ⟨b2, 0, none⟩ rfl hk rfl rfl rfl fd35_0 rfl fun a hk => ?_
    refine sl rfl hk rfl rfl rfl ag24 (box_cell hs (k := 3) rfl rfl) fun a hk => ?_
    refine sle rfl hk rfl rfl rfl un24 fun a hk => ?_
    refine sv (.bool ((x0.Sure.length : Int) == 40)) hk rfl rfl rfl fun a hk => ?_
    refine sm _ rfl hk rfl rfl rfl fun a hk => ?_
    rcases cond_some H with ⟨c9, H⟩ | ⟨c9, H⟩
    · have hk := hk.lit 7 c9 rfl
      refine sf ⟨b2, 0, none⟩ rfl hk rfl rfl rfl fd35_0 rfl fun a hk => ?_
      refine sl rfl hk rfl rfl rfl ag24 (box_cell hs (k := 3) rfl rfl) fun a hk => ?_
      obtain ⟨y10, h11, H⟩ := bind_some H
      refine sc rfl en115 hk rfl rfl rfl (impl_areAll_string_t _ A0_0 p0_0 x0.Sure _ v0_0 (hs.hasD (k := 1) rfl) 89 [] en89 impl_isContent.f [] (fun w _ z0 r h => impl_isContent_t w z0 r h) (Has.nil _) _ h11) ?_
      rintro _ w ⟨rfl, hG⟩ a hk
      have hs := hs.call0 hG
      refine sv (.bool y10) hk rfl rfl rfl fun a hk => ?_
      refine sm _ rfl hk rfl rfl rfl fun a hk => ?_
      rcases cond_some H with ⟨c12, H⟩ | ⟨c12, H⟩
      · have hk := hk.lit 12 c12 rfl
        refine sf ⟨b2, 1, none⟩ rfl hk rfl rfl rfl fd35_1 rfl fun a hk => ?_
        refine sl rfl hk rfl rfl rfl ag33 (box_cell hs (k := 3) rfl rfl) fun a hk => ?_
        refine sle rfl hk rfl rfl rfl un33 fun a hk => ?_
        refine sv (.bool (decide ((x0.Unsure.length : Int) ≤ 60))) hk rfl rfl rfl fun a hk => ?_
        refine sv (.bool (decide ((x0.Unsure.length : Int) ≤ 60))) hk rfl rfl rfl fun a hk => ?_
        refine sm _ rfl hk rfl rfl rfl fun a hk => ?_
        rcases cond_some H with ⟨c13, H⟩ | ⟨c13, H⟩
        · have hk := hk.lit 18 c13 rfl
          refine sf ⟨b2, 1, none⟩ rfl hk rfl rfl rfl fd35_1 rfl fun a hk => ?_
          refine sl rfl hk rfl rfl rfl ag33 (box_cell hs (k := 3) rfl rfl) fun a hk => ?_
          obtain ⟨y14, h15, H⟩ := bind_some H
          refine sc rfl en116 hk rfl rfl rfl (impl_areAll_impl_Io_t _ A0_1 p0_1 x0.Unsure _ v0_1 (hs.hasD (k := 2) rfl) 117 [] en117 impl_DeviceOK_c1.f [] (fun w _ z0 r h => impl_DeviceOK_c1_t w z0 r h) (Has.nil _) _ h15) ?_
          rintro _ w ⟨rfl, hG⟩ a hk
          have hs := hs.call0 hG
          refine sv (.bool y14) hk rfl rfl rfl fun a hk => ?_
          refine sa _ rfl hk rfl rfl rfl fun a hk => ?_
          show wpList _ _ _ [] _ _
          refine wpList_nil ?_
          obtain rfl := Option.some.inj H
          show R8 _ _
          rw [hR8]
          exact ⟨y14, rfl, (hk.c 2 rfl hk.k), (hs.pick [] rfl)⟩
        · have hk := hk.lit 18 c13 rfl
          refine sk hk rfl rfl rfl fun a hk => ?_
          refine sk hk rfl rfl rfl fun a hk => ?_
          refine sk hk rfl rfl rfl fun a hk => ?_
          refine sv (.bool false) hk rfl rfl rfl fun a hk => ?_
          refine sa _ rfl hk rfl rfl rfl fun a hk => ?_
          show wpList _ _ _ [] _ _
          refine wpList_nil ?_
          obtain rfl := Option.some.inj H
          show R8 _ _
          rw [hR8]
          exact ⟨false, rfl, (hk.c 2 rfl hk.k), (hs.pick [] rfl)⟩
      · have hk := hk.lit 12 c12 rfl
        refine sk hk rfl rfl rfl fun a hk => ?_
        refine sk hk rfl rfl rfl fun a hk => ?_
        refine sk hk rfl rfl rfl fun a hk => ?_
        refine sk hk rfl rfl rfl fun a hk => ?_
        refine sv (.bool false) hk rfl rfl rfl fun a hk => ?_
        refine sm _ rfl hk rfl rfl rfl fun a hk => ?_
        refine sk hk rfl rfl rfl fun a hk => ?_
        refine sk hk rfl rfl rfl fun a hk => ?_
        refine sk hk rfl rfl rfl fun a hk => ?_
        refine sv (.bool false) hk rfl rfl rfl fun a hk => ?_
        refine sa _ rfl hk rfl rfl rfl fun a hk => ?_
        show wpList _ _ _ [] _ _
        refine wpList_nil ?_
        obtain rfl := Option.some.inj H
        show R8 _ _
        rw [hR8]
        exact ⟨false, rfl, (hk.c 2 rfl hk.k), (hs.pick [] rfl)⟩
    · have hk := hk.lit 7 c9 rfl
      refine sk hk rfl rfl rfl fun a hk => ?_
      refine sk hk rfl rfl rfl fun a hk => ?_
      refine sk hk rfl rfl rfl fun a hk => ?_
      refine sv (.bool false) hk rfl rfl rfl fun a hk => ?_
      refine sm _ rfl hk rfl rfl rfl fun a hk => ?_
      refine sk hk rfl rfl rfl fun a hk => ?_
      refine sk hk rfl rfl rfl fun a hk => ?_
      refine sk hk rfl rfl rfl fun a hk => ?_
      refine sk hk rfl rfl rfl fun a hk => ?_
      refine sv (.bool false) hk rfl rfl rfl fun a hk => ?_
      refine sm _ rfl hk rfl rfl rfl fun a hk => ?_
      refine sk hk rfl rfl rfl fun a hk => ?_
      refine sk hk rfl rfl rfl fun a hk => ?_
      refine sk hk rfl rfl rfl fun a hk => ?_
      refine sv (.bool false) hk rfl rfl rfl fun a hk => ?_
      refine sa _ rfl hk rfl rfl rfl fun a hk => ?_
      show wpList _ _ _ [] _ _
      refine wpList_nil ?_
      obtain rfl := Option.some.inj H
      show R8 _ _
      rw [hR8]
      exact ⟨false, rfl, (hk.c 2 rfl hk.k), (hs.pick [] rfl)⟩
  · intro a w hR0
    rw [hR8] at hR0
    obtain ⟨u4, rfl, hk, hs⟩ := hR0
    have H := HL7
    try dsimp only at H
    refine hK3 _ _ ?_
    refine wp_ret ?_
    obtain rfl := Option.some.inj H
    exact fin hk _ [(.bool u4)] rfl ⟨rfl, trivial⟩ ⟨rfl, (hs.pick [] rfl).dnil⟩

noncomputable def impl_isSure.f (x0 : S_Device) : Option (Bool) :=
  ((((impl_DeviceOK.f x0).bind fun y9 => (bif y9 then (some ((x0.Unsure.length : Int) == 0)) else (some false))) : Option (Bool)).bind fun u4 => (some u4))
set_option maxRecDepth 100000 in
set_option maxHeartbeats 0 in
theorem impl_isSure_t (w0 : World) (x0 : S_Device) (A0_0 : Option Addr) (p0_0 : Nat) (k0_0 : Chunk) (v0_0 : View Lay.str A0_0 p0_0 x0.Sure k0_0) (w0_0 : Has w0 k0_0) (A0_1 : Option Addr) (p0_1 : Nat) (k0_1 : Chunk) (v0_1 : View L_Io A0_1 p0_1 x0.Unsure k0_1) (w0_1 : Has w0 k0_1) (r : Bool) (H : impl_isSure.f x0 = some r) :
    Calls Try.prog 51 #[.agg #[.slice A0_0 x0.Sure.length p0_0, .slice A0_1 x0.Unsure.length p0_1]] w0 (Ret (fun v w => v = .bool r ∧ Sat [] w0 w [] [])) := by
  have hs : Sat [] w0 w0 [(1, k0_0), (2, k0_1)] [] := Sat.init w0 [(1, k0_0), (2, k0_1)] [] (by simp only [List.mem_cons, List.not_mem_nil, or_false]; rintro x (rfl | rfl) <;> assumption) (by simp) List.nodup_nil (by simp [blks])
  unfold impl_isSure.f at H
  refine enter Try.func51 rfl Try.ntmps51 rfl fun a hk => ?_
  apply wp_seq_k; intro K1 hK1
  apply wp_region_lit
  refine sbx 3 hs rfl hk rfl rfl rfl rfl fun b2 w a hk hs => ?_
  refine sa _ rfl hk rfl rfl rfl fun a hk => ?_
  show wpList _ _ _ [] _ _
  refine wpList_nil ?_
  refine hK1 _ _ ?_
  apply wp_seq_k; intro K3 hK3
  obtain ⟨o5, h6, HL7⟩ := bind_some H
  clear H
  obtain ⟨R8, hR8⟩ : ∃ R : Act → World → Prop, R = fun a w => ∃ (u4 : Bool), u4 = o5 ∧ Kn [(2, (.bool u4))] 11 a ∧ Sat [] w0 w [(1, k0_0), (2, k0_1)] [] := ⟨_, rfl⟩
  refine wp_cutq R8 ?_ ?_
  · have H := h6
    apply wp_region_lit
    refine sln [.slice A0_0 x0.Sure.length p0_0, .slice A0_1 x0.Unsure.length p0_1] rfl hk rfl rfl rfl ag35 sz35 (box_cells hs (k := 3) rfl) fun a hk => ?_
    obtain ⟨y9, h10, H⟩ := bind_some H
    refine sc rfl en79 hk rfl rfl rfl (impl_DeviceOK_t _ x0 A0_0 p0_0 _ v0_0 (hs.hasD (k := 1) rfl) A0_1 p0_1 _ v0_1 (hs.hasD (k := 2) rfl) _ h10) ?_
    rintro _ w ⟨rfl, hG⟩ a hk
    have hs := hs.call0 hG
    refine sm _ rfl hk rfl rfl rfl fun a hk => ?_
    rcases cond_some H with ⟨c11, H⟩ | ⟨c11, H⟩
    · have hk := hk.lit 5 c11 rfl
      refine sf ⟨b2, 1, none⟩ rfl hk rfl rfl rfl fd35_1 rfl fun a hk => ?_
      refine sl rfl hk rfl rfl rfl ag33 (box_cell hs (k := 3) rfl rfl) fun a hk => ?_
      refine sle rfl hk rfl rfl rfl un33 fun a hk => ?_
      refine sv (.bool ((x0.Unsure.length : Int) == 0)) hk rfl rfl rfl fun a hk => ?_
      refine sv (.bool ((x0.Unsure.length : Int) == 0)) hk rfl rfl rfl fun a hk => ?_
      refine sa _ rfl hk rfl rfl rfl fun a hk => ?_
      show wpList _ _ _ [] _ _
      refine wpList_nil ?_
      obtain rfl := Option.some.inj H
      show R8 _ _
      rw [hR8]
      exact ⟨((x0.Unsure.length : Int) == 0), rfl, (hk.c 2 rfl hk.k), (hs.pick [] rfl)⟩
    · have hk := hk.lit 5 c11 rfl
      refine sk hk rfl rfl rfl fun a hk => ?_
      refine sk hk rfl rfl rfl fun a hk => ?_
      refine sk hk rfl rfl rfl fun a hk => ?_
      refine sk hk rfl rfl rfl fun a hk => ?_
      refine sv (.bool false) hk rfl rfl rfl fun a hk => ?_
      refine sa _ rfl hk rfl rfl rfl fun a hk => ?_
      show wpList _ _ _ [] _ _
      refine wpList_nil ?_
      obtain rfl := Option.some.inj H
      show R8 _ _
      rw [hR8]
      exact ⟨false, rfl, (hk.c 2 rfl hk.k), (hs.pick [] rfl)⟩
  · intro a w hR0
    rw [hR8] at hR0
    obtain ⟨u4, rfl, hk, hs⟩ := hR0
    have H := HL7
    try dsimp only at H
    refine hK3 _ _ ?_
    refine wp_ret ?_
    obtain rfl := Option.some.inj H
    exact fin hk _ [(.bool u4)] rfl ⟨rfl, trivial⟩ ⟨rfl, (hs.pick [] rfl).dnil⟩

noncomputable def impl_StoreOK.f (x0 : S_Store) : Option (Bool) :=
  (((bif ((x0.Key.size : Int) == 32) then ((impl_RegisterOK.f x0.Reg).bind fun y10 => (bif y10 then ((impl_isSure.f x0.Device).bind fun y13 => (bif y13 then (bif x0.Up then (some (!x0.Dead)) else (some true)) else (some false))) else (some false))) else (some false)) : Option (Bool)).bind fun u4 => (some u4))
set_option maxRecDepth 100000 in
set_option maxHeartbeats 0 in
theorem impl_StoreOK_t (w0 : World) (x0 : S_Store) (A0_0 : Option Addr) (p0_0 : Nat) (k0_0 : Chunk) (v0_0 : View Lay.str A0_0 p0_0 x0.Device.Sure k0_0) (w0_0 : Has w0 k0_0) (A0_1 : Option Addr) (p0_1 : Nat) (k0_1 : Chunk) (v0_1 : View L_Io A0_1 p0_1 x0.Device.Unsure k0_1) (w0_1 : Has w0 k0_1) (r : Bool) (H : impl_StoreOK.f x0 = some r) :
    Calls Try.prog 17 #[.agg #[.string x0.Key, .int .i64 x0.Reg.Epoch, .int .i64 x0.Reg.Side, .int .i64 x0.Reg.Count, .int .i64 x0.Reg.Boot, .string x0.Reg.Base, .string x0.Reg.Tip, .string x0.Reg.Root, .slice A0_0 x0.Device.Sure.length p0_0, .slice A0_1 x0.Device.Unsure.length p0_1, .bool x0.Up, .bool x0.Dead]] w0 (Ret (fun v w => v = .bool r ∧ Sat [] w0 w [] [])) := by
  have hs : Sat [] w0 w0 [(1, k0_0), (2, k0_1)] [] := Sat.init w0 [(1, k0_0), (2, k0_1)] [] (by simp only [List.mem_cons, List.not_mem_nil, or_false]; rintro x (rfl | rfl) <;> assumption) (by simp) List.nodup_nil (by simp [blks])
  unfold impl_StoreOK.f at H
  refine enter Try.func17 rfl Try.ntmps17 rfl fun a hk => ?_
  apply wp_seq_k; intro K1 hK1
  apply wp_region_lit
  refine sbx 3 hs rfl hk rfl rfl rfl rfl fun b2 w a hk hs => ?_
  refine sa _ rfl hk rfl rfl rfl fun a hk => ?_
  show wpList _ _ _ [] _ _
  refine wpList_nil ?_
  refine hK1 _ _ ?_
  apply wp_seq_k; intro K3 hK3
  obtain ⟨o5, h6, HL7⟩ := bind_some H
  clear H
  obtain ⟨R8, hR8⟩ : ∃ R : Act → World → Prop, R = fun a w => ∃ (u4 : Bool), u4 = o5 ∧ Kn [(2, (.bool u4))] 26 a ∧ Sat [] w0 w [(1, k0_0), (2, k0_1)] [] := ⟨_, rfl⟩
  refine wp_cutq R8 ?_ ?_
  · have H := h6
    apply wp_region_lit
    refine sf ⟨b2, 0, none⟩ rfl hk rfl rfl rfl fd37_0 rfl fun a hk => ?_
    refine sl rfl hk rfl rfl rfl ag9 (box_cell hs (k := 3) rfl rfl) fun a hk => ?_
    refine sles rfl hk rfl rfl rfl un9 fun a hk => ?_
    refine sv (.bool ((x0.Key.size : Int) == 32)) hk rfl rfl rfl fun a hk => ?_
    refine sm _ rfl hk rfl rfl rfl fun a hk => ?_
    rcases cond_some H with ⟨c9, H⟩ | ⟨c9, H⟩
    · have hk := hk.lit 7 c9 rfl
      refine sf ⟨b2, 1, none⟩ rfl hk rfl rfl rfl fd37_1 rfl fun a hk => ?_
      refine sln [.int .i64 x0.Reg.Epoch, .int .i64 x0.Reg.Side, .int .i64 x0.Reg.Count, .int .i64 x0.Reg.Boot, .string x0.Reg.Base, .string x0.Reg.Tip, .string x0.Reg.Root] rfl hk rfl rfl rfl ag32 sz32 (box_part hs (k := 3) rfl rfl) fun a hk => ?_
      obtain ⟨y10, h11, H⟩ := bind_some H
      refine sc rfl en50 hk rfl rfl rfl (impl_RegisterOK_t _ x0.Reg _ h11) ?_
      rintro _ w ⟨rfl, hG⟩ a hk
      have hs := hs.call0 hG
      refine sv (.bool y10) hk rfl rfl rfl fun a hk => ?_
      refine sm _ rfl hk rfl rfl rfl fun a hk => ?_
      rcases cond_some H with ⟨c12, H⟩ | ⟨c12, H⟩
      · have hk := hk.lit 12 c12 rfl
        refine sf ⟨b2, 8, none⟩ rfl hk rfl rfl rfl fd37_2 rfl fun a hk => ?_
        refine sln [.slice A0_0 x0.Device.Sure.length p0_0, .slice A0_1 x0.Device.Unsure.length p0_1] rfl hk rfl rfl rfl ag35 sz35 (box_part hs (k := 3) rfl rfl) fun a hk => ?_
        obtain ⟨y13, h14, H⟩ := bind_some H
        refine sc rfl en51 hk rfl rfl rfl (impl_isSure_t _ x0.Device A0_0 p0_0 _ v0_0 (hs.hasD (k := 1) rfl) A0_1 p0_1 _ v0_1 (hs.hasD (k := 2) rfl) _ h14) ?_
        rintro _ w ⟨rfl, hG⟩ a hk
        have hs := hs.call0 hG
        refine sv (.bool y13) hk rfl rfl rfl fun a hk => ?_
        refine sm _ rfl hk rfl rfl rfl fun a hk => ?_
        rcases cond_some H with ⟨c15, H⟩ | ⟨c15, H⟩
        · have hk := hk.lit 17 c15 rfl
          refine sf ⟨b2, 10, none⟩ rfl hk rfl rfl rfl fd37_3 rfl fun a hk => ?_
          refine sl rfl hk rfl rfl rfl ag4 (box_cell hs (k := 3) rfl rfl) fun a hk => ?_
          refine sm _ rfl hk rfl rfl rfl fun a hk => ?_
          rcases cond_some H with ⟨c16, H⟩ | ⟨c16, H⟩
          · have hk := hk.lit 20 c16 rfl
            refine sf ⟨b2, 11, none⟩ rfl hk rfl rfl rfl fd37_4 rfl fun a hk => ?_
            refine sl rfl hk rfl rfl rfl ag4 (box_cell hs (k := 3) rfl rfl) fun a hk => ?_
            refine sv (.bool x0.Dead) hk rfl rfl rfl fun a hk => ?_
            refine sv (.bool (!x0.Dead)) hk rfl rfl rfl fun a hk => ?_
            refine sv (.bool (!x0.Dead)) hk rfl rfl rfl fun a hk => ?_
            refine sa _ rfl hk rfl rfl rfl fun a hk => ?_
            show wpList _ _ _ [] _ _
            refine wpList_nil ?_
            obtain rfl := Option.some.inj H
            show R8 _ _
            rw [hR8]
            exact ⟨(!x0.Dead), rfl, (hk.c 2 rfl hk.k), (hs.pick [] rfl)⟩
          · have hk := hk.lit 20 c16 rfl
            refine sk hk rfl rfl rfl fun a hk => ?_
            refine sk hk rfl rfl rfl fun a hk => ?_
            refine sv (.bool false) hk rfl rfl rfl fun a hk => ?_
            refine sv (.bool true) hk rfl rfl rfl fun a hk => ?_
            refine sv (.bool true) hk rfl rfl rfl fun a hk => ?_
            refine sa _ rfl hk rfl rfl rfl fun a hk => ?_
            show wpList _ _ _ [] _ _
            refine wpList_nil ?_
            obtain rfl := Option.some.inj H
            show R8 _ _
            rw [hR8]
            exact ⟨true, rfl, (hk.c 2 rfl hk.k), (hs.pick [] rfl)⟩
        · have hk := hk.lit 17 c15 rfl
          refine sk hk rfl rfl rfl fun a hk => ?_
          refine sk hk rfl rfl rfl fun a hk => ?_
          refine sk hk rfl rfl rfl fun a hk => ?_
          refine sk hk rfl rfl rfl fun a hk => ?_
          refine sk hk rfl rfl rfl fun a hk => ?_
          refine sk hk rfl rfl rfl fun a hk => ?_
          refine sk hk rfl rfl rfl fun a hk => ?_
          refine sv (.bool false) hk rfl rfl rfl fun a hk => ?_
          refine sa _ rfl hk rfl rfl rfl fun a hk => ?_
          show wpList _ _ _ [] _ _
          refine wpList_nil ?_
          obtain rfl := Option.some.inj H
          show R8 _ _
          rw [hR8]
          exact ⟨false, rfl, (hk.c 2 rfl hk.k), (hs.pick [] rfl)⟩
      · have hk := hk.lit 12 c12 rfl
        refine sk hk rfl rfl rfl fun a hk => ?_
        refine sk hk rfl rfl rfl fun a hk => ?_
        refine sk hk rfl rfl rfl fun a hk => ?_
        refine sv (.bool false) hk rfl rfl rfl fun a hk => ?_
        refine sm _ rfl hk rfl rfl rfl fun a hk => ?_
        refine sk hk rfl rfl rfl fun a hk => ?_
        refine sk hk rfl rfl rfl fun a hk => ?_
        refine sk hk rfl rfl rfl fun a hk => ?_
        refine sk hk rfl rfl rfl fun a hk => ?_
        refine sk hk rfl rfl rfl fun a hk => ?_
        refine sk hk rfl rfl rfl fun a hk => ?_
        refine sk hk rfl rfl rfl fun a hk => ?_
        refine sv (.bool false) hk rfl rfl rfl fun a hk => ?_
        refine sa _ rfl hk rfl rfl rfl fun a hk => ?_
        show wpList _ _ _ [] _ _
        refine wpList_nil ?_
        obtain rfl := Option.some.inj H
        show R8 _ _
        rw [hR8]
        exact ⟨false, rfl, (hk.c 2 rfl hk.k), (hs.pick [] rfl)⟩
    · have hk := hk.lit 7 c9 rfl
      refine sk hk rfl rfl rfl fun a hk => ?_
      refine sk hk rfl rfl rfl fun a hk => ?_
      refine sk hk rfl rfl rfl fun a hk => ?_
      refine sv (.bool false) hk rfl rfl rfl fun a hk => ?_
      refine sm _ rfl hk rfl rfl rfl fun a hk => ?_
      refine sk hk rfl rfl rfl fun a hk => ?_
      refine sk hk rfl rfl rfl fun a hk => ?_
      refine sk hk rfl rfl rfl fun a hk => ?_
      refine sv (.bool false) hk rfl rfl rfl fun a hk => ?_
      refine sm _ rfl hk rfl rfl rfl fun a hk => ?_
      refine sk hk rfl rfl rfl fun a hk => ?_
      refine sk hk rfl rfl rfl fun a hk => ?_
      refine sk hk rfl rfl rfl fun a hk => ?_
      refine sk hk rfl rfl rfl fun a hk => ?_
      refine sk hk rfl rfl rfl fun a hk => ?_
      refine sk hk rfl rfl rfl fun a hk => ?_
      refine sk hk rfl rfl rfl fun a hk => ?_
      refine sv (.bool false) hk rfl rfl rfl fun a hk => ?_
      refine sa _ rfl hk rfl rfl rfl fun a hk => ?_
      show wpList _ _ _ [] _ _
      refine wpList_nil ?_
      obtain rfl := Option.some.inj H
      show R8 _ _
      rw [hR8]
      exact ⟨false, rfl, (hk.c 2 rfl hk.k), (hs.pick [] rfl)⟩
  · intro a w hR0
    rw [hR8] at hR0
    obtain ⟨u4, rfl, hk, hs⟩ := hR0
    have H := HL7
    try dsimp only at H
    refine hK3 _ _ ?_
    refine wp_ret ?_
    obtain rfl := Option.some.inj H
    exact fin hk _ [(.bool u4)] rfl ⟨rfl, trivial⟩ ⟨rfl, (hs.pick [] rfl).dnil⟩

noncomputable def laws_FnExactStoreOK.f (x0 : S_Store) : Option (Bool) :=
  ((laws_szStore.f x0 1048576).bind fun y5 => (bif (decide (y5 < 0)) then (some true) else ((laws_toStore.f x0).bind fun y12 => ((spec_StoreOK.f y12).bind fun y22 => ((laws_toStore.f x0).bind fun y25 => ((impl_StoreOK.f y25).bind fun y37 => (bif (!(y37 == y22)) then (some false) else ((laws_toStore.f x0).bind fun y46 => ((laws_eqStore.f y25 y46).bind fun y57 => (bif (!y57) then (some false) else (some true)))))))))))
set_option maxRecDepth 100000 in
set_option maxHeartbeats 0 in
theorem laws_FnExactStoreOK_t (w0 : World) (x0 : S_Store) (A0_0 : Option Addr) (p0_0 : Nat) (k0_0 : Chunk) (v0_0 : View Lay.str A0_0 p0_0 x0.Device.Sure k0_0) (w0_0 : Has w0 k0_0) (A0_1 : Option Addr) (p0_1 : Nat) (k0_1 : Chunk) (v0_1 : View L_Io A0_1 p0_1 x0.Device.Unsure k0_1) (w0_1 : Has w0 k0_1) (r : Bool) (H : laws_FnExactStoreOK.f x0 = some r) :
    Calls Try.prog 4 #[.agg #[.string x0.Key, .int .i64 x0.Reg.Epoch, .int .i64 x0.Reg.Side, .int .i64 x0.Reg.Count, .int .i64 x0.Reg.Boot, .string x0.Reg.Base, .string x0.Reg.Tip, .string x0.Reg.Root, .slice A0_0 x0.Device.Sure.length p0_0, .slice A0_1 x0.Device.Unsure.length p0_1, .bool x0.Up, .bool x0.Dead]] w0 (Ret (fun v w => v = .bool r ∧ Sat [] w0 w [] [])) := by
  have hs : Sat [] w0 w0 [(1, k0_0), (2, k0_1)] [] := Sat.init w0 [(1, k0_0), (2, k0_1)] [] (by simp only [List.mem_cons, List.not_mem_nil, or_false]; rintro x (rfl | rfl) <;> assumption) (by simp) List.nodup_nil (by simp [blks])
  unfold laws_FnExactStoreOK.f at H
  refine enter Try.func4 rfl Try.ntmps4 rfl fun a hk => ?_
  apply wp_seq_k; intro K1 hK1
  apply wp_region_lit
  refine sbx 3 hs rfl hk rfl rfl rfl rfl fun b2 w a hk hs => ?_
  refine sa _ rfl hk rfl rfl rfl fun a hk => ?_
  show wpList _ _ _ [] _ _
  refine wpList_nil ?_
  refine hK1 _ _ ?_
  apply wp_seq_k; intro K3 hK3
  apply wp_region_lit
  refine sa _ rfl hk rfl rfl rfl fun a hk => ?_
  show wpList _ _ _ [] _ _
  refine wpList_nil ?_
  refine hK3 _ _ ?_
  apply wp_seq_k; intro K4 hK4
  apply wp_region_lit
  refine sln [.string x0.Key, .int .i64 x0.Reg.Epoch, .int .i64 x0.Reg.Side, .int .i64 x0.Reg.Count, .int .i64 x0.Reg.Boot, .string x0.Reg.Base, .string x0.Reg.Tip, .string x0.Reg.Root, .slice A0_0 x0.Device.Sure.length p0_0, .slice A0_1 x0.Device.Unsure.length p0_1, .bool x0.Up, .bool x0.Dead] rfl hk rfl rfl rfl ag29 sz29 (box_cells hs (k := 3) rfl) fun a hk => ?_
  refine sm _ rfl hk rfl rfl rfl fun a hk => ?_
  obtain ⟨y5, h6, H⟩ := bind_some H
  refine sc rfl en11 hk rfl rfl rfl (laws_szStore_t _ x0 A0_0 p0_0 _ v0_0 (hs.hasD (k := 1) rfl) A0_1 p0_1 _ v0_1 (hs.hasD (k := 2) rfl) 1048576 _ h6) ?_
  rintro _ w ⟨rfl, hG⟩ a hk
  have hs := hs.call0 hG
  refine sa _ rfl hk rfl rfl rfl fun a hk => ?_
  show wpList _ _ _ [] _ _
  refine wpList_nil ?_
  refine hK4 _ _ ?_
  apply wp_seq_k; intro K7 hK7
  apply wp_seq_k; intro K8 hK8
  apply wp_region_lit
  refine sm _ rfl hk rfl rfl rfl fun a hk => ?_
  refine sv (.bool (decide (y5 < 0))) hk rfl rfl rfl fun a hk => ?_
  show wpList _ _ _ [] _ _
  refine wpList_nil ?_
  refine hK8 _ _ ?_
  rcases cond_some H with ⟨c9, H⟩ | ⟨c9, H⟩
  · have hk := hk.lit 11 c9 rfl
    refine cnd_true hk rfl rfl ?_
    apply wp_seq_k; intro K10 hK10
    apply wp_region_lit
    refine sa _ rfl hk rfl rfl rfl fun a hk => ?_
    show wpList _ _ _ [] _ _
    refine wpList_nil ?_
    refine hK10 _ _ ?_
    refine wp_ret ?_
    obtain rfl := Option.some.inj H
    exact fin hk _ [(.bool true)] rfl ⟨rfl, trivial⟩ ⟨rfl, (hs.pick [] rfl).dnil⟩
  · have hk := hk.lit 11 c9 rfl
    refine cnd_false hk rfl rfl ?_
    refine wp_skip ?_
    refine hK7 _ _ ?_
    apply wp_seq_k; intro K11 hK11
    apply wp_region_lit
    refine sln [.string x0.Key, .int .i64 x0.Reg.Epoch, .int .i64 x0.Reg.Side, .int .i64 x0.Reg.Count, .int .i64 x0.Reg.Boot, .string x0.Reg.Base, .string x0.Reg.Tip, .string x0.Reg.Root, .slice A0_0 x0.Device.Sure.length p0_0, .slice A0_1 x0.Device.Unsure.length p0_1, .bool x0.Up, .bool x0.Dead] rfl hk rfl rfl rfl ag29 sz29 (box_cells hs (k := 3) rfl) fun a hk => ?_
    obtain ⟨y12, h13, H⟩ := bind_some H
    refine sc rfl en13 hk rfl rfl rfl (laws_toStore_t _ x0 A0_0 p0_0 _ v0_0 (hs.hasD (k := 1) rfl) A0_1 p0_1 _ v0_1 (hs.hasD (k := 2) rfl) _ h13) ?_
    rintro _ w ⟨A14, p15, k16, A18, p19, k20, rfl, o17, o21, hG⟩ a hk
    have hs := hs.call0k hG [4, 5] rfl
    obtain ⟨y22, h23, H⟩ := bind_some H
    refine sc rfl en16 hk rfl rfl rfl (spec_StoreOK_t _ y12 A14 p15 _ o17.view (hs.hasG (k := 4) rfl) A18 p19 _ o21.view (hs.hasG (k := 5) rfl) _ h23) ?_
    rintro _ w ⟨rfl, hG⟩ a hk
    have hs := hs.call0 hG
    refine sa _ rfl hk rfl rfl rfl fun a hk => ?_
    show wpList _ _ _ [] _ _
    refine wpList_nil ?_
    refine hK11 _ _ ?_
    apply wp_seq_k; intro K24 hK24
    apply wp_region_lit
    refine sln [.string x0.Key, .int .i64 x0.Reg.Epoch, .int .i64 x0.Reg.Side, .int .i64 x0.Reg.Count, .int .i64 x0.Reg.Boot, .string x0.Reg.Base, .string x0.Reg.Tip, .string x0.Reg.Root, .slice A0_0 x0.Device.Sure.length p0_0, .slice A0_1 x0.Device.Unsure.length p0_1, .bool x0.Up, .bool x0.Dead] rfl hk rfl rfl rfl ag29 sz29 (box_cells hs (k := 3) rfl) fun a hk => ?_
    obtain ⟨y25, h26, H⟩ := bind_some H
    refine sc rfl en13 hk rfl rfl rfl (laws_toStore_t _ x0 A0_0 p0_0 _ v0_0 (hs.hasD (k := 1) rfl) A0_1 p0_1 _ v0_1 (hs.hasD (k := 2) rfl) _ h26) ?_
    rintro _ w ⟨A27, p28, k29, A31, p32, k33, rfl, o30, o34, hG⟩ a hk
    have hs := hs.call0k hG [6, 7] rfl
    refine salx 8 hs rfl hk rfl rfl ze37 rfl fun b35 w a hk hs => ?_
    refine ssw 8 hs rfl rfl hk rfl rfl rfl rfl sz37 (by simp [Value.oneCell']) rfl fun w a hk hs => ?_
    show wpList _ _ _ [] _ _
    refine wpList_nil ?_
    refine hK24 _ _ ?_
    apply wp_seq_k; intro K36 hK36
    apply wp_region_lit
    refine sln [.string y25.Key, .int .i64 y25.Reg.Epoch, .int .i64 y25.Reg.Side, .int .i64 y25.Reg.Count, .int .i64 y25.Reg.Boot, .string y25.Reg.Base, .string y25.Reg.Tip, .string y25.Reg.Root, .slice A27 y25.Device.Sure.length p28, .slice A31 y25.Device.Unsure.length p32, .bool y25.Up, .bool y25.Dead] rfl hk rfl rfl rfl ag37 sz37 (box_cells hs (k := 8) rfl) fun a hk => ?_
    obtain ⟨y37, h38, H⟩ := bind_some H
    refine sc rfl en17 hk rfl rfl rfl (impl_StoreOK_t _ y25 A27 p28 _ o30.view (hs.hasG (k := 6) rfl) A31 p32 _ o34.view (hs.hasG (k := 7) rfl) _ h38) ?_
    rintro _ w ⟨rfl, hG⟩ a hk
    have hs := hs.call0 hG
    refine sa _ rfl hk rfl rfl rfl fun a hk => ?_
    show wpList _ _ _ [] _ _
    refine wpList_nil ?_
    refine hK36 _ _ ?_
    apply wp_seq_k; intro K39 hK39
    apply wp_seq_k; intro K40 hK40
    apply wp_region_lit
    refine sm _ rfl hk rfl rfl rfl fun a hk => ?_
    refine sm _ rfl hk rfl rfl rfl fun a hk => ?_
    refine sbn rfl hk rfl rfl rfl rfl un4 fun a hk => ?_
    show wpList _ _ _ [] _ _
    refine wpList_nil ?_
    refine hK40 _ _ ?_
    rcases cond_some H with ⟨c41, H⟩ | ⟨c41, H⟩
    · have hk := hk.lit 21 c41 rfl
      refine cnd_true hk rfl rfl ?_
      apply wp_seq_k; intro K42 hK42
      apply wp_region_lit
      refine sa _ rfl hk rfl rfl rfl fun a hk => ?_
      show wpList _ _ _ [] _ _
      refine wpList_nil ?_
      refine hK42 _ _ ?_
      refine wp_ret ?_
      obtain rfl := Option.some.inj H
      exact fin hk _ [(.bool false)] rfl ⟨rfl, trivial⟩ ⟨rfl, (hs.pick [] rfl).dnil⟩
    · have hk := hk.lit 21 c41 rfl
      refine cnd_false hk rfl rfl ?_
      refine wp_skip ?_
      refine hK39 _ _ ?_
      apply wp_seq_k; intro K43 hK43
      apply wp_seq_k; intro K44 hK44
      refine wp_region_mix [(0, true), (1, true), (2, false), (3, false), (4, false)] mo (by kernel_rfl) (hs.pick [(8, 8), (7, 7), (6, 6), (5, 5), (4, 4), (3, 3)] rfl) fun _ => ?_
      have hs := hs.drew
      refine qst (.agg #[.string y25.Key, .int .i64 y25.Reg.Epoch, .int .i64 y25.Reg.Side, .int .i64 y25.Reg.Count, .int .i64 y25.Reg.Boot, .string y25.Reg.Base, .string y25.Reg.Tip, .string y25.Reg.Root, .slice A27 y25.Device.Sure.length p28, .slice A31 y25.Device.Unsure.length p32, .bool y25.Up, .bool y25.Dead]) hk rfl rfl rfl rfl (fun w hs => sln [.string y25.Key, .int .i64 y25.Reg.Epoch, .int .i64 y25.Reg.Side, .int .i64 y25.Reg.Count, .int .i64 y25.Reg.Boot, .string y25.Reg.Base, .string y25.Reg.Tip, .string y25.Reg.Root, .slice A27 y25.Device.Sure.length p28, .slice A31 y25.Device.Unsure.length p32, .bool y25.Up, .bool y25.Dead] rfl hk rfl rfl rfl ag37 sz37 (box_cells hs (k := 8) rfl) fun a hk => qe hk) fun a hk => ?_
      refine qst (.agg #[.string x0.Key, .int .i64 x0.Reg.Epoch, .int .i64 x0.Reg.Side, .int .i64 x0.Reg.Count, .int .i64 x0.Reg.Boot, .string x0.Reg.Base, .string x0.Reg.Tip, .string x0.Reg.Root, .slice A0_0 x0.Device.Sure.length p0_0, .slice A0_1 x0.Device.Unsure.length p0_1, .bool x0.Up, .bool x0.Dead]) hk rfl rfl rfl rfl (fun w hs => sln [.string x0.Key, .int .i64 x0.Reg.Epoch, .int .i64 x0.Reg.Side, .int .i64 x0.Reg.Count, .int .i64 x0.Reg.Boot, .string x0.Reg.Base, .string x0.Reg.Tip, .string x0.Reg.Root, .slice A0_0 x0.Device.Sure.length p0_0, .slice A0_1 x0.Device.Unsure.length p0_1, .bool x0.Up, .bool x0.Dead] rfl hk rfl rfl rfl ag29 sz29 (box_cells hs (k := 3) rfl) fun a hk => qe hk) fun a hk => ?_
      refine sst hk rfl rfl fun K45 hK45 w hF => ?_
      have hs := hs.f hF
      obtain ⟨y46, h47, H⟩ := bind_some H
      refine sc rfl en13 hk rfl rfl rfl (laws_toStore_t _ x0 A0_0 p0_0 _ v0_0 (hs.hasD (k := 1) rfl) A0_1 p0_1 _ v0_1 (hs.hasD (k := 2) rfl) _ h47) ?_
      rintro _ w ⟨A48, p49, k50, A52, p53, k54, rfl, o51, o55, hG⟩ a hk
      have hs := hs.call0k hG [9, 10] rfl
      refine se (hs.pick [(8, 8), (7, 7), (6, 6), (5, 5), (4, 4), (3, 3)] rfl) hk (hK45 _ _ ?_)
      refine sst hk rfl rfl fun K56 hK56 w hF => ?_
      have hs := hs.f hF
      obtain ⟨y57, h58, H⟩ := bind_some H
      refine sc rfl en15 hk rfl rfl rfl (laws_eqStore_t _ y25 A27 p28 _ o30.view (hs.hasG (k := 6) rfl) A31 p32 _ o34.view (hs.hasG (k := 7) rfl) y46 A48 p49 _ o51.view (hs.hasG (k := 9) rfl) A52 p53 _ o55.view (hs.hasG (k := 10) rfl) _ h58) ?_
      rintro _ w ⟨rfl, hG⟩ a hk
      have hs := hs.call0 hG
      refine se (hs.pick [(8, 8), (7, 7), (6, 6), (5, 5), (4, 4), (3, 3)] rfl) hk (hK56 _ _ ?_)
      refine sst hk rfl rfl fun K59 hK59 w hF => ?_
      have hs := hs.f hF
      refine sv (.bool (!y57)) hk rfl rfl rfl fun a hk => ?_
      refine se (hs.pick [(8, 8), (7, 7), (6, 6), (5, 5), (4, 4), (3, 3)] rfl) hk (hK59 _ _ ?_)
      refine wml_nil fun w hF _ => ?_
      have hs := hs.f hF
      refine hK44 _ _ ?_
      rcases cond_some H with ⟨c60, H⟩ | ⟨c60, H⟩
      · have hk := hk.lit 26 c60 rfl
        refine cnd_true hk rfl rfl ?_
        apply wp_seq_k; intro K61 hK61
        apply wp_region_lit
        refine sa _ rfl hk rfl rfl rfl fun a hk => ?_
        show wpList _ _ _ [] _ _
        refine wpList_nil ?_
        refine hK61 _ _ ?_
        refine wp_ret ?_
        obtain rfl := Option.some.inj H
        exact fin hk _ [(.bool false)] rfl ⟨rfl, trivial⟩ ⟨rfl, (hs.pick [] rfl).dnil⟩
      · have hk := hk.lit 26 c60 rfl
        refine cnd_false hk rfl rfl ?_
        refine wp_skip ?_
        refine hK43 _ _ ?_
        apply wp_seq_k; intro K62 hK62
        apply wp_region_lit
        refine sa _ rfl hk rfl rfl rfl fun a hk => ?_
        show wpList _ _ _ [] _ _
        refine wpList_nil ?_
        refine hK62 _ _ ?_
        refine wp_ret ?_
        obtain rfl := Option.some.inj H
        exact fin hk _ [(.bool true)] rfl ⟨rfl, trivial⟩ ⟨rfl, (hs.pick [] rfl).dnil⟩

end Go.Proofs.Ytmafglodgnbajaa
