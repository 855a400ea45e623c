/- The functions that FnExactRegisterOK reaches: for each a model and the walk that shows that the Go code comes to it. -/
import Derived.Test.YtjelagjijnpkdaaGXOpOK
namespace Go.Proofs.Ytjelagjijnpkdaa
open Go Go.Z Go.Proofs Go.MuLone Go.ChangeShapes Go.WideShapes Go.ChangeAt Go.RowKit
set_option linter.unusedVariables false
set_option linter.unusedSimpArgs false
noncomputable def laws_szRegister.f (x0 : S_Register) (x1 : Int) : Option (Int) :=
  (bif (decide ((w64 (x1 - (x0.Base.size : Int))) < 0)) then (some (-1)) else (bif (decide ((w64 ((w64 (x1 - (x0.Base.size : Int))) - (x0.Tip.size : Int))) < 0)) then (some (-1)) else (bif (decide ((w64 ((w64 ((w64 (x1 - (x0.Base.size : Int))) - (x0.Tip.size : Int))) - (x0.Root.size : Int))) < 0)) then (some (-1)) else (some (w64 ((w64 ((w64 (x1 - (x0.Base.size : Int))) - (x0.Tip.size : Int))) - (x0.Root.size : Int)))))))
theorem laws_szRegister_t (w0 : World) (x0 : S_Register) (x1 : Int) (r : Int) (H : laws_szRegister.f x0 x1 = some r) :
    Calls Try.prog 12 #[.agg #[.int .i64 x0.Epoch, .int .i64 x0.Side, .int .i64 x0.Count, .int .i64 x0.Boot, .string x0.Base, .string x0.Tip, .string x0.Root], .int .i64 x1] w0 (Ret (fun v w => v = .int .i64 r ∧ Sat [] w0 w [] [])) := by
  have hs : Sat [] w0 w0 [] [] := Sat.init w0 [] [] (by simp) (by simp) List.nodup_nil (by simp [blks])
  unfold laws_szRegister.f at H
  refine enter Try.func12 rfl Try.ntmps12 rfl fun a hk => ?_
  apply wp_seq_k; intro K1 hK1
  apply wp_region_lit
  refine sbx 1 hs rfl hk rfl rfl rfl rfl fun b2 w a hk hs => ?_
  refine sa _ rfl hk rfl rfl rfl fun a hk => ?_
  show wpList _ _ _ [] _ _
  refine wpList_nil ?_
  refine hK1 _ _ ?_
  apply wp_seq_k; intro K3 hK3
  apply wp_region_lit
  refine sm _ rfl hk rfl rfl rfl fun a hk => ?_
  refine sf ⟨b2, 4, none⟩ rfl hk rfl rfl rfl fd29_4 rfl fun a hk => ?_
  refine sl rfl hk rfl rfl rfl ag9 (box_cell hs (k := 1) rfl rfl) fun a hk => ?_
  refine sles rfl hk rfl rfl rfl un9 fun a hk => ?_
  refine sv (.int .i64 (w64 (x1 - (x0.Base.size : Int)))) hk rfl rfl rfl fun a hk => ?_
  refine sa _ rfl hk rfl rfl rfl fun a hk => ?_
  show wpList _ _ _ [] _ _
  refine wpList_nil ?_
  refine hK3 _ _ ?_
  apply wp_seq_k; intro K4 hK4
  apply wp_seq_k; intro K5 hK5
  apply wp_region_lit
  refine sm _ rfl hk rfl rfl rfl fun a hk => ?_
  refine sv (.bool (decide ((w64 (x1 - (x0.Base.size : Int))) < 0))) hk rfl rfl rfl fun a hk => ?_
  show wpList _ _ _ [] _ _
  refine wpList_nil ?_
  refine hK5 _ _ ?_
  rcases cond_some H with ⟨c6, H⟩ | ⟨c6, H⟩
  · have hk := hk.lit 11 c6 rfl
    refine cnd_true hk rfl rfl ?_
    apply wp_seq_k; intro K7 hK7
    apply wp_region_lit
    refine sa _ rfl hk rfl rfl rfl fun a hk => ?_
    show wpList _ _ _ [] _ _
    refine wpList_nil ?_
    refine hK7 _ _ ?_
    refine wp_ret ?_
    obtain rfl := Option.some.inj H
    exact fin hk _ [(.int .i64 (-1))] rfl ⟨rfl, trivial⟩ ⟨rfl, (hs.pick [] rfl).dnil⟩
  · have hk := hk.lit 11 c6 rfl
    refine cnd_false hk rfl rfl ?_
    refine wp_skip ?_
    refine hK4 _ _ ?_
    apply wp_seq_k; intro K8 hK8
    apply wp_region_lit
    refine sm _ rfl hk rfl rfl rfl fun a hk => ?_
    refine sf ⟨b2, 5, none⟩ rfl hk rfl rfl rfl fd29_5 rfl fun a hk => ?_
    refine sl rfl hk rfl rfl rfl ag9 (box_cell hs (k := 1) rfl rfl) fun a hk => ?_
    refine sles rfl hk rfl rfl rfl un9 fun a hk => ?_
    refine sv (.int .i64 (w64 ((w64 (x1 - (x0.Base.size : Int))) - (x0.Tip.size : Int)))) hk rfl rfl rfl fun a hk => ?_
    refine sa _ rfl hk rfl rfl rfl fun a hk => ?_
    show wpList _ _ _ [] _ _
    refine wpList_nil ?_
    refine hK8 _ _ ?_
    apply wp_seq_k; intro K9 hK9
    apply wp_seq_k; intro K10 hK10
    apply wp_region_lit
    refine sm _ rfl hk rfl rfl rfl fun a hk => ?_
    refine sv (.bool (decide ((w64 ((w64 (x1 - (x0.Base.size : Int))) - (x0.Tip.size : Int))) < 0))) hk rfl rfl rfl fun a hk => ?_
    show wpList _ _ _ [] _ _
    refine wpList_nil ?_
    refine hK10 _ _ ?_
    rcases cond_some H with ⟨c11, H⟩ | ⟨c11, H⟩
    · have hk := hk.lit 18 c11 rfl
      refine cnd_true hk rfl rfl ?_
      apply wp_seq_k; intro K12 hK12
      apply wp_region_lit
      refine sa _ rfl hk rfl rfl rfl fun a hk => ?_
      show wpList _ _ _ [] _ _
      refine wpList_nil ?_
      refine hK12 _ _ ?_
      refine wp_ret ?_
      obtain rfl := Option.some.inj H
      exact fin hk _ [(.int .i64 (-1))] rfl ⟨rfl, trivial⟩ ⟨rfl, (hs.pick [] rfl).dnil⟩
    · have hk := hk.lit 18 c11 rfl
      refine cnd_false hk rfl rfl ?_
      refine wp_skip ?_
      refine hK9 _ _ ?_
      apply wp_seq_k; intro K13 hK13
      apply wp_region_lit
      refine sm _ rfl hk rfl rfl rfl fun a hk => ?_
      refine sf ⟨b2, 6, none⟩ rfl hk rfl rfl rfl fd29_6 rfl fun a hk => ?_
      refine sl rfl hk rfl rfl rfl ag9 (box_cell hs (k := 1) rfl rfl) fun a hk => ?_
      refine sles rfl hk rfl rfl rfl un9 fun a hk => ?_
      refine sv (.int .i64 (w64 ((w64 ((w64 (x1 - (x0.Base.size : Int))) - (x0.Tip.size : Int))) - (x0.Root.size : Int)))) hk rfl rfl rfl fun a hk => ?_
      refine sa _ rfl hk rfl rfl rfl fun a hk => ?_
      show wpList _ _ _ [] _ _
      refine wpList_nil ?_
      refine hK13 _ _ ?_
      apply wp_seq_k; intro K14 hK14
      apply wp_seq_k; intro K15 hK15
      apply wp_region_lit
      refine sm _ rfl hk rfl rfl rfl fun a hk => ?_
      refine sv (.bool (decide ((w64 ((w64 ((w64 (x1 - (x0.Base.size : Int))) - (x0.Tip.size : Int))) - (x0.Root.size : Int))) < 0))) hk rfl rfl rfl fun a hk => ?_
      show wpList _ _ _ [] _ _
      refine wpList_nil ?_
      refine hK15 _ _ ?_
      rcases cond_some H with ⟨c16, H⟩ | ⟨c16, H⟩
      · have hk := hk.lit 25 c16 rfl
        refine cnd_true hk rfl rfl ?_
        apply wp_seq_k; intro K17 hK17
        apply wp_region_lit
        refine sa _ rfl hk rfl rfl rfl fun a hk => ?_
        show wpList _ _ _ [] _ _
        refine wpList_nil ?_
        refine hK17 _ _ ?_
        refine wp_ret ?_
        obtain rfl := Option.some.inj H
        exact fin hk _ [(.int .i64 (-1))] rfl ⟨rfl, trivial⟩ ⟨rfl, (hs.pick [] rfl).dnil⟩
      · have hk := hk.lit 25 c16 rfl
        refine cnd_false hk rfl rfl ?_
        refine wp_skip ?_
        refine hK14 _ _ ?_
        apply wp_seq_k; intro K18 hK18
        apply wp_region_lit
        refine sm _ rfl hk rfl rfl rfl fun a hk => ?_
        refine sa _ rfl hk rfl rfl rfl fun a hk => ?_
        show wpList _ _ _ [] _ _
        refine wpList_nil ?_
        refine hK18 _ _ ?_
        refine wp_ret ?_
        obtain rfl := Option.some.inj H
        exact fin hk _ [(.int .i64 (w64 ((w64 ((w64 (x1 - (x0.Base.size : Int))) - (x0.Tip.size : Int))) - (x0.Root.size : Int))))] rfl ⟨rfl, trivial⟩ ⟨rfl, (hs.pick [] rfl).dnil⟩

noncomputable def spec_RegisterOK.f (x0 : S_Register) : Option (Bool) :=
  ((spec_l01In.f x0.Epoch 0 1000000).bind fun y4 => (bif y4 then ((spec_l01In.f x0.Side 0 1).bind fun y7 => (bif y7 then ((spec_l01In.f x0.Boot 0 1000000).bind fun y10 => (bif y10 then ((spec_l01In.f x0.Count x0.Epoch (if 1000000 < (w64 (x0.Epoch + 4)) then 1000000 else (w64 (x0.Epoch + 4)))).bind fun y13 => (bif y13 then (bif ((x0.Base.size : Int) == 32) then (bif ((x0.Tip.size : Int) == 32) then (bif ((x0.Root.size : Int) == 32) then (bif (decide (x0.Count > x0.Epoch)) then (some true) else (some (x0.Base.toList == x0.Tip.toList))) else (some false)) else (some false)) else (some false)) else (some false))) else (some false))) else (some false))) else (some false)))
theorem spec_RegisterOK_t (w0 : World) (x0 : S_Register) (r : Bool) (H : spec_RegisterOK.f x0 = some r) :
    Calls Try.prog 13 #[.agg #[.int .i64 x0.Epoch, .int .i64 x0.Side, .int .i64 x0.Count, .int .i64 x0.Boot, .string x0.Base, .string x0.Tip, .string x0.Root]] w0 (Ret (fun v w => v = .bool r ∧ Sat [] w0 w [] [])) := by
  have hs : Sat [] w0 w0 [] [] := Sat.init w0 [] [] (by simp) (by simp) List.nodup_nil (by simp [blks])
  unfold spec_RegisterOK.f at H
  refine enter Try.func13 rfl Try.ntmps13 rfl fun a hk => ?_
  apply wp_seq_k; intro K1 hK1
  apply wp_region_lit
  refine sbx 1 hs rfl hk rfl rfl rfl rfl fun b2 w a hk hs => ?_
  refine sa _ rfl hk rfl rfl rfl fun a hk => ?_
  show wpList _ _ _ [] _ _
  refine wpList_nil ?_
  refine hK1 _ _ ?_
  apply wp_seq_k; intro K3 hK3
  apply wp_region_lit
  refine sf ⟨b2, 0, none⟩ rfl hk rfl rfl rfl fd32_0 rfl fun a hk => ?_
  refine sl rfl hk rfl rfl rfl ag3 (box_cell hs (k := 1) rfl rfl) fun a hk => ?_
  obtain ⟨y4, h5, H⟩ := bind_some H
  refine sc rfl en32 hk rfl rfl rfl (spec_l01In_t _ x0.Epoch 0 1000000 _ h5) ?_
  rintro _ w ⟨rfl, hG⟩ a hk
  have hs := hs.call0 hG
  refine sm _ rfl hk rfl rfl rfl fun a hk => ?_
  rcases cond_some H with ⟨c6, H⟩ | ⟨c6, H⟩
  · have hk := hk.lit 6 c6 rfl
    refine sf ⟨b2, 1, none⟩ rfl hk rfl rfl rfl fd32_1 rfl fun a hk => ?_
    refine sl rfl hk rfl rfl rfl ag3 (box_cell hs (k := 1) rfl rfl) fun a hk => ?_
    obtain ⟨y7, h8, H⟩ := bind_some H
    refine sc rfl en32 hk rfl rfl rfl (spec_l01In_t _ x0.Side 0 1 _ h8) ?_
    rintro _ w ⟨rfl, hG⟩ a hk
    have hs := hs.call0 hG
    refine sv (.bool y7) hk rfl rfl rfl fun a hk => ?_
    refine sm _ rfl hk rfl rfl rfl fun a hk => ?_
    rcases cond_some H with ⟨c9, H⟩ | ⟨c9, H⟩
    · have hk := hk.lit 11 c9 rfl
      refine sf ⟨b2, 3, none⟩ rfl hk rfl rfl rfl fd32_3 rfl fun a hk => ?_
      refine sl rfl hk rfl rfl rfl ag3 (box_cell hs (k := 1) rfl rfl) fun a hk => ?_
      obtain ⟨y10, h11, H⟩ := bind_some H
      refine sc rfl en32 hk rfl rfl rfl (spec_l01In_t _ x0.Boot 0 1000000 _ h11) ?_
      rintro _ w ⟨rfl, hG⟩ a hk
      have hs := hs.call0 hG
      refine sv (.bool y10) hk rfl rfl rfl fun a hk => ?_
      refine sm _ rfl hk rfl rfl rfl fun a hk => ?_
      rcases cond_some H with ⟨c12, H⟩ | ⟨c12, H⟩
      · have hk := hk.lit 16 c12 rfl
        refine sf ⟨b2, 2, none⟩ rfl hk rfl rfl rfl fd32_2 rfl fun a hk => ?_
        refine sl rfl hk rfl rfl rfl ag3 (box_cell hs (k := 1) rfl rfl) fun a hk => ?_
        refine sf ⟨b2, 0, none⟩ rfl hk rfl rfl rfl fd32_0 rfl fun a hk => ?_
        refine sl rfl hk rfl rfl rfl ag3 (box_cell hs (k := 1) rfl rfl) fun a hk => ?_
        refine sf ⟨b2, 0, none⟩ rfl hk rfl rfl rfl fd32_0 rfl fun a hk => ?_
        refine sl rfl hk rfl rfl rfl ag3 (box_cell hs (k := 1) rfl rfl) fun a hk => ?_
        refine sv (.int .i64 (w64 (x0.Epoch + 4))) hk rfl rfl rfl fun a hk => ?_
        refine smn rfl hk rfl rfl rfl rfl fun a hk => ?_
        obtain ⟨y13, h14, H⟩ := bind_some H
        refine sc rfl en32 hk rfl rfl rfl (spec_l01In_t _ x0.Count x0.Epoch (if 1000000 < (w64 (x0.Epoch + 4)) then 1000000 else (w64 (x0.Epoch + 4))) _ h14) ?_
        rintro _ w ⟨rfl, hG⟩ a hk
        have hs := hs.call0 hG
        refine sv (.bool y13) hk rfl rfl rfl fun a hk => ?_
        refine sm _ rfl hk rfl rfl rfl fun a hk => ?_
        rcases cond_some H with ⟨c15, H⟩ | ⟨c15, H⟩
        · have hk := hk.lit 27 c15 rfl
          refine sf ⟨b2, 4, none⟩ rfl hk rfl rfl rfl fd32_4 rfl fun a hk => ?_
          refine sl rfl hk rfl rfl rfl ag9 (box_cell hs (k := 1) rfl rfl) fun a hk => ?_
          refine sles rfl hk rfl rfl rfl un9 fun a hk => ?_
          refine sv (.bool ((x0.Base.size : Int) == 32)) hk rfl rfl rfl fun a hk => ?_
          refine sv (.bool ((x0.Base.size : Int) == 32)) hk rfl rfl rfl fun a hk => ?_
          refine sm _ rfl hk rfl rfl rfl fun a hk => ?_
          rcases cond_some H with ⟨c16, H⟩ | ⟨c16, H⟩
          · have hk := hk.lit 33 c16 rfl
            refine sf ⟨b2, 5, none⟩ rfl hk rfl rfl rfl fd32_5 rfl fun a hk => ?_
            refine sl rfl hk rfl rfl rfl ag9 (box_cell hs (k := 1) rfl rfl) fun a hk => ?_
            refine sles rfl hk rfl rfl rfl un9 fun a hk => ?_
            refine sv (.bool ((x0.Tip.size : Int) == 32)) hk rfl rfl rfl fun a hk => ?_
            refine sv (.bool ((x0.Tip.size : Int) == 32)) hk rfl rfl rfl fun a hk => ?_
            refine sm _ rfl hk rfl rfl rfl fun a hk => ?_
            rcases cond_some H with ⟨c17, H⟩ | ⟨c17, H⟩
            · have hk := hk.lit 39 c17 rfl
              refine sf ⟨b2, 6, none⟩ rfl hk rfl rfl rfl fd32_6 rfl fun a hk => ?_
              refine sl rfl hk rfl rfl rfl ag9 (box_cell hs (k := 1) rfl rfl) fun a hk => ?_
              refine sles rfl hk rfl rfl rfl un9 fun a hk => ?_
              refine sv (.bool ((x0.Root.size : Int) == 32)) hk rfl rfl rfl fun a hk => ?_
              refine sv (.bool ((x0.Root.size : Int) == 32)) hk rfl rfl rfl fun a hk => ?_
              refine sm _ rfl hk rfl rfl rfl fun a hk => ?_
              rcases cond_some H with ⟨c18, H⟩ | ⟨c18, H⟩
              · have hk := hk.lit 45 c18 rfl
                refine sf ⟨b2, 2, none⟩ rfl hk rfl rfl rfl fd32_2 rfl fun a hk => ?_
                refine sl rfl hk rfl rfl rfl ag3 (box_cell hs (k := 1) rfl rfl) fun a hk => ?_
                refine sf ⟨b2, 0, none⟩ rfl hk rfl rfl rfl fd32_0 rfl fun a hk => ?_
                refine sl rfl hk rfl rfl rfl ag3 (box_cell hs (k := 1) rfl rfl) fun a hk => ?_
                refine sv (.bool (decide (x0.Count > x0.Epoch))) hk rfl rfl rfl fun a hk => ?_
                refine sm _ rfl hk rfl rfl rfl fun a hk => ?_
                rcases cond_some H with ⟨c19, H⟩ | ⟨c19, H⟩
                · have hk := hk.lit 51 c19 rfl
                  refine sk hk rfl rfl rfl fun a hk => ?_
                  refine sk hk rfl rfl rfl fun a hk => ?_
                  refine sk hk rfl rfl rfl fun a hk => ?_
                  refine sk hk rfl rfl rfl fun a hk => ?_
                  refine sk hk rfl rfl rfl fun a hk => ?_
                  refine sv (.bool true) hk rfl rfl rfl fun a hk => ?_
                  refine sv (.bool true) hk rfl rfl rfl fun a hk => ?_
                  refine sa _ rfl hk rfl rfl rfl fun a hk => ?_
                  show wpList _ _ _ [] _ _
                  refine wpList_nil ?_
                  refine hK3 _ _ ?_
                  refine wp_ret ?_
                  obtain rfl := Option.some.inj H
                  exact fin hk _ [(.bool true)] rfl ⟨rfl, trivial⟩ ⟨rfl, (hs.pick [] rfl).dnil⟩
                · have hk := hk.lit 51 c19 rfl
                  refine sf ⟨b2, 4, none⟩ rfl hk rfl rfl rfl fd32_4 rfl fun a hk => ?_
                  refine sl rfl hk rfl rfl rfl ag9 (box_cell hs (k := 1) rfl rfl) fun a hk => ?_
                  refine sf ⟨b2, 5, none⟩ rfl hk rfl rfl rfl fd32_5 rfl fun a hk => ?_
                  refine sl rfl hk rfl rfl rfl ag9 (box_cell hs (k := 1) rfl rfl) fun a hk => ?_
                  refine sv (.bool (x0.Base.toList == x0.Tip.toList)) hk rfl rfl rfl fun a hk => ?_
                  refine sv (.bool (x0.Base.toList == x0.Tip.toList)) hk rfl rfl rfl fun a hk => ?_
                  refine sv (.bool (x0.Base.toList == x0.Tip.toList)) hk rfl rfl rfl fun a hk => ?_
                  refine sa _ rfl hk rfl rfl rfl fun a hk => ?_
                  show wpList _ _ _ [] _ _
                  refine wpList_nil ?_
                  refine hK3 _ _ ?_
                  refine wp_ret ?_
                  obtain rfl := Option.some.inj H
                  exact fin hk _ [(.bool (x0.Base.toList == x0.Tip.toList))] rfl ⟨rfl, trivial⟩ ⟨rfl, (hs.pick [] rfl).dnil⟩
              · have hk := hk.lit 45 c18 rfl
                refine sk hk rfl rfl rfl fun a hk => ?_
                refine sk hk rfl rfl rfl fun a hk => ?_
                refine sk hk rfl rfl rfl fun a hk => ?_
                refine sk hk rfl rfl rfl fun a hk => ?_
                refine sk hk rfl rfl rfl fun a hk => ?_
                refine sk hk rfl rfl rfl fun a hk => ?_
                refine sk hk rfl rfl rfl fun a hk => ?_
                refine sk hk rfl rfl rfl fun a hk => ?_
                refine sk hk rfl rfl rfl fun a hk => ?_
                refine sk hk rfl rfl rfl fun a hk => ?_
                refine sk hk rfl rfl rfl fun a hk => ?_
                refine sk hk rfl rfl rfl fun a hk => ?_
                refine sv (.bool false) hk rfl rfl rfl fun a hk => ?_
                refine sa _ rfl hk rfl rfl rfl fun a hk => ?_
                show wpList _ _ _ [] _ _
                refine wpList_nil ?_
                refine hK3 _ _ ?_
                refine wp_ret ?_
                obtain rfl := Option.some.inj H
                exact fin hk _ [(.bool false)] rfl ⟨rfl, trivial⟩ ⟨rfl, (hs.pick [] rfl).dnil⟩
            · have hk := hk.lit 39 c17 rfl
              refine sk hk rfl rfl rfl fun a hk => ?_
              refine sk hk rfl rfl rfl fun a hk => ?_
              refine sk hk rfl rfl rfl fun a hk => ?_
              refine sk hk rfl rfl rfl fun a hk => ?_
              refine sv (.bool false) hk rfl rfl rfl fun a hk => ?_
              refine sm _ rfl hk rfl rfl rfl fun a hk => ?_
              refine sk hk rfl rfl rfl fun a hk => ?_
              refine sk hk rfl rfl rfl fun a hk => ?_
              refine sk hk rfl rfl rfl fun a hk => ?_
              refine sk hk rfl rfl rfl fun a hk => ?_
              refine sk hk rfl rfl rfl fun a hk => ?_
              refine sk hk rfl rfl rfl fun a hk => ?_
              refine sk hk rfl rfl rfl fun a hk => ?_
              refine sk hk rfl rfl rfl fun a hk => ?_
              refine sk hk rfl rfl rfl fun a hk => ?_
              refine sk hk rfl rfl rfl fun a hk => ?_
              refine sk hk rfl rfl rfl fun a hk => ?_
              refine sk hk rfl rfl rfl fun a hk => ?_
              refine sv (.bool false) hk rfl rfl rfl fun a hk => ?_
              refine sa _ rfl hk rfl rfl rfl fun a hk => ?_
              show wpList _ _ _ [] _ _
              refine wpList_nil ?_
              refine hK3 _ _ ?_
              refine wp_ret ?_
              obtain rfl := Option.some.inj H
              exact fin hk _ [(.bool false)] rfl ⟨rfl, trivial⟩ ⟨rfl, (hs.pick [] rfl).dnil⟩
          · have hk := hk.lit 33 c16 rfl
            refine sk hk rfl rfl rfl fun a hk => ?_
            refine sk hk rfl rfl rfl fun a hk => ?_
            refine sk hk rfl rfl rfl fun a hk => ?_
            refine sk hk rfl rfl rfl fun a hk => ?_
            refine sv (.bool false) hk rfl rfl rfl fun a hk => ?_
            refine sm _ rfl hk rfl rfl rfl fun a hk => ?_
            refine sk hk rfl rfl rfl fun a hk => ?_
            refine sk hk rfl rfl rfl fun a hk => ?_
            refine sk hk rfl rfl rfl fun a hk => ?_
            refine sk hk rfl rfl rfl fun a hk => ?_
            refine sv (.bool false) hk rfl rfl rfl fun a hk => ?_
            refine sm _ rfl hk rfl rfl rfl fun a hk => ?_
            refine sk hk rfl rfl rfl fun a hk => ?_
            refine sk hk rfl rfl rfl fun a hk => ?_
            refine sk hk rfl rfl rfl fun a hk => ?_
            refine sk hk rfl rfl rfl fun a hk => ?_
            refine sk hk rfl rfl rfl fun a hk => ?_
            refine sk hk rfl rfl rfl fun a hk => ?_
            refine sk hk rfl rfl rfl fun a hk => ?_
            refine sk hk rfl rfl rfl fun a hk => ?_
            refine sk hk rfl rfl rfl fun a hk => ?_
            refine sk hk rfl rfl rfl fun a hk => ?_
            refine sk hk rfl rfl rfl fun a hk => ?_
            refine sk hk rfl rfl rfl fun a hk => ?_
            refine sv (.bool false) hk rfl rfl rfl fun a hk => ?_
            refine sa _ rfl hk rfl rfl rfl fun a hk => ?_
            show wpList _ _ _ [] _ _
            refine wpList_nil ?_
            refine hK3 _ _ ?_
            refine wp_ret ?_
            obtain rfl := Option.some.inj H
            exact fin hk _ [(.bool false)] rfl ⟨rfl, trivial⟩ ⟨rfl, (hs.pick [] rfl).dnil⟩
        · have hk := hk.lit 27 c15 rfl
          refine sk hk rfl rfl rfl fun a hk => ?_
          refine sk hk rfl rfl rfl fun a hk => ?_
          refine sk hk rfl rfl rfl fun a hk => ?_
          refine sk hk rfl rfl rfl fun a hk => ?_
          refine sv (.bool false) hk rfl rfl rfl fun a hk => ?_
          refine sm _ rfl hk rfl rfl rfl fun a hk => ?_
          refine sk hk rfl rfl rfl fun a hk => ?_
          refine sk hk rfl rfl rfl fun a hk => ?_
          refine sk hk rfl rfl rfl fun a hk => ?_
          refine sk hk rfl rfl rfl fun a hk => ?_
          refine sv (.bool false) hk rfl rfl rfl fun a hk => ?_
          refine sm _ rfl hk rfl rfl rfl fun a hk => ?_
          refine sk hk rfl rfl rfl fun a hk => ?_
          refine sk hk rfl rfl rfl fun a hk => ?_
          refine sk hk rfl rfl rfl fun a hk => ?_
          refine sk hk rfl rfl rfl fun a hk => ?_
          refine sv (.bool false) hk rfl rfl rfl fun a hk => ?_
          refine sm _ rfl hk rfl rfl rfl fun a hk => ?_
          refine sk hk rfl rfl rfl fun a hk => ?_
          refine sk hk rfl rfl rfl fun a hk => ?_
          refine sk hk rfl rfl rfl fun a hk => ?_
          refine sk hk rfl rfl rfl fun a hk => ?_
          refine sk hk rfl rfl rfl fun a hk => ?_
          refine sk hk rfl rfl rfl fun a hk => ?_
          refine sk hk rfl rfl rfl fun a hk => ?_
          refine sk hk rfl rfl rfl fun a hk => ?_
          refine sk hk rfl rfl rfl fun a hk => ?_
          refine sk hk rfl rfl rfl fun a hk => ?_
          refine sk hk rfl rfl rfl fun a hk => ?_
          refine sk hk rfl rfl rfl fun a hk => ?_
          refine sv (.bool false) hk rfl rfl rfl fun a hk => ?_
          refine sa _ rfl hk rfl rfl rfl fun a hk => ?_
          show wpList _ _ _ [] _ _
          refine wpList_nil ?_
          refine hK3 _ _ ?_
          refine wp_ret ?_
          obtain rfl := Option.some.inj H
          exact fin hk _ [(.bool false)] rfl ⟨rfl, trivial⟩ ⟨rfl, (hs.pick [] rfl).dnil⟩
      · have hk := hk.lit 16 c12 rfl
        refine sk hk rfl rfl rfl fun a hk => ?_
        refine sk hk rfl rfl rfl fun a hk => ?_
        refine sk hk rfl rfl rfl fun a hk => ?_
        refine sk hk rfl rfl rfl fun a hk => ?_
        refine sk hk rfl rfl rfl fun a hk => ?_
        refine sk hk rfl rfl rfl fun a hk => ?_
        refine sk hk rfl rfl rfl fun a hk => ?_
        refine sk hk rfl rfl rfl fun a hk => ?_
        refine sk hk rfl rfl rfl fun a hk => ?_
        refine sv (.bool false) hk rfl rfl rfl fun a hk => ?_
        refine sm _ rfl hk rfl rfl rfl fun a hk => ?_
        refine sk hk rfl rfl rfl fun a hk => ?_
        refine sk hk rfl rfl rfl fun a hk => ?_
        refine sk hk rfl rfl rfl fun a hk => ?_
        refine sk hk rfl rfl rfl fun a hk => ?_
        refine sv (.bool false) hk rfl rfl rfl fun a hk => ?_
        refine sm _ rfl hk rfl rfl rfl fun a hk => ?_
        refine sk hk rfl rfl rfl fun a hk => ?_
        refine sk hk rfl rfl rfl fun a hk => ?_
        refine sk hk rfl rfl rfl fun a hk => ?_
        refine sk hk rfl rfl rfl fun a hk => ?_
        refine sv (.bool false) hk rfl rfl rfl fun a hk => ?_
        refine sm _ rfl hk rfl rfl rfl fun a hk => ?_
        refine sk hk rfl rfl rfl fun a hk => ?_
        refine sk hk rfl rfl rfl fun a hk => ?_
        refine sk hk rfl rfl rfl fun a hk => ?_
        refine sk hk rfl rfl rfl fun a hk => ?_
        refine sv (.bool false) hk rfl rfl rfl fun a hk => ?_
        refine sm _ rfl hk rfl rfl rfl fun a hk => ?_
        refine sk hk rfl rfl rfl fun a hk => ?_
        refine sk hk rfl rfl rfl fun a hk => ?_
        refine sk hk rfl rfl rfl fun a hk => ?_
        refine sk hk rfl rfl rfl fun a hk => ?_
        refine sk hk rfl rfl rfl fun a hk => ?_
        refine sk hk rfl rfl rfl fun a hk => ?_
        refine sk hk rfl rfl rfl fun a hk => ?_
        refine sk hk rfl rfl rfl fun a hk => ?_
        refine sk hk rfl rfl rfl fun a hk => ?_
        refine sk hk rfl rfl rfl fun a hk => ?_
        refine sk hk rfl rfl rfl fun a hk => ?_
        refine sk hk rfl rfl rfl fun a hk => ?_
        refine sv (.bool false) hk rfl rfl rfl fun a hk => ?_
        refine sa _ rfl hk rfl rfl rfl fun a hk => ?_
        show wpList _ _ _ [] _ _
        refine wpList_nil ?_
        refine hK3 _ _ ?_
        refine wp_ret ?_
        obtain rfl := Option.some.inj H
        exact fin hk _ [(.bool false)] rfl ⟨rfl, trivial⟩ ⟨rfl, (hs.pick [] rfl).dnil⟩
    · have hk := hk.lit 11 c9 rfl
      refine sk hk rfl rfl rfl fun a hk => ?_
      refine sk hk rfl rfl rfl fun a hk => ?_
      refine sk hk rfl rfl rfl fun a hk => ?_
      refine sv (.bool false) hk rfl rfl rfl fun a hk => ?_
      refine sm _ rfl hk rfl rfl rfl fun a hk => ?_
      refine sk hk rfl rfl rfl fun a hk => ?_
      refine sk hk rfl rfl rfl fun a hk => ?_
      refine sk hk rfl rfl rfl fun a hk => ?_
      refine sk hk rfl rfl rfl fun a hk => ?_
      refine sk hk rfl rfl rfl fun a hk => ?_
      refine sk hk rfl rfl rfl fun a hk => ?_
      refine sk hk rfl rfl rfl fun a hk => ?_
      refine sk hk rfl rfl rfl fun a hk => ?_
      refine sk hk rfl rfl rfl fun a hk => ?_
      refine sv (.bool false) hk rfl rfl rfl fun a hk => ?_
      refine sm _ rfl hk rfl rfl rfl fun a hk => ?_
      refine sk hk rfl rfl rfl fun a hk => ?_
      refine sk hk rfl rfl rfl fun a hk => ?_
      refine sk hk rfl rfl rfl fun a hk => ?_
      refine sk hk rfl rfl rfl fun a hk => ?_
      refine sv (.bool false) hk rfl rfl rfl fun a hk => ?_
      refine sm _ rfl hk rfl rfl rfl fun a hk => ?_
      refine sk hk rfl rfl rfl fun a hk => ?_
      refine sk hk rfl rfl rfl fun a hk => ?_
      refine sk hk rfl rfl rfl fun a hk => ?_
      refine sk hk rfl rfl rfl fun a hk => ?_
      refine sv (.bool false) hk rfl rfl rfl fun a hk => ?_
      refine sm _ rfl hk rfl rfl rfl fun a hk => ?_
      refine sk hk rfl rfl rfl fun a hk => ?_
      refine sk hk rfl rfl rfl fun a hk => ?_
      refine sk hk rfl rfl rfl fun a hk => ?_
      refine sk hk rfl rfl rfl fun a hk => ?_
      refine sv (.bool false) hk rfl rfl rfl fun a hk => ?_
      refine sm _ rfl hk rfl rfl rfl fun a hk => ?_
      refine sk hk rfl rfl rfl fun a hk => ?_
      refine sk hk rfl rfl rfl fun a hk => ?_
      refine sk hk rfl rfl rfl fun a hk => ?_
      refine sk hk rfl rfl rfl fun a hk => ?_
      refine sk hk rfl rfl rfl fun a hk => ?_
      refine sk hk rfl rfl rfl fun a hk => ?_
      refine sk hk rfl rfl rfl fun a hk => ?_
      refine sk hk rfl rfl rfl fun a hk => ?_
      refine sk hk rfl rfl rfl fun a hk => ?_
      refine sk hk rfl rfl rfl fun a hk => ?_
      refine sk hk rfl rfl rfl fun a hk => ?_
      refine sk hk rfl rfl rfl fun a hk => ?_
      refine sv (.bool false) hk rfl rfl rfl fun a hk => ?_
      refine sa _ rfl hk rfl rfl rfl fun a hk => ?_
      show wpList _ _ _ [] _ _
      refine wpList_nil ?_
      refine hK3 _ _ ?_
      refine wp_ret ?_
      obtain rfl := Option.some.inj H
      exact fin hk _ [(.bool false)] rfl ⟨rfl, trivial⟩ ⟨rfl, (hs.pick [] rfl).dnil⟩
  · have hk := hk.lit 6 c6 rfl
    refine sk hk rfl rfl rfl fun a hk => ?_
    refine sk hk rfl rfl rfl fun a hk => ?_
    refine sk hk rfl rfl rfl fun a hk => ?_
    refine sv (.bool false) hk rfl rfl rfl fun a hk => ?_
    refine sm _ rfl hk rfl rfl rfl fun a hk => ?_
    refine sk hk rfl rfl rfl fun a hk => ?_
    refine sk hk rfl rfl rfl fun a hk => ?_
    refine sk hk rfl rfl rfl fun a hk => ?_
    refine sv (.bool false) hk rfl rfl rfl fun a hk => ?_
    refine sm _ rfl hk rfl rfl rfl fun a hk => ?_
    refine sk hk rfl rfl rfl fun a hk => ?_
    refine sk hk rfl rfl rfl fun a hk => ?_
    refine sk hk rfl rfl rfl fun a hk => ?_
    refine sk hk rfl rfl rfl fun a hk => ?_
    refine sk hk rfl rfl rfl fun a hk => ?_
    refine sk hk rfl rfl rfl fun a hk => ?_
    refine sk hk rfl rfl rfl fun a hk => ?_
    refine sk hk rfl rfl rfl fun a hk => ?_
    refine sk hk rfl rfl rfl fun a hk => ?_
    refine sv (.bool false) hk rfl rfl rfl fun a hk => ?_
    refine sm _ rfl hk rfl rfl rfl fun a hk => ?_
    refine sk hk rfl rfl rfl fun a hk => ?_
    refine sk hk rfl rfl rfl fun a hk => ?_
    refine sk hk rfl rfl rfl fun a hk => ?_
    refine sk hk rfl rfl rfl fun a hk => ?_
    refine sv (.bool false) hk rfl rfl rfl fun a hk => ?_
    refine sm _ rfl hk rfl rfl rfl fun a hk => ?_
    refine sk hk rfl rfl rfl fun a hk => ?_
    refine sk hk rfl rfl rfl fun a hk => ?_
    refine sk hk rfl rfl rfl fun a hk => ?_
    refine sk hk rfl rfl rfl fun a hk => ?_
    refine sv (.bool false) hk rfl rfl rfl fun a hk => ?_
    refine sm _ rfl hk rfl rfl rfl fun a hk => ?_
    refine sk hk rfl rfl rfl fun a hk => ?_
    refine sk hk rfl rfl rfl fun a hk => ?_
    refine sk hk rfl rfl rfl fun a hk => ?_
    refine sk hk rfl rfl rfl fun a hk => ?_
    refine sv (.bool false) hk rfl rfl rfl fun a hk => ?_
    refine sm _ rfl hk rfl rfl rfl fun a hk => ?_
    refine sk hk rfl rfl rfl fun a hk => ?_
    refine sk hk rfl rfl rfl fun a hk => ?_
    refine sk hk rfl rfl rfl fun a hk => ?_
    refine sk hk rfl rfl rfl fun a hk => ?_
    refine sk hk rfl rfl rfl fun a hk => ?_
    refine sk hk rfl rfl rfl fun a hk => ?_
    refine sk hk rfl rfl rfl fun a hk => ?_
    refine sk hk rfl rfl rfl fun a hk => ?_
    refine sk hk rfl rfl rfl fun a hk => ?_
    refine sk hk rfl rfl rfl fun a hk => ?_
    refine sk hk rfl rfl rfl fun a hk => ?_
    refine sk hk rfl rfl rfl fun a hk => ?_
    refine sv (.bool false) hk rfl rfl rfl fun a hk => ?_
    refine sa _ rfl hk rfl rfl rfl fun a hk => ?_
    show wpList _ _ _ [] _ _
    refine wpList_nil ?_
    refine hK3 _ _ ?_
    refine wp_ret ?_
    obtain rfl := Option.some.inj H
    exact fin hk _ [(.bool false)] rfl ⟨rfl, trivial⟩ ⟨rfl, (hs.pick [] rfl).dnil⟩

noncomputable def laws_toRegister.f (x0 : S_Register) : Option (S_Register) :=
  (some (⟨x0.Epoch, x0.Side, x0.Count, x0.Boot, x0.Base, x0.Tip, x0.Root⟩ : S_Register))
theorem laws_toRegister_t (w0 : World) (x0 : S_Register) (r : S_Register) (H : laws_toRegister.f x0 = some r) :
    Calls Try.prog 14 #[.agg #[.int .i64 x0.Epoch, .int .i64 x0.Side, .int .i64 x0.Count, .int .i64 x0.Boot, .string x0.Base, .string x0.Tip, .string x0.Root]] w0 (Ret (fun v w => v = .agg #[.int .i64 r.Epoch, .int .i64 r.Side, .int .i64 r.Count, .int .i64 r.Boot, .string r.Base, .string r.Tip, .string r.Root] ∧ Sat [] w0 w [] [])) := by
  have hs : Sat [] w0 w0 [] [] := Sat.init w0 [] [] (by simp) (by simp) List.nodup_nil (by simp [blks])
  unfold laws_toRegister.f at H
  refine enter Try.func14 rfl Try.ntmps14 rfl fun a hk => ?_
  apply wp_seq_k; intro K1 hK1
  apply wp_region_lit
  refine sbx 1 hs rfl hk rfl rfl rfl rfl fun b2 w a hk hs => ?_
  refine salx 2 hs rfl hk rfl rfl ze32 rfl fun b3 w a hk hs => ?_
  show wpList _ _ _ [] _ _
  refine wpList_nil ?_
  refine hK1 _ _ ?_
  apply wp_seq_k; intro K4 hK4
  apply wp_region_lit
  refine salx 3 hs rfl hk rfl rfl ze32 rfl fun b5 w a hk hs => ?_
  show wpList _ _ _ [] _ _
  refine wpList_nil ?_
  refine hK4 _ _ ?_
  apply wp_seq_k; intro K6 hK6
  apply wp_region_lit
  refine sf ⟨b2, 0, none⟩ rfl hk rfl rfl rfl fd29_0 rfl fun a hk => ?_
  refine sl rfl hk rfl rfl rfl ag3 (box_cell hs (k := 1) rfl rfl) fun a hk => ?_
  refine sf ⟨b5, 0, none⟩ rfl hk rfl rfl rfl fd32_0 rfl fun a hk => ?_
  refine ssx (cs' := #[.int .i64 x0.Epoch, .int .i64 0, .int .i64 0, .int .i64 0, .string ByteArray.empty, .string ByteArray.empty, .string ByteArray.empty]) 3 hs rfl rfl hk rfl rfl rfl rfl sz3 rfl rfl rfl rfl fun w a hk hs => ?_
  show wpList _ _ _ [] _ _
  refine wpList_nil ?_
  refine hK6 _ _ ?_
  apply wp_seq_k; intro K7 hK7
  apply wp_region_lit
  refine sf ⟨b2, 1, none⟩ rfl hk rfl rfl rfl fd29_1 rfl fun a hk => ?_
  refine sl rfl hk rfl rfl rfl ag3 (box_cell hs (k := 1) rfl rfl) fun a hk => ?_
  refine sf ⟨b5, 1, none⟩ rfl hk rfl rfl rfl fd32_1 rfl fun a hk => ?_
  refine ssx (cs' := #[.int .i64 x0.Epoch, .int .i64 x0.Side, .int .i64 0, .int .i64 0, .string ByteArray.empty, .string ByteArray.empty, .string ByteArray.empty]) 3 hs rfl rfl hk rfl rfl rfl rfl sz3 rfl rfl rfl rfl fun w a hk hs => ?_
  show wpList _ _ _ [] _ _
  refine wpList_nil ?_
  refine hK7 _ _ ?_
  apply wp_seq_k; intro K8 hK8
  apply wp_region_lit
  refine sf ⟨b2, 2, none⟩ rfl hk rfl rfl rfl fd29_2 rfl fun a hk => ?_
  refine sl rfl hk rfl rfl rfl ag3 (box_cell hs (k := 1) rfl rfl) fun a hk => ?_
  refine sf ⟨b5, 2, none⟩ rfl hk rfl rfl rfl fd32_2 rfl fun a hk => ?_
  refine ssx (cs' := #[.int .i64 x0.Epoch, .int .i64 x0.Side, .int .i64 x0.Count, .int .i64 0, .string ByteArray.empty, .string ByteArray.empty, .string ByteArray.empty]) 3 hs rfl rfl hk rfl rfl rfl rfl sz3 rfl rfl rfl rfl fun w a hk hs => ?_
  show wpList _ _ _ [] _ _
  refine wpList_nil ?_
  refine hK8 _ _ ?_
  apply wp_seq_k; intro K9 hK9
  apply wp_region_lit
  refine sf ⟨b2, 3, none⟩ rfl hk rfl rfl rfl fd29_3 rfl fun a hk => ?_
  refine sl rfl hk rfl rfl rfl ag3 (box_cell hs (k := 1) rfl rfl) fun a hk => ?_
  refine sf ⟨b5, 3, none⟩ rfl hk rfl rfl rfl fd32_3 rfl fun a hk => ?_
  refine ssx (cs' := #[.int .i64 x0.Epoch, .int .i64 x0.Side, .int .i64 x0.Count, .int .i64 x0.Boot, .string ByteArray.empty, .string ByteArray.empty, .string ByteArray.empty]) 3 hs rfl rfl hk rfl rfl rfl rfl sz3 rfl rfl rfl rfl fun w a hk hs => ?_
  show wpList _ _ _ [] _ _
  refine wpList_nil ?_
  refine hK9 _ _ ?_
  apply wp_seq_k; intro K10 hK10
  apply wp_region_lit
  refine sf ⟨b2, 4, none⟩ rfl hk rfl rfl rfl fd29_4 rfl fun a hk => ?_
  refine sl rfl hk rfl rfl rfl ag9 (box_cell hs (k := 1) rfl rfl) fun a hk => ?_
  refine sf ⟨b5, 4, none⟩ rfl hk rfl rfl rfl fd32_4 rfl fun a hk => ?_
  refine ssx (cs' := #[.int .i64 x0.Epoch, .int .i64 x0.Side, .int .i64 x0.Count, .int .i64 x0.Boot, .string x0.Base, .string ByteArray.empty, .string ByteArray.empty]) 3 hs rfl rfl hk rfl rfl rfl rfl sz9 rfl rfl rfl rfl fun w a hk hs => ?_
  show wpList _ _ _ [] _ _
  refine wpList_nil ?_
  refine hK10 _ _ ?_
  apply wp_seq_k; intro K11 hK11
  apply wp_region_lit
  refine sf ⟨b2, 5, none⟩ rfl hk rfl rfl rfl fd29_5 rfl fun a hk => ?_
  refine sl rfl hk rfl rfl rfl ag9 (box_cell hs (k := 1) rfl rfl) fun a hk => ?_
  refine sf ⟨b5, 5, none⟩ rfl hk rfl rfl rfl fd32_5 rfl fun a hk => ?_
  refine ssx (cs' := #[.int .i64 x0.Epoch, .int .i64 x0.Side, .int .i64 x0.Count, .int .i64 x0.Boot, .string x0.Base, .string x0.Tip, .string ByteArray.empty]) 3 hs rfl rfl hk rfl rfl rfl rfl sz9 rfl rfl rfl rfl fun w a hk hs => ?_
  show wpList _ _ _ [] _ _
  refine wpList_nil ?_
  refine hK11 _ _ ?_
  apply wp_seq_k; intro K12 hK12
  apply wp_region_lit
  refine sf ⟨b2, 6, none⟩ rfl hk rfl rfl rfl fd29_6 rfl fun a hk => ?_
  refine sl rfl hk rfl rfl rfl ag9 (box_cell hs (k := 1) rfl rfl) fun a hk => ?_
  refine sf ⟨b5, 6, none⟩ rfl hk rfl rfl rfl fd32_6 rfl fun a hk => ?_
  refine ssx (cs' := #[.int .i64 x0.Epoch, .int .i64 x0.Side, .int .i64 x0.Count, .int .i64 x0.Boot, .string x0.Base, .string x0.Tip, .string x0.Root]) 3 hs rfl rfl hk rfl rfl rfl rfl sz9 rfl rfl rfl rfl fun w a hk hs => ?_
  show wpList _ _ _ [] _ _
  refine wpList_nil ?_
  refine hK12 _ _ ?_
  apply wp_seq_k; intro K13 hK13
  apply wp_region_lit
  refine sln [.int .i64 x0.Epoch, .int .i64 x0.Side, .int .i64 x0.Count, .int .i64 x0.Boot, .string x0.Base, .string x0.Tip, .string x0.Root] rfl hk rfl rfl rfl ag32 sz32 (box_cells hs (k := 3) rfl) fun a hk => ?_
  refine ssw 2 hs rfl rfl hk rfl rfl rfl rfl sz32 (by simp [Value.oneCell']) rfl fun w a hk hs => ?_
  show wpList _ _ _ [] _ _
  refine wpList_nil ?_
  refine hK13 _ _ ?_
  refine wp_ret ?_
  obtain rfl := Option.some.inj H
  exact fin hk _ [(.agg #[.int .i64 x0.Epoch, .int .i64 x0.Side, .int .i64 x0.Count, .int .i64 x0.Boot, .string x0.Base, .string x0.Tip, .string x0.Root])] rfl ⟨⟨_, rfl, run_loadN ag32 sz32 (box_cells hs (k := 2) rfl)⟩, trivial⟩ ⟨rfl, (hs.pick [] rfl).dnil⟩

noncomputable def impl_isDigest.f (x0 : ByteArray) : Option (Bool) :=
  (some ((x0.size : Int) == 32))
theorem impl_isDigest_t (w0 : World) (x0 : ByteArray) (r : Bool) (H : impl_isDigest.f x0 = some r) :
    Calls Try.prog 37 #[.string x0] w0 (Ret (fun v w => v = .bool r ∧ Sat [] w0 w [] [])) := by
  have hs : Sat [] w0 w0 [] [] := Sat.init w0 [] [] (by simp) (by simp) List.nodup_nil (by simp [blks])
  unfold impl_isDigest.f at H
  refine enter Try.func37 rfl Try.ntmps37 rfl fun a hk => ?_
  apply wp_seq_k; intro K1 hK1
  apply wp_region_lit
  refine sa _ rfl hk rfl rfl rfl fun a hk => ?_
  show wpList _ _ _ [] _ _
  refine wpList_nil ?_
  refine hK1 _ _ ?_
  apply wp_seq_k; intro K2 hK2
  apply wp_region_lit
  refine sm _ rfl hk rfl rfl rfl fun a hk => ?_
  refine sles rfl hk rfl rfl rfl un9 fun a hk => ?_
  refine sv (.bool ((x0.size : Int) == 32)) hk rfl rfl rfl fun a hk => ?_
  refine sa _ rfl hk rfl rfl rfl fun a hk => ?_
  show wpList _ _ _ [] _ _
  refine wpList_nil ?_
  refine hK2 _ _ ?_
  refine wp_ret ?_
  obtain rfl := Option.some.inj H
  exact fin hk _ [(.bool ((x0.size : Int) == 32))] rfl ⟨rfl, trivial⟩ ⟨rfl, (hs.pick [] rfl).dnil⟩

noncomputable def impl_Register_waiting.f (x0 : S_Register) : Option (Int) :=
  (some (w64 (x0.Count - x0.Epoch)))
theorem impl_Register_waiting_t (w0 : World) (x0 : S_Register) (r : Int) (H : impl_Register_waiting.f x0 = some r) :
    Calls Try.prog 38 #[.agg #[.int .i64 x0.Epoch, .int .i64 x0.Side, .int .i64 x0.Count, .int .i64 x0.Boot, .string x0.Base, .string x0.Tip, .string x0.Root]] w0 (Ret (fun v w => v = .int .i64 r ∧ Sat [] w0 w [] [])) := by
  have hs : Sat [] w0 w0 [] [] := Sat.init w0 [] [] (by simp) (by simp) List.nodup_nil (by simp [blks])
  unfold impl_Register_waiting.f at H
  refine enter Try.func38 rfl Try.ntmps38 rfl fun a hk => ?_
  apply wp_seq_k; intro K1 hK1
  apply wp_region_lit
  refine sbx 1 hs rfl hk rfl rfl rfl rfl fun b2 w a hk hs => ?_
  refine sa _ rfl hk rfl rfl rfl fun a hk => ?_
  show wpList _ _ _ [] _ _
  refine wpList_nil ?_
  refine hK1 _ _ ?_
  apply wp_seq_k; intro K3 hK3
  apply wp_region_lit
  refine sf ⟨b2, 2, none⟩ rfl hk rfl rfl rfl fd32_2 rfl fun a hk => ?_
  refine sl rfl hk rfl rfl rfl ag3 (box_cell hs (k := 1) rfl rfl) fun a hk => ?_
  refine sf ⟨b2, 0, none⟩ rfl hk rfl rfl rfl fd32_0 rfl fun a hk => ?_
  refine sl rfl hk rfl rfl rfl ag3 (box_cell hs (k := 1) rfl rfl) fun a hk => ?_
  refine sv (.int .i64 (w64 (x0.Count - x0.Epoch))) hk rfl rfl rfl fun a hk => ?_
  refine sa _ rfl hk rfl rfl rfl fun a hk => ?_
  show wpList _ _ _ [] _ _
  refine wpList_nil ?_
  refine hK3 _ _ ?_
  refine wp_ret ?_
  obtain rfl := Option.some.inj H
  exact fin hk _ [(.int .i64 (w64 (x0.Count - x0.Epoch)))] rfl ⟨rfl, trivial⟩ ⟨rfl, (hs.pick [] rfl).dnil⟩

noncomputable def impl_RegisterOK.f (x0 : S_Register) : Option (Bool) :=
  ((impl_within.f x0.Epoch 0 1000000).bind fun y4 => (bif y4 then ((impl_within.f x0.Side 0 1).bind fun y7 => (bif y7 then ((impl_within.f x0.Count x0.Epoch (if 1000000 < (w64 (x0.Epoch + 4)) then 1000000 else (w64 (x0.Epoch + 4)))).bind fun y10 => (bif y10 then ((impl_within.f x0.Boot 0 1000000).bind fun y13 => (bif y13 then ((impl_isDigest.f x0.Base).bind fun y16 => (bif y16 then ((impl_isDigest.f x0.Tip).bind fun y19 => (bif y19 then ((impl_isDigest.f x0.Root).bind fun y22 => (bif y22 then ((impl_Register_waiting.f x0).bind fun y25 => (bif (decide (y25 > 0)) then (some true) else (some (x0.Base.toList == x0.Tip.toList)))) else (some false))) else (some false))) else (some false))) else (some false))) else (some false))) else (some false))) else (some false)))
theorem impl_RegisterOK_t (w0 : World) (x0 : S_Register) (r : Bool) (H : impl_RegisterOK.f x0 = some r) :
    Calls Try.prog 15 #[.agg #[.int .i64 x0.Epoch, .int .i64 x0.Side, .int .i64 x0.Count, .int .i64 x0.Boot, .string x0.Base, .string x0.Tip, .string x0.Root]] w0 (Ret (fun v w => v = .bool r ∧ Sat [] w0 w [] [])) := by
  have hs : Sat [] w0 w0 [] [] := Sat.init w0 [] [] (by simp) (by simp) List.nodup_nil (by simp [blks])
  unfold impl_RegisterOK.f at H
  refine enter Try.func15 rfl Try.ntmps15 rfl fun a hk => ?_
  apply wp_seq_k; intro K1 hK1
  apply wp_region_lit
  refine sbx 1 hs rfl hk rfl rfl rfl rfl fun b2 w a hk hs => ?_
  refine sa _ rfl hk rfl rfl rfl fun a hk => ?_
  show wpList _ _ _ [] _ _
  refine wpList_nil ?_
  refine hK1 _ _ ?_
  apply wp_seq_k; intro K3 hK3
  apply wp_region_lit
  refine sf ⟨b2, 0, none⟩ rfl hk rfl rfl rfl fd32_0 rfl fun a hk => ?_
  refine sl rfl hk rfl rfl rfl ag3 (box_cell hs (k := 1) rfl rfl) fun a hk => ?_
  obtain ⟨y4, h5, H⟩ := bind_some H
  refine sc rfl en33 hk rfl rfl rfl (impl_within_t _ x0.Epoch 0 1000000 _ h5) ?_
  rintro _ w ⟨rfl, hG⟩ a hk
  have hs := hs.call0 hG
  refine sm _ rfl hk rfl rfl rfl fun a hk => ?_
  rcases cond_some H with ⟨c6, H⟩ | ⟨c6, H⟩
  · have hk := hk.lit 6 c6 rfl
    refine sf ⟨b2, 1, none⟩ rfl hk rfl rfl rfl fd32_1 rfl fun a hk => ?_
    refine sl rfl hk rfl rfl rfl ag3 (box_cell hs (k := 1) rfl rfl) fun a hk => ?_
    obtain ⟨y7, h8, H⟩ := bind_some H
    refine sc rfl en33 hk rfl rfl rfl (impl_within_t _ x0.Side 0 1 _ h8) ?_
    rintro _ w ⟨rfl, hG⟩ a hk
    have hs := hs.call0 hG
    refine sv (.bool y7) hk rfl rfl rfl fun a hk => ?_
    refine sm _ rfl hk rfl rfl rfl fun a hk => ?_
    rcases cond_some H with ⟨c9, H⟩ | ⟨c9, H⟩
    · have hk := hk.lit 11 c9 rfl
      refine sf ⟨b2, 2, none⟩ rfl hk rfl rfl rfl fd32_2 rfl fun a hk => ?_
      refine sl rfl hk rfl rfl rfl ag3 (box_cell hs (k := 1) rfl rfl) fun a hk => ?_
      refine sf ⟨b2, 0, none⟩ rfl hk rfl rfl rfl fd32_0 rfl fun a hk => ?_
      refine sl rfl hk rfl rfl rfl ag3 (box_cell hs (k := 1) rfl rfl) fun a hk => ?_
      refine sf ⟨b2, 0, none⟩ rfl hk rfl rfl rfl fd32_0 rfl fun a hk => ?_
      refine sl rfl hk rfl rfl rfl ag3 (box_cell hs (k := 1) rfl rfl) fun a hk => ?_
      refine sv (.int .i64 (w64 (x0.Epoch + 4))) hk rfl rfl rfl fun a hk => ?_
      refine smn rfl hk rfl rfl rfl rfl fun a hk => ?_
      obtain ⟨y10, h11, H⟩ := bind_some H
      refine sc rfl en33 hk rfl rfl rfl (impl_within_t _ x0.Count x0.Epoch (if 1000000 < (w64 (x0.Epoch + 4)) then 1000000 else (w64 (x0.Epoch + 4))) _ h11) ?_
      rintro _ w ⟨rfl, hG⟩ a hk
      have hs := hs.call0 hG
      refine sv (.bool y10) hk rfl rfl rfl fun a hk => ?_
      refine sm _ rfl hk rfl rfl rfl fun a hk => ?_
      rcases cond_some H with ⟨c12, H⟩ | ⟨c12, H⟩
      · have hk := hk.lit 22 c12 rfl
        refine sf ⟨b2, 3, none⟩ rfl hk rfl rfl rfl fd32_3 rfl fun a hk => ?_
        refine sl rfl hk rfl rfl rfl ag3 (box_cell hs (k := 1) rfl rfl) fun a hk => ?_
        obtain ⟨y13, h14, H⟩ := bind_some H
        refine sc rfl en33 hk rfl rfl rfl (impl_within_t _ x0.Boot 0 1000000 _ h14) ?_
        rintro _ w ⟨rfl, hG⟩ a hk
        have hs := hs.call0 hG
        refine sv (.bool y13) hk rfl rfl rfl fun a hk => ?_
        refine sm _ rfl hk rfl rfl rfl fun a hk => ?_
        rcases cond_some H with ⟨c15, H⟩ | ⟨c15, H⟩
        · have hk := hk.lit 27 c15 rfl
          refine sf ⟨b2, 4, none⟩ rfl hk rfl rfl rfl fd32_4 rfl fun a hk => ?_
          refine sl rfl hk rfl rfl rfl ag9 (box_cell hs (k := 1) rfl rfl) fun a hk => ?_
          obtain ⟨y16, h17, H⟩ := bind_some H
          refine sc rfl en37 hk rfl rfl rfl (impl_isDigest_t _ x0.Base _ h17) ?_
          rintro _ w ⟨rfl, hG⟩ a hk
          have hs := hs.call0 hG
          refine sv (.bool y16) hk rfl rfl rfl fun a hk => ?_
          refine sm _ rfl hk rfl rfl rfl fun a hk => ?_
          rcases cond_some H with ⟨c18, H⟩ | ⟨c18, H⟩
          · have hk := hk.lit 32 c18 rfl
            refine sf ⟨b2, 5, none⟩ rfl hk rfl rfl rfl fd32_5 rfl fun a hk => ?_
            refine sl rfl hk rfl rfl rfl ag9 (box_cell hs (k := 1) rfl rfl) fun a hk => ?_
            obtain ⟨y19, h20, H⟩ := bind_some H
            refine sc rfl en37 hk rfl rfl rfl (impl_isDigest_t _ x0.Tip _ h20) ?_
            rintro _ w ⟨rfl, hG⟩ a hk
            have hs := hs.call0 hG
            refine sv (.bool y19) hk rfl rfl rfl fun a hk => ?_
            refine sm _ rfl hk rfl rfl rfl fun a hk => ?_
            rcases cond_some H with ⟨c21, H⟩ | ⟨c21, H⟩
            · have hk := hk.lit 37 c21 rfl
              refine sf ⟨b2, 6, none⟩ rfl hk rfl rfl rfl fd32_6 rfl fun a hk => ?_
              refine sl rfl hk rfl rfl rfl ag9 (box_cell hs (k := 1) rfl rfl) fun a hk => ?_
              obtain ⟨y22, h23, H⟩ := bind_some H
              refine sc rfl en37 hk rfl rfl rfl (impl_isDigest_t _ x0.Root _ h23) ?_
              rintro _ w ⟨rfl, hG⟩ a hk
              have hs := hs.call0 hG
              refine sv (.bool y22) hk rfl rfl rfl fun a hk => ?_
              refine sm _ rfl hk rfl rfl rfl fun a hk => ?_
              rcases cond_some H with ⟨c24, H⟩ | ⟨c24, H⟩
              · have hk := hk.lit 42 c24 rfl
                refine sln [.int .i64 x0.Epoch, .int .i64 x0.Side, .int .i64 x0.Count, .int .i64 x0.Boot, .string x0.Base, .string x0.Tip, .string x0.Root] rfl hk rfl rfl rfl ag32 sz32 (box_cells hs (k := 1) rfl) fun a hk => ?_
                obtain ⟨y25, h26, H⟩ := bind_some H
                refine sc rfl en38 hk rfl rfl rfl (impl_Register_waiting_t _ x0 _ h26) ?_
                rintro _ w ⟨rfl, hG⟩ a hk
                have hs := hs.call0 hG
                refine sv (.bool (decide (y25 > 0))) hk rfl rfl rfl fun a hk => ?_
                refine sm _ rfl hk rfl rfl rfl fun a hk => ?_
                rcases cond_some H with ⟨c27, H⟩ | ⟨c27, H⟩
                · have hk := hk.lit 46 c27 rfl
                  refine sk hk rfl rfl rfl fun a hk => ?_
                  refine sk hk rfl rfl rfl fun a hk => ?_
                  refine sk hk rfl rfl rfl fun a hk => ?_
                  refine sk hk rfl rfl rfl fun a hk => ?_
                  refine sk hk rfl rfl rfl fun a hk => ?_
                  refine sv (.bool true) hk rfl rfl rfl fun a hk => ?_
                  refine sv (.bool true) hk rfl rfl rfl fun a hk => ?_
                  refine sa _ rfl hk rfl rfl rfl fun a hk => ?_
                  show wpList _ _ _ [] _ _
                  refine wpList_nil ?_
                  refine hK3 _ _ ?_
                  refine wp_ret ?_
                  obtain rfl := Option.some.inj H
                  exact fin hk _ [(.bool true)] rfl ⟨rfl, trivial⟩ ⟨rfl, (hs.pick [] rfl).dnil⟩
                · have hk := hk.lit 46 c27 rfl
                  refine sf ⟨b2, 4, none⟩ rfl hk rfl rfl rfl fd32_4 rfl fun a hk => ?_
                  refine sl rfl hk rfl rfl rfl ag9 (box_cell hs (k := 1) rfl rfl) fun a hk => ?_
                  refine sf ⟨b2, 5, none⟩ rfl hk rfl rfl rfl fd32_5 rfl fun a hk => ?_
                  refine sl rfl hk rfl rfl rfl ag9 (box_cell hs (k := 1) rfl rfl) fun a hk => ?_
                  refine sv (.bool (x0.Base.toList == x0.Tip.toList)) hk rfl rfl rfl fun a hk => ?_
                  refine sv (.bool (x0.Base.toList == x0.Tip.toList)) hk rfl rfl rfl fun a hk => ?_
                  refine sv (.bool (x0.Base.toList == x0.Tip.toList)) hk rfl rfl rfl fun a hk => ?_
                  refine sa _ rfl hk rfl rfl rfl fun a hk => ?_
                  show wpList _ _ _ [] _ _
                  refine wpList_nil ?_
                  refine hK3 _ _ ?_
                  refine wp_ret ?_
                  obtain rfl := Option.some.inj H
                  exact fin hk _ [(.bool (x0.Base.toList == x0.Tip.toList))] rfl ⟨rfl, trivial⟩ ⟨rfl, (hs.pick [] rfl).dnil⟩
              · have hk := hk.lit 42 c24 rfl
                refine sk hk rfl rfl rfl fun a hk => ?_
                refine sk hk rfl rfl rfl fun a hk => ?_
                refine sk hk rfl rfl rfl fun a hk => ?_
                refine sk hk rfl rfl rfl fun a hk => ?_
                refine sk hk rfl rfl rfl fun a hk => ?_
                refine sk hk rfl rfl rfl fun a hk => ?_
                refine sk hk rfl rfl rfl fun a hk => ?_
                refine sk hk rfl rfl rfl fun a hk => ?_
                refine sk hk rfl rfl rfl fun a hk => ?_
                refine sk hk rfl rfl rfl fun a hk => ?_
                refine sv (.bool false) hk rfl rfl rfl fun a hk => ?_
                refine sa _ rfl hk rfl rfl rfl fun a hk => ?_
                show wpList _ _ _ [] _ _
                refine wpList_nil ?_
                refine hK3 _ _ ?_
                refine wp_ret ?_
                obtain rfl := Option.some.inj H
                exact fin hk _ [(.bool false)] rfl ⟨rfl, trivial⟩ ⟨rfl, (hs.pick [] rfl).dnil⟩
            · have hk := hk.lit 37 c21 rfl
              refine sk hk rfl rfl rfl fun a hk => ?_
              refine sk hk rfl rfl rfl fun a hk => ?_
              refine sk hk rfl rfl rfl fun a hk => ?_
              refine sv (.bool false) hk rfl rfl rfl fun a hk => ?_
              refine sm _ rfl hk rfl rfl rfl fun a hk => ?_
              refine sk hk rfl rfl rfl fun a hk => ?_
              refine sk hk rfl rfl rfl fun a hk => ?_
              refine sk hk rfl rfl rfl fun a hk => ?_
              refine sk hk rfl rfl rfl fun a hk => ?_
              refine sk hk rfl rfl rfl fun a hk => ?_
              refine sk hk rfl rfl rfl fun a hk => ?_
              refine sk hk rfl rfl rfl fun a hk => ?_
              refine sk hk rfl rfl rfl fun a hk => ?_
              refine sk hk rfl rfl rfl fun a hk => ?_
              refine sk hk rfl rfl rfl fun a hk => ?_
              refine sv (.bool false) hk rfl rfl rfl fun a hk => ?_
              refine sa _ rfl hk rfl rfl rfl fun a hk => ?_
              show wpList _ _ _ [] _ _
              refine wpList_nil ?_
              refine hK3 _ _ ?_
              refine wp_ret ?_
              obtain rfl := Option.some.inj H
              exact fin hk _ [(.bool false)] rfl ⟨rfl, trivial⟩ ⟨rfl, (hs.pick [] rfl).dnil⟩
          · have hk := hk.lit 32 c18 rfl
            refine sk hk rfl rfl rfl fun a hk => ?_
            refine sk hk rfl rfl rfl fun a hk => ?_
            refine sk hk rfl rfl rfl fun a hk => ?_
            refine sv (.bool false) hk rfl rfl rfl fun a hk => ?_
            refine sm _ rfl hk rfl rfl rfl fun a hk => ?_
            refine sk hk rfl rfl rfl fun a hk => ?_
            refine sk hk rfl rfl rfl fun a hk => ?_
            refine sk hk rfl rfl rfl fun a hk => ?_
            refine sv (.bool false) hk rfl rfl rfl fun a hk => ?_
            refine sm _ rfl hk rfl rfl rfl fun a hk => ?_
            refine sk hk rfl rfl rfl fun a hk => ?_
            refine sk hk rfl rfl rfl fun a hk => ?_
            refine sk hk rfl rfl rfl fun a hk => ?_
            refine sk hk rfl rfl rfl fun a hk => ?_
            refine sk hk rfl rfl rfl fun a hk => ?_
            refine sk hk rfl rfl rfl fun a hk => ?_
            refine sk hk rfl rfl rfl fun a hk => ?_
            refine sk hk rfl rfl rfl fun a hk => ?_
            refine sk hk rfl rfl rfl fun a hk => ?_
            refine sk hk rfl rfl rfl fun a hk => ?_
            refine sv (.bool false) hk rfl rfl rfl fun a hk => ?_
            refine sa _ rfl hk rfl rfl rfl fun a hk => ?_
            show wpList _ _ _ [] _ _
            refine wpList_nil ?_
            refine hK3 _ _ ?_
            refine wp_ret ?_
            obtain rfl := Option.some.inj H
            exact fin hk _ [(.bool false)] rfl ⟨rfl, trivial⟩ ⟨rfl, (hs.pick [] rfl).dnil⟩
        · have hk := hk.lit 27 c15 rfl
          refine sk hk rfl rfl rfl fun a hk => ?_
          refine sk hk rfl rfl rfl fun a hk => ?_
          refine sk hk rfl rfl rfl fun a hk => ?_
          refine sv (.bool false) hk rfl rfl rfl fun a hk => ?_
          refine sm _ rfl hk rfl rfl rfl fun a hk => ?_
          refine sk hk rfl rfl rfl fun a hk => ?_
          refine sk hk rfl rfl rfl fun a hk => ?_
          refine sk hk rfl rfl rfl fun a hk => ?_
          refine sv (.bool false) hk rfl rfl rfl fun a hk => ?_
          refine sm _ rfl hk rfl rfl rfl fun a hk => ?_
          refine sk hk rfl rfl rfl fun a hk => ?_
          refine sk hk rfl rfl rfl fun a hk => ?_
          refine sk hk rfl rfl rfl fun a hk => ?_
          refine sv (.bool false) hk rfl rfl rfl fun a hk => ?_
          refine sm _ rfl hk rfl rfl rfl fun a hk => ?_
          refine sk hk rfl rfl rfl fun a hk => ?_
          refine sk hk rfl rfl rfl fun a hk => ?_
          refine sk hk rfl rfl rfl fun a hk => ?_
          refine sk hk rfl rfl rfl fun a hk => ?_
          refine sk hk rfl rfl rfl fun a hk => ?_
          refine sk hk rfl rfl rfl fun a hk => ?_
          refine sk hk rfl rfl rfl fun a hk => ?_
          refine sk hk rfl rfl rfl fun a hk => ?_
          refine sk hk rfl rfl rfl fun a hk => ?_
          refine sk hk rfl rfl rfl fun a hk => ?_
          refine sv (.bool false) hk rfl rfl rfl fun a hk => ?_
          refine sa _ rfl hk rfl rfl rfl fun a hk => ?_
          show wpList _ _ _ [] _ _
          refine wpList_nil ?_
          refine hK3 _ _ ?_
          refine wp_ret ?_
          obtain rfl := Option.some.inj H
          exact fin hk _ [(.bool false)] rfl ⟨rfl, trivial⟩ ⟨rfl, (hs.pick [] rfl).dnil⟩
      · have hk := hk.lit 22 c12 rfl
        refine sk hk rfl rfl rfl fun a hk => ?_
        refine sk hk rfl rfl rfl fun a hk => ?_
        refine sk hk rfl rfl rfl fun a hk => ?_
        refine sv (.bool false) hk rfl rfl rfl fun a hk => ?_
        refine sm _ rfl hk rfl rfl rfl fun a hk => ?_
        refine sk hk rfl rfl rfl fun a hk => ?_
        refine sk hk rfl rfl rfl fun a hk => ?_
        refine sk hk rfl rfl rfl fun a hk => ?_
        refine sv (.bool false) hk rfl rfl rfl fun a hk => ?_
        refine sm _ rfl hk rfl rfl rfl fun a hk => ?_
        refine sk hk rfl rfl rfl fun a hk => ?_
        refine sk hk rfl rfl rfl fun a hk => ?_
        refine sk hk rfl rfl rfl fun a hk => ?_
        refine sv (.bool false) hk rfl rfl rfl fun a hk => ?_
        refine sm _ rfl hk rfl rfl rfl fun a hk => ?_
        refine sk hk rfl rfl rfl fun a hk => ?_
        refine sk hk rfl rfl rfl fun a hk => ?_
        refine sk hk rfl rfl rfl fun a hk => ?_
        refine sv (.bool false) hk rfl rfl rfl fun a hk => ?_
        refine sm _ rfl hk rfl rfl rfl fun a hk => ?_
        refine sk hk rfl rfl rfl fun a hk => ?_
        refine sk hk rfl rfl rfl fun a hk => ?_
        refine sk hk rfl rfl rfl fun a hk => ?_
        refine sk hk rfl rfl rfl fun a hk => ?_
        refine sk hk rfl rfl rfl fun a hk => ?_
        refine sk hk rfl rfl rfl fun a hk => ?_
        refine sk hk rfl rfl rfl fun a hk => ?_
        refine sk hk rfl rfl rfl fun a hk => ?_
        refine sk hk rfl rfl rfl fun a hk => ?_
        refine sk hk rfl rfl rfl fun a hk => ?_
        refine sv (.bool false) hk rfl rfl rfl fun a hk => ?_
        refine sa _ rfl hk rfl rfl rfl fun a hk => ?_
        show wpList _ _ _ [] _ _
        refine wpList_nil ?_
        refine hK3 _ _ ?_
        refine wp_ret ?_
        obtain rfl := Option.some.inj H
        exact fin hk _ [(.bool false)] rfl ⟨rfl, trivial⟩ ⟨rfl, (hs.pick [] rfl).dnil⟩
    · have hk := hk.lit 11 c9 rfl
      refine sk hk rfl rfl rfl fun a hk => ?_
      refine sk hk rfl rfl rfl fun a hk => ?_
      refine sk hk rfl rfl rfl fun a hk => ?_
      refine sk hk rfl rfl rfl fun a hk => ?_
      refine sk hk rfl rfl rfl fun a hk => ?_
      refine sk hk rfl rfl rfl fun a hk => ?_
      refine sk hk rfl rfl rfl fun a hk => ?_
      refine sk hk rfl rfl rfl fun a hk => ?_
      refine sk hk rfl rfl rfl fun a hk => ?_
      refine sv (.bool false) hk rfl rfl rfl fun a hk => ?_
      refine sm _ rfl hk rfl rfl rfl fun a hk => ?_
      refine sk hk rfl rfl rfl fun a hk => ?_
      refine sk hk rfl rfl rfl fun a hk => ?_
      refine sk hk rfl rfl rfl fun a hk => ?_
      refine sv (.bool false) hk rfl rfl rfl fun a hk => ?_
      refine sm _ rfl hk rfl rfl rfl fun a hk => ?_
      refine sk hk rfl rfl rfl fun a hk => ?_
      refine sk hk rfl rfl rfl fun a hk => ?_
      refine sk hk rfl rfl rfl fun a hk => ?_
      refine sv (.bool false) hk rfl rfl rfl fun a hk => ?_
      refine sm _ rfl hk rfl rfl rfl fun a hk => ?_
      refine sk hk rfl rfl rfl fun a hk => ?_
      refine sk hk rfl rfl rfl fun a hk => ?_
      refine sk hk rfl rfl rfl fun a hk => ?_
      refine sv (.bool false) hk rfl rfl rfl fun a hk => ?_
      refine sm _ rfl hk rfl rfl rfl fun a hk => ?_
      refine sk hk rfl rfl rfl fun a hk => ?_
      refine sk hk rfl rfl rfl fun a hk => ?_
      refine sk hk rfl rfl rfl fun a hk => ?_
      refine sv (.bool false) hk rfl rfl rfl fun a hk => ?_
      refine sm _ rfl hk rfl rfl rfl fun a hk => ?_
      refine sk hk rfl rfl rfl fun a hk => ?_
      refine sk hk rfl rfl rfl fun a hk => ?_
      refine sk hk rfl rfl rfl fun a hk => ?_
      refine sk hk rfl rfl rfl fun a hk => ?_
      refine sk hk rfl rfl rfl fun a hk => ?_
      refine sk hk rfl rfl rfl fun a hk => ?_
      refine sk hk rfl rfl rfl fun a hk => ?_
      refine sk hk rfl rfl rfl fun a hk => ?_
      refine sk hk rfl rfl rfl fun a hk => ?_
      refine sk hk rfl rfl rfl fun a hk => ?_
      refine sv (.bool false) hk rfl rfl rfl fun a hk => ?_
      refine sa _ rfl hk rfl rfl rfl fun a hk => ?_
      show wpList _ _ _ [] _ _
      refine wpList_nil ?_
      refine hK3 _ _ ?_
      refine wp_ret ?_
      obtain rfl := Option.some.inj H
      exact fin hk _ [(.bool false)] rfl ⟨rfl, trivial⟩ ⟨rfl, (hs.pick [] rfl).dnil⟩
  · have hk := hk.lit 6 c6 rfl
    refine sk hk rfl rfl rfl fun a hk => ?_
    refine sk hk rfl rfl rfl fun a hk => ?_
    refine sk hk rfl rfl rfl fun a hk => ?_
    refine sv (.bool false) hk rfl rfl rfl fun a hk => ?_
    refine sm _ rfl hk rfl rfl rfl fun a hk => ?_
    refine sk hk rfl rfl rfl fun a hk => ?_
    refine sk hk rfl rfl rfl fun a hk => ?_
    refine sk hk rfl rfl rfl fun a hk => ?_
    refine sk hk rfl rfl rfl fun a hk => ?_
    refine sk hk rfl rfl rfl fun a hk => ?_
    refine sk hk rfl rfl rfl fun a hk => ?_
    refine sk hk rfl rfl rfl fun a hk => ?_
    refine sk hk rfl rfl rfl fun a hk => ?_
    refine sk hk rfl rfl rfl fun a hk => ?_
    refine sv (.bool false) hk rfl rfl rfl fun a hk => ?_
    refine sm _ rfl hk rfl rfl rfl fun a hk => ?_
    refine sk hk rfl rfl rfl fun a hk => ?_
    refine sk hk rfl rfl rfl fun a hk => ?_
    refine sk hk rfl rfl rfl fun a hk => ?_
    refine sv (.bool false) hk rfl rfl rfl fun a hk => ?_
    refine sm _ rfl hk rfl rfl rfl fun a hk => ?_
    refine sk hk rfl rfl rfl fun a hk => ?_
    refine sk hk rfl rfl rfl fun a hk => ?_
    refine sk hk rfl rfl rfl fun a hk => ?_
    refine sv (.bool false) hk rfl rfl rfl fun a hk => ?_
    refine sm _ rfl hk rfl rfl rfl fun a hk => ?_
    refine sk hk rfl rfl rfl fun a hk => ?_
    refine sk hk rfl rfl rfl fun a hk => ?_
    refine sk hk rfl rfl rfl fun a hk => ?_
    refine sv (.bool false) hk rfl rfl rfl fun a hk => ?_
    refine sm _ rfl hk rfl rfl rfl fun a hk => ?_
    refine sk hk rfl rfl rfl fun a hk => ?_
    refine sk hk rfl rfl rfl fun a hk => ?_
    refine sk hk rfl rfl rfl fun a hk => ?_
    refine sv (.bool false) hk rfl rfl rfl fun a hk => ?_
    refine sm _ rfl hk rfl rfl rfl fun a hk => ?_
    refine sk hk rfl rfl rfl fun a hk => ?_
    refine sk hk rfl rfl rfl fun a hk => ?_
    refine sk hk rfl rfl rfl fun a hk => ?_
    refine sk hk rfl rfl rfl fun a hk => ?_
    refine sk hk rfl rfl rfl fun a hk => ?_
    refine sk hk rfl rfl rfl fun a hk => ?_
    refine sk hk rfl rfl rfl fun a hk => ?_
    refine sk hk rfl rfl rfl fun a hk => ?_
    refine sk hk rfl rfl rfl fun a hk => ?_
    refine sk hk rfl rfl rfl fun a hk => ?_
    refine sv (.bool false) hk rfl rfl rfl fun a hk => ?_
    refine sa _ rfl hk rfl rfl rfl fun a hk => ?_
    show wpList _ _ _ [] _ _
    refine wpList_nil ?_
    refine hK3 _ _ ?_
    refine wp_ret ?_
    obtain rfl := Option.some.inj H
    exact fin hk _ [(.bool false)] rfl ⟨rfl, trivial⟩ ⟨rfl, (hs.pick [] rfl).dnil⟩

noncomputable def laws_FnExactRegisterOK.f (x0 : S_Register) : Option (Bool) :=
  ((laws_szRegister.f x0 1048576).bind fun y5 => (bif (decide (y5 < 0)) then (some true) else ((laws_toRegister.f x0).bind fun y12 => ((spec_RegisterOK.f y12).bind fun y14 => ((laws_toRegister.f x0).bind fun y17 => ((impl_RegisterOK.f y17).bind fun y19 => (bif (!(y19 == y14)) then (some false) else (some true))))))))
theorem laws_FnExactRegisterOK_t (w0 : World) (x0 : S_Register) (r : Bool) (H : laws_FnExactRegisterOK.f x0 = some r) :
    Calls Try.prog 4 #[.agg #[.int .i64 x0.Epoch, .int .i64 x0.Side, .int .i64 x0.Count, .int .i64 x0.Boot, .string x0.Base, .string x0.Tip, .string x0.Root]] w0 (Ret (fun v w => v = .bool r ∧ Sat [] w0 w [] [])) := by
  have hs : Sat [] w0 w0 [] [] := Sat.init w0 [] [] (by simp) (by simp) List.nodup_nil (by simp [blks])
  unfold laws_FnExactRegisterOK.f at H
  refine enter Try.func4 rfl Try.ntmps4 rfl fun a hk => ?_
  apply wp_seq_k; intro K1 hK1
  apply wp_region_lit
  refine sbx 1 hs rfl hk rfl rfl rfl rfl fun b2 w a hk hs => ?_
  refine sa _ rfl hk rfl rfl rfl fun a hk => ?_
  show wpList _ _ _ [] _ _
  refine wpList_nil ?_
  refine hK1 _ _ ?_
  apply wp_seq_k; intro K3 hK3
  apply wp_region_lit
  refine sa _ rfl hk rfl rfl rfl fun a hk => ?_
  show wpList _ _ _ [] _ _
  refine wpList_nil ?_
  refine hK3 _ _ ?_
  apply wp_seq_k; intro K4 hK4
  apply wp_region_lit
  refine sln [.int .i64 x0.Epoch, .int .i64 x0.Side, .int .i64 x0.Count, .int .i64 x0.Boot, .string x0.Base, .string x0.Tip, .string x0.Root] rfl hk rfl rfl rfl ag29 sz29 (box_cells hs (k := 1) rfl) fun a hk => ?_
  refine sm _ rfl hk rfl rfl rfl fun a hk => ?_
  obtain ⟨y5, h6, H⟩ := bind_some H
  refine sc rfl en12 hk rfl rfl rfl (laws_szRegister_t _ x0 1048576 _ h6) ?_
  rintro _ w ⟨rfl, hG⟩ a hk
  have hs := hs.call0 hG
  refine sa _ rfl hk rfl rfl rfl fun a hk => ?_
  show wpList _ _ _ [] _ _
  refine wpList_nil ?_
  refine hK4 _ _ ?_
  apply wp_seq_k; intro K7 hK7
  apply wp_seq_k; intro K8 hK8
  apply wp_region_lit
  refine sm _ rfl hk rfl rfl rfl fun a hk => ?_
  refine sv (.bool (decide (y5 < 0))) hk rfl rfl rfl fun a hk => ?_
  show wpList _ _ _ [] _ _
  refine wpList_nil ?_
  refine hK8 _ _ ?_
  rcases cond_some H with ⟨c9, H⟩ | ⟨c9, H⟩
  · have hk := hk.lit 10 c9 rfl
    refine cnd_true hk rfl rfl ?_
    apply wp_seq_k; intro K10 hK10
    apply wp_region_lit
    refine sa _ rfl hk rfl rfl rfl fun a hk => ?_
    show wpList _ _ _ [] _ _
    refine wpList_nil ?_
    refine hK10 _ _ ?_
    refine wp_ret ?_
    obtain rfl := Option.some.inj H
    exact fin hk _ [(.bool true)] rfl ⟨rfl, trivial⟩ ⟨rfl, (hs.pick [] rfl).dnil⟩
  · have hk := hk.lit 10 c9 rfl
    refine cnd_false hk rfl rfl ?_
    refine wp_skip ?_
    refine hK7 _ _ ?_
    apply wp_seq_k; intro K11 hK11
    apply wp_region_lit
    refine sln [.int .i64 x0.Epoch, .int .i64 x0.Side, .int .i64 x0.Count, .int .i64 x0.Boot, .string x0.Base, .string x0.Tip, .string x0.Root] rfl hk rfl rfl rfl ag29 sz29 (box_cells hs (k := 1) rfl) fun a hk => ?_
    obtain ⟨y12, h13, H⟩ := bind_some H
    refine sc rfl en14 hk rfl rfl rfl (laws_toRegister_t _ x0 _ h13) ?_
    rintro _ w ⟨rfl, hG⟩ a hk
    have hs := hs.call0 hG
    obtain ⟨y14, h15, H⟩ := bind_some H
    refine sc rfl en13 hk rfl rfl rfl (spec_RegisterOK_t _ y12 _ h15) ?_
    rintro _ w ⟨rfl, hG⟩ a hk
    have hs := hs.call0 hG
    refine sa _ rfl hk rfl rfl rfl fun a hk => ?_
    show wpList _ _ _ [] _ _
    refine wpList_nil ?_
    refine hK11 _ _ ?_
    apply wp_seq_k; intro K16 hK16
    apply wp_region_lit
    refine sln [.int .i64 x0.Epoch, .int .i64 x0.Side, .int .i64 x0.Count, .int .i64 x0.Boot, .string x0.Base, .string x0.Tip, .string x0.Root] rfl hk rfl rfl rfl ag29 sz29 (box_cells hs (k := 1) rfl) fun a hk => ?_
    obtain ⟨y17, h18, H⟩ := bind_some H
    refine sc rfl en14 hk rfl rfl rfl (laws_toRegister_t _ x0 _ h18) ?_
    rintro _ w ⟨rfl, hG⟩ a hk
    have hs := hs.call0 hG
    obtain ⟨y19, h20, H⟩ := bind_some H
    refine sc rfl en15 hk rfl rfl rfl (impl_RegisterOK_t _ y17 _ h20) ?_
    rintro _ w ⟨rfl, hG⟩ a hk
    have hs := hs.call0 hG
    refine sa _ rfl hk rfl rfl rfl fun a hk => ?_
    show wpList _ _ _ [] _ _
    refine wpList_nil ?_
    refine hK16 _ _ ?_
    apply wp_seq_k; intro K21 hK21
    apply wp_seq_k; intro K22 hK22
    apply wp_region_lit
    refine sm _ rfl hk rfl rfl rfl fun a hk => ?_
    refine sm _ rfl hk rfl rfl rfl fun a hk => ?_
    refine sbn rfl hk rfl rfl rfl rfl un4 fun a hk => ?_
    show wpList _ _ _ [] _ _
    refine wpList_nil ?_
    refine hK22 _ _ ?_
    rcases cond_some H with ⟨c23, H⟩ | ⟨c23, H⟩
    · have hk := hk.lit 19 c23 rfl
      refine cnd_true hk rfl rfl ?_
      apply wp_seq_k; intro K24 hK24
      apply wp_region_lit
      refine sa _ rfl hk rfl rfl rfl fun a hk => ?_
      show wpList _ _ _ [] _ _
      refine wpList_nil ?_
      refine hK24 _ _ ?_
      refine wp_ret ?_
      obtain rfl := Option.some.inj H
      exact fin hk _ [(.bool false)] rfl ⟨rfl, trivial⟩ ⟨rfl, (hs.pick [] rfl).dnil⟩
    · have hk := hk.lit 19 c23 rfl
      refine cnd_false hk rfl rfl ?_
      refine wp_skip ?_
      refine hK21 _ _ ?_
      apply wp_seq_k; intro K25 hK25
      apply wp_region_lit
      refine sa _ rfl hk rfl rfl rfl fun a hk => ?_
      show wpList _ _ _ [] _ _
      refine wpList_nil ?_
      refine hK25 _ _ ?_
      refine wp_ret ?_
      obtain rfl := Option.some.inj H
      exact fin hk _ [(.bool true)] rfl ⟨rfl, trivial⟩ ⟨rfl, (hs.pick [] rfl).dnil⟩

end Go.Proofs.Ytjelagjijnpkdaa
