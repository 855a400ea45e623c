/- The functions that FnExactWriteAt reaches: for each a model and the walk that shows that the Go code comes to it. -/
import Derived.Test.YtmafglodgnbajaaGXFlipAt
namespace Go.Proofs.Ytmafglodgnbajaa
open Go Go.Z Go.Proofs Go.MuLone Go.ChangeShapes Go.WideShapes Go.ChangeAt Go.RowKit
set_option linter.unusedVariables false
set_option linter.unusedSimpArgs false
noncomputable def spec_l05Write.f (x0 : S_Device) (x1 : Int) (x2 : ByteArray) : Option (S_Device) :=
  (if ([] : List S_Io).length + x0.Unsure.length ≤ 1073741824 then (if (([] : List S_Io) ++ x0.Unsure).length + ([(⟨x1, x2⟩ : S_Io)]).length ≤ 1073741824 then (some (⟨x0.Sure, ((([] : List S_Io) ++ x0.Unsure) ++ ([(⟨x1, x2⟩ : S_Io)]))⟩ : S_Device)) else none) else none)
set_option maxRecDepth 100000 in
set_option maxHeartbeats 0 in
theorem spec_l05Write_t (w0 : World) (x0 : S_Device) (A0_0 : Option Addr) (p0_0 : Nat) (k0_0 : Chunk) (v0_0 : View Lay.str A0_0 p0_0 x0.Sure k0_0) (w0_0 : Has w0 k0_0) (A0_1 : Option Addr) (p0_1 : Nat) (k0_1 : Chunk) (v0_1 : View L_Io A0_1 p0_1 x0.Unsure k0_1) (w0_1 : Has w0 k0_1) (x1 : Int) (x2 : ByteArray) (r : S_Device) (H : spec_l05Write.f x0 x1 x2 = some r) :
    Calls Try.prog 87 #[.agg #[.slice A0_0 x0.Sure.length p0_0, .slice A0_1 x0.Unsure.length p0_1], .int .i64 x1, .string x2] w0 (Ret (fun v w => ∃ (A0 : Option Addr) (p0 : Nat), ∃ (A1 : Option Addr) (p1 : Nat) (k1 : Chunk), ∃ (kS : Chunk), v = .agg #[.slice A0 r.Sure.length p0, .slice A1 r.Unsure.length p1] ∧ View Lay.str A0 p0 r.Sure (k0_0 ++ kS) ∧ Own L_Io 114 A1 p1 r.Unsure k1 ∧ Sat [] w0 w [] [(0, k1), (1, kS)])) := by
  have hs : Sat [] w0 w0 [(1, k0_0), (2, k0_1)] [] := Sat.init w0 [(1, k0_0), (2, k0_1)] [] (by simp only [List.mem_cons, List.not_mem_nil, or_false]; rintro x (rfl | rfl) <;> assumption) (by simp) List.nodup_nil (by simp [blks])
  unfold spec_l05Write.f at H
  refine enter Try.func87 rfl Try.ntmps87 rfl fun a hk => ?_
  apply wp_seq_k; intro K1 hK1
  apply wp_region_lit
  refine sbx 3 hs rfl hk rfl rfl rfl rfl fun b2 w a hk hs => ?_
  refine salx 4 hs rfl hk rfl rfl ze35 rfl fun b3 w a hk hs => ?_
  show wpList _ _ _ [] _ _
  refine wpList_nil ?_
  refine hK1 _ _ ?_
  apply wp_seq_k; intro K4 hK4
  apply wp_region_lit
  refine sbs0 5 L_Io hs rfl hk rfl rfl un33 sz114 fun b5 k6 w a hk o7 hs => ?_
  refine sf ⟨b2, 1, none⟩ rfl hk rfl rfl rfl fd35_1 rfl fun a hk => ?_
  refine sl rfl hk rfl rfl rfl ag33 (box_cell hs (k := 3) rfl rfl) fun a hk => ?_
  rcases ite_some H with ⟨c8, H⟩ | ⟨_, H⟩
  rotate_left
  · cases H
  refine sap 5 (xs := ([] : List S_Io)) (ys := x0.Unsure) (flat_flat : (L_Io).Flat) hs rfl o7 v0_1 (hs.hasD (k := 2) rfl) rfl hk rfl rfl rfl rfl rfl rfl un33 mk114 rfl rfl rfl c8 fun A9 p10 k11 w a hk o12 hs => ?_
  refine sm _ rfl hk rfl rfl rfl fun a hk => ?_
  refine sm _ rfl hk rfl rfl rfl fun a hk => ?_
  refine sbd (pv := [(0, (.int .i64 x1)), (1, (.string x2))]) rfl hk rfl rfl rfl (bd114_3 x1 x2) fun a hk => ?_
  refine sbs (L := L_Io) (pv := [(0, (.agg #[.int .i64 x1, .string x2]))]) (xs := [(⟨x1, x2⟩ : S_Io)]) (ess := [[.int .i64 x1, .string x2]]) 6 hs rfl hk rfl rfl rfl un33 (bs114_4 x1 x2) (AllOwn.cons0 ⟨rfl, rfl⟩ AllOwn.nil) rfl rfl rfl fun b13 k14 w a hk o15 hs => ?_
  rcases ite_some H with ⟨c16, H⟩ | ⟨_, H⟩
  rotate_left
  · cases H
  refine sap 5 (xs := (([] : List S_Io) ++ x0.Unsure)) (ys := [(⟨x1, x2⟩ : S_Io)]) (flat_flat : (L_Io).Flat) hs rfl o12 o15.view (hs.hasG (k := 6) rfl) rfl hk rfl rfl rfl rfl rfl rfl un33 mk114 rfl rfl rfl c16 fun A17 p18 k19 w a hk o20 hs => ?_
  refine sf ⟨b2, 1, none⟩ rfl hk rfl rfl rfl fd35_1 rfl fun a hk => ?_
  refine ssx (cs' := #[.slice A0_0 x0.Sure.length p0_0, .slice A17 ((([] : List S_Io) ++ x0.Unsure) ++ ([(⟨x1, x2⟩ : S_Io)])).length p18]) 3 hs rfl rfl hk rfl rfl rfl rfl sz33 rfl rfl rfl rfl fun w a hk hs => ?_
  show wpList _ _ _ [] _ _
  refine wpList_nil ?_
  refine hK4 _ _ ?_
  apply wp_seq_k; intro K21 hK21
  apply wp_region_lit
  refine sln [.slice A0_0 x0.Sure.length p0_0, .slice A17 ((([] : List S_Io) ++ x0.Unsure) ++ ([(⟨x1, x2⟩ : S_Io)])).length p18] rfl hk rfl rfl rfl ag35 sz35 (box_cells hs (k := 3) rfl) fun a hk => ?_
  refine ssw 4 hs rfl rfl hk rfl rfl rfl rfl sz35 (by simp [Value.oneCell']) rfl fun w a hk hs => ?_
  show wpList _ _ _ [] _ _
  refine wpList_nil ?_
  refine hK21 _ _ ?_
  refine wp_ret ?_
  obtain rfl := Option.some.inj H
  exact fin hk _ [(.agg #[.slice A0_0 x0.Sure.length p0_0, .slice A17 ((([] : List S_Io) ++ x0.Unsure) ++ ([(⟨x1, x2⟩ : S_Io)])).length p18])] rfl ⟨⟨_, rfl, run_loadN ag35 sz35 (box_cells hs (k := 4) rfl)⟩, trivial⟩ ⟨A0_0, p0_0, A17, p18, _, _, rfl, (v0_0).sub (Sub.l _ (Sub.refl _)), o20, ((hs.addNil 3000).pick [(0, 5), (1, 3000)] rfl).dnil⟩

noncomputable def spec_WriteAt.f (x0 : S_Device) (x1 : Int) (x2 : ByteArray) : Option (S_Device × Int) :=
  (bif (decide ((x2.size : Int) > 65536)) then (some ((⟨([] : List ByteArray), ([] : List S_Io)⟩ : S_Device), 2)) else ((spec_DeviceOK.f x0).bind fun y10 => (bif (!y10) then (some ((⟨([] : List ByteArray), ([] : List S_Io)⟩ : S_Device), 1)) else ((spec_l05In.f x1).bind fun y16 => (bif (!y16) then (some ((⟨([] : List ByteArray), ([] : List S_Io)⟩ : S_Device), 4)) else (bif (decide ((x2.size : Int) > 700)) then ((spec_l05Own.f x0).bind fun y24 => (some (y24, 8))) else (bif ((x0.Unsure.length : Int) == 60) then ((spec_l05Own.f x0).bind fun y38 => (some (y38, 7))) else ((spec_l05Write.f x0 x1 x2).bind fun y49 => ((spec_l05Own.f y49).bind fun y59 => (some (y59, 0)))))))))))
set_option maxRecDepth 100000 in
set_option maxHeartbeats 0 in
theorem spec_WriteAt_t (w0 : World) (x0 : S_Device) (A0_0 : Option Addr) (p0_0 : Nat) (k0_0 : Chunk) (v0_0 : View Lay.str A0_0 p0_0 x0.Sure k0_0) (w0_0 : Has w0 k0_0) (A0_1 : Option Addr) (p0_1 : Nat) (k0_1 : Chunk) (v0_1 : View L_Io A0_1 p0_1 x0.Unsure k0_1) (w0_1 : Has w0 k0_1) (x1 : Int) (x2 : ByteArray) (r : S_Device × Int) (H : spec_WriteAt.f x0 x1 x2 = some r) :
    Calls Try.prog 35 #[.agg #[.slice A0_0 x0.Sure.length p0_0, .slice A0_1 x0.Unsure.length p0_1], .int .i64 x1, .string x2] w0 (Ret (fun v w => ∃ (A0 : Option Addr) (p0 : Nat) (k0 : Chunk), ∃ (A1 : Option Addr) (p1 : Nat) (k1 : Chunk), v = .tuple #[.agg #[.slice A0 r.1.Sure.length p0, .slice A1 r.1.Unsure.length p1], .int .i64 r.2] ∧ Own Lay.str 9 A0 p0 r.1.Sure k0 ∧ Own L_Io 114 A1 p1 r.1.Unsure k1 ∧ Sat [] w0 w [] [(0, k0), (1, k1)])) := by
  have hs : Sat [] w0 w0 [(1, k0_0), (2, k0_1)] [] := Sat.init w0 [(1, k0_0), (2, k0_1)] [] (by simp only [List.mem_cons, List.not_mem_nil, or_false]; rintro x (rfl | rfl) <;> assumption) (by simp) List.nodup_nil (by simp [blks])
  unfold spec_WriteAt.f at H
  refine enter Try.func35 rfl Try.ntmps35 rfl fun a hk => ?_
  apply wp_seq_k; intro K1 hK1
  apply wp_region_lit
  refine sbx 3 hs rfl hk rfl rfl rfl rfl fun b2 w a hk hs => ?_
  refine salx 4 hs rfl hk rfl rfl ze35 rfl fun b3 w a hk hs => ?_
  refine sa _ rfl hk rfl rfl rfl fun a hk => ?_
  show wpList _ _ _ [] _ _
  refine wpList_nil ?_
  refine hK1 _ _ ?_
  apply wp_seq_k; intro K4 hK4
  apply wp_seq_k; intro K5 hK5
  apply wp_region_lit
  refine sm _ rfl hk rfl rfl rfl fun a hk => ?_
  refine sles rfl hk rfl rfl rfl un9 fun a hk => ?_
  refine sv (.bool (decide ((x2.size : Int) > 65536))) hk rfl rfl rfl fun a hk => ?_
  show wpList _ _ _ [] _ _
  refine wpList_nil ?_
  refine hK5 _ _ ?_
  rcases cond_some H with ⟨c6, H⟩ | ⟨c6, H⟩
  · have hk := hk.lit 10 c6 rfl
    refine cnd_true hk rfl rfl ?_
    apply wp_seq_k; intro K7 hK7
    apply wp_region_lit
    refine sbd (pv := []) rfl hk rfl rfl rfl bd35_1 fun a hk => ?_
    refine ssw 4 hs rfl rfl hk rfl rfl rfl rfl sz35 (by simp [Value.oneCell']) rfl fun w a hk hs => ?_
    refine sa _ rfl hk rfl rfl rfl fun a hk => ?_
    show wpList _ _ _ [] _ _
    refine wpList_nil ?_
    refine hK7 _ _ ?_
    refine wp_ret ?_
    obtain rfl := Option.some.inj H
    have hs := hs.addNil 5
    have hs := hs.addNil 6
    exact fin hk _ [(.agg #[.slice none 0 0, .slice none 0 0]), (.int .i64 2)] rfl ⟨⟨_, rfl, run_loadN ag35 sz35 (box_cells hs (k := 4) rfl)⟩, ⟨rfl, trivial⟩⟩ ⟨none, 0, [], none, 0, [], rfl, Own.nil _ _, Own.nil _ _, (hs.pick [(0, 5), (1, 6)] rfl).dnil⟩
  · have hk := hk.lit 10 c6 rfl
    refine cnd_false hk rfl rfl ?_
    refine wp_skip ?_
    refine hK4 _ _ ?_
    apply wp_seq_k; intro K8 hK8
    apply wp_seq_k; intro K9 hK9
    apply wp_region_lit
    refine sln [.slice A0_0 x0.Sure.length p0_0, .slice A0_1 x0.Unsure.length p0_1] rfl hk rfl rfl rfl ag35 sz35 (box_cells hs (k := 3) rfl) fun a hk => ?_
    obtain ⟨y10, h11, H⟩ := bind_some H
    refine sc rfl en49 hk rfl rfl rfl (spec_DeviceOK_t _ x0 A0_0 p0_0 _ v0_0 (hs.hasD (k := 1) rfl) A0_1 p0_1 _ v0_1 (hs.hasD (k := 2) rfl) _ h11) ?_
    rintro _ w ⟨rfl, hG⟩ a hk
    have hs := hs.call0 hG
    refine sv (.bool (!y10)) hk rfl rfl rfl fun a hk => ?_
    show wpList _ _ _ [] _ _
    refine wpList_nil ?_
    refine hK9 _ _ ?_
    rcases cond_some H with ⟨c12, H⟩ | ⟨c12, H⟩
    · have hk := hk.lit 14 c12 rfl
      refine cnd_true hk rfl rfl ?_
      apply wp_seq_k; intro K13 hK13
      apply wp_region_lit
      refine sbd (pv := []) rfl hk rfl rfl rfl bd35_1 fun a hk => ?_
      refine ssw 4 hs rfl rfl hk rfl rfl rfl rfl sz35 (by simp [Value.oneCell']) rfl fun w a hk hs => ?_
      refine sa _ rfl hk rfl rfl rfl fun a hk => ?_
      show wpList _ _ _ [] _ _
      refine wpList_nil ?_
      refine hK13 _ _ ?_
      refine wp_ret ?_
      obtain rfl := Option.some.inj H
      have hs := hs.addNil 7
      have hs := hs.addNil 8
      exact fin hk _ [(.agg #[.slice none 0 0, .slice none 0 0]), (.int .i64 1)] rfl ⟨⟨_, rfl, run_loadN ag35 sz35 (box_cells hs (k := 4) rfl)⟩, ⟨rfl, trivial⟩⟩ ⟨none, 0, [], none, 0, [], rfl, Own.nil _ _, Own.nil _ _, (hs.pick [(0, 7), (1, 8)] rfl).dnil⟩
    · have hk := hk.lit 14 c12 rfl
      refine cnd_false hk rfl rfl ?_
      refine wp_skip ?_
      refine hK8 _ _ ?_
      apply wp_seq_k; intro K14 hK14
      apply wp_seq_k; intro K15 hK15
      apply wp_region_lit
      refine sm _ rfl hk rfl rfl rfl fun a hk => ?_
      obtain ⟨y16, h17, H⟩ := bind_some H
      refine sc rfl en57 hk rfl rfl rfl (spec_l05In_t _ x1 _ h17) ?_
      rintro _ w ⟨rfl, hG⟩ a hk
      have hs := hs.call0 hG
      refine sv (.bool (!y16)) hk rfl rfl rfl fun a hk => ?_
      show wpList _ _ _ [] _ _
      refine wpList_nil ?_
      refine hK15 _ _ ?_
      rcases cond_some H with ⟨c18, H⟩ | ⟨c18, H⟩
      · have hk := hk.lit 18 c18 rfl
        refine cnd_true hk rfl rfl ?_
        apply wp_seq_k; intro K19 hK19
        apply wp_region_lit
        refine sbd (pv := []) rfl hk rfl rfl rfl bd35_1 fun a hk => ?_
        refine ssw 4 hs rfl rfl hk rfl rfl rfl rfl sz35 (by simp [Value.oneCell']) rfl fun w a hk hs => ?_
        refine sa _ rfl hk rfl rfl rfl fun a hk => ?_
        show wpList _ _ _ [] _ _
        refine wpList_nil ?_
        refine hK19 _ _ ?_
        refine wp_ret ?_
        obtain rfl := Option.some.inj H
        have hs := hs.addNil 9
        have hs := hs.addNil 10
        exact fin hk _ [(.agg #[.slice none 0 0, .slice none 0 0]), (.int .i64 4)] rfl ⟨⟨_, rfl, run_loadN ag35 sz35 (box_cells hs (k := 4) rfl)⟩, ⟨rfl, trivial⟩⟩ ⟨none, 0, [], none, 0, [], rfl, Own.nil _ _, Own.nil _ _, (hs.pick [(0, 9), (1, 10)] rfl).dnil⟩
      · have hk := hk.lit 18 c18 rfl
        refine cnd_false hk rfl rfl ?_
        refine wp_skip ?_
        refine hK14 _ _ ?_
        apply wp_seq_k; intro K20 hK20
        apply wp_seq_k; intro K21 hK21
        apply wp_region_lit
        refine sm _ rfl hk rfl rfl rfl fun a hk => ?_
        refine sles rfl hk rfl rfl rfl un9 fun a hk => ?_
        refine sv (.bool (decide ((x2.size : Int) > 700))) hk rfl rfl rfl fun a hk => ?_
        show wpList _ _ _ [] _ _
        refine wpList_nil ?_
        refine hK21 _ _ ?_
        rcases cond_some H with ⟨c22, H⟩ | ⟨c22, H⟩
        · have hk := hk.lit 22 c22 rfl
          refine cnd_true hk rfl rfl ?_
          apply wp_seq_k; intro K23 hK23
          apply wp_region_lit
          refine sln [.slice A0_0 x0.Sure.length p0_0, .slice A0_1 x0.Unsure.length p0_1] rfl hk rfl rfl rfl ag35 sz35 (box_cells hs (k := 3) rfl) fun a hk => ?_
          obtain ⟨y24, h25, H⟩ := bind_some H
          refine sc rfl en75 hk rfl rfl rfl (spec_l05Own_t _ x0 A0_0 p0_0 _ v0_0 (hs.hasD (k := 1) rfl) A0_1 p0_1 _ v0_1 (hs.hasD (k := 2) rfl) _ h25) ?_
          rintro _ w ⟨A26, p27, k28, A30, p31, k32, rfl, o29, o33, hG⟩ a hk
          have hs := hs.call0k hG [11, 12] rfl
          refine ssw 4 hs rfl rfl hk rfl rfl rfl rfl sz35 (by simp [Value.oneCell']) rfl fun w a hk hs => ?_
          refine sa _ rfl hk rfl rfl rfl fun a hk => ?_
          show wpList _ _ _ [] _ _
          refine wpList_nil ?_
          refine hK23 _ _ ?_
          refine wp_ret ?_
          obtain rfl := Option.some.inj H
          exact fin hk _ [(.agg #[.slice A26 y24.Sure.length p27, .slice A30 y24.Unsure.length p31]), (.int .i64 8)] rfl ⟨⟨_, rfl, run_loadN ag35 sz35 (box_cells hs (k := 4) rfl)⟩, ⟨rfl, trivial⟩⟩ ⟨A26, p27, _, A30, p31, _, rfl, o29, o33, (hs.pick [(0, 11), (1, 12)] rfl).dnil⟩
        · have hk := hk.lit 22 c22 rfl
          refine cnd_false hk rfl rfl ?_
          refine wp_skip ?_
          refine hK20 _ _ ?_
          apply wp_seq_k; intro K34 hK34
          apply wp_seq_k; intro K35 hK35
          apply wp_region_lit
          refine sf ⟨b2, 1, none⟩ rfl hk rfl rfl rfl fd35_1 rfl fun a hk => ?_
          refine sl rfl hk rfl rfl rfl ag33 (box_cell hs (k := 3) rfl rfl) fun a hk => ?_
          refine sle rfl hk rfl rfl rfl un33 fun a hk => ?_
          refine sv (.bool ((x0.Unsure.length : Int) == 60)) hk rfl rfl rfl fun a hk => ?_
          show wpList _ _ _ [] _ _
          refine wpList_nil ?_
          refine hK35 _ _ ?_
          rcases cond_some H with ⟨c36, H⟩ | ⟨c36, H⟩
          · have hk := hk.lit 28 c36 rfl
            refine cnd_true hk rfl rfl ?_
            apply wp_seq_k; intro K37 hK37
            apply wp_region_lit
            refine sln [.slice A0_0 x0.Sure.length p0_0, .slice A0_1 x0.Unsure.length p0_1] rfl hk rfl rfl rfl ag35 sz35 (box_cells hs (k := 3) rfl) fun a hk => ?_
            obtain ⟨y38, h39, H⟩ := bind_some H
            refine sc rfl en75 hk rfl rfl rfl (spec_l05Own_t _ x0 A0_0 p0_0 _ v0_0 (hs.hasD (k := 1) rfl) A0_1 p0_1 _ v0_1 (hs.hasD (k := 2) rfl) _ h39) ?_
            rintro _ w ⟨A40, p41, k42, A44, p45, k46, rfl, o43, o47, hG⟩ a hk
            have hs := hs.call0k hG [13, 14] rfl
            refine ssw 4 hs rfl rfl hk rfl rfl rfl rfl sz35 (by simp [Value.oneCell']) rfl fun w a hk hs => ?_
            refine sa _ rfl hk rfl rfl rfl fun a hk => ?_
            show wpList _ _ _ [] _ _
            refine wpList_nil ?_
            refine hK37 _ _ ?_
            refine wp_ret ?_
            obtain rfl := Option.some.inj H
            exact fin hk _ [(.agg #[.slice A40 y38.Sure.length p41, .slice A44 y38.Unsure.length p45]), (.int .i64 7)] rfl ⟨⟨_, rfl, run_loadN ag35 sz35 (box_cells hs (k := 4) rfl)⟩, ⟨rfl, trivial⟩⟩ ⟨A40, p41, _, A44, p45, _, rfl, o43, o47, (hs.pick [(0, 13), (1, 14)] rfl).dnil⟩
          · have hk := hk.lit 28 c36 rfl
            refine cnd_false hk rfl rfl ?_
            refine wp_skip ?_
            refine hK34 _ _ ?_
            apply wp_seq_k; intro K48 hK48
            apply wp_region_lit
            refine sln [.slice A0_0 x0.Sure.length p0_0, .slice A0_1 x0.Unsure.length p0_1] rfl hk rfl rfl rfl ag35 sz35 (box_cells hs (k := 3) rfl) fun a hk => ?_
            refine sm _ rfl hk rfl rfl rfl fun a hk => ?_
            refine sm _ rfl hk rfl rfl rfl fun a hk => ?_
            obtain ⟨y49, h50, H⟩ := bind_some H
            refine sc rfl en87 hk rfl rfl rfl (spec_l05Write_t _ x0 A0_0 p0_0 _ v0_0 (hs.hasD (k := 1) rfl) A0_1 p0_1 _ v0_1 (hs.hasD (k := 2) rfl) x1 x2 _ h50) ?_
            rintro _ w ⟨A52, p53, A55, p56, k57, k51, rfl, v54, o58, hG⟩ a hk
            have hs := hs.call0k hG [16, 15] rfl
            obtain ⟨y59, h60, H⟩ := bind_some H
            refine sc rfl en75 hk rfl rfl rfl (spec_l05Own_t _ y49 A52 p53 _ v54 (Has.app (hs.hasD (k := 1) rfl) (hs.hasG (k := 15) rfl)) A55 p56 _ o58.view (hs.hasG (k := 16) rfl) _ h60) ?_
            rintro _ w ⟨A61, p62, k63, A65, p66, k67, rfl, o64, o68, hG⟩ a hk
            have hs := hs.call0k hG [17, 18] rfl
            refine ssw 4 hs rfl rfl hk rfl rfl rfl rfl sz35 (by simp [Value.oneCell']) rfl fun w a hk hs => ?_
            refine sa _ rfl hk rfl rfl rfl fun a hk => ?_
            show wpList _ _ _ [] _ _
            refine wpList_nil ?_
            refine hK48 _ _ ?_
            refine wp_ret ?_
            obtain rfl := Option.some.inj H
            exact fin hk _ [(.agg #[.slice A61 y59.Sure.length p62, .slice A65 y59.Unsure.length p66]), (.int .i64 0)] rfl ⟨⟨_, rfl, run_loadN ag35 sz35 (box_cells hs (k := 4) rfl)⟩, ⟨rfl, trivial⟩⟩ ⟨A61, p62, _, A65, p66, _, rfl, o64, o68, (hs.pick [(0, 17), (1, 18)] rfl).dnil⟩

noncomputable def impl_areShort_c1.f (x0 : ByteArray) : Option (Bool) :=
  (some (decide ((x0.size : Int) ≤ 65536)))
set_option maxRecDepth 100000 in
set_option maxHeartbeats 0 in
theorem impl_areShort_c1_t (w0 : World) (x0 : ByteArray) (r : Bool) (H : impl_areShort_c1.f x0 = some r) :
    Calls Try.prog 122 #[.string x0] w0 (Ret (fun v w => v = .bool r ∧ Sat [] w0 w [] [])) := by
  have hs : Sat [] w0 w0 [] [] := Sat.init w0 [] [] (by simp) (by simp) List.nodup_nil (by simp [blks])
  unfold impl_areShort_c1.f at H
  refine enter Try.func122 rfl Try.ntmps122 rfl fun a hk => ?_
  apply wp_seq_k; intro K1 hK1
  apply wp_region_lit
  refine sa _ rfl hk rfl rfl rfl fun a hk => ?_
  show wpList _ _ _ [] _ _
  refine wpList_nil ?_
  refine hK1 _ _ ?_
  apply wp_seq_k; intro K2 hK2
  apply wp_region_lit
  refine sm _ rfl hk rfl rfl rfl fun a hk => ?_
  refine sles rfl hk rfl rfl rfl un9 fun a hk => ?_
  refine sv (.bool (decide ((x0.size : Int) ≤ 65536))) hk rfl rfl rfl fun a hk => ?_
  refine sa _ rfl hk rfl rfl rfl fun a hk => ?_
  show wpList _ _ _ [] _ _
  refine wpList_nil ?_
  refine hK2 _ _ ?_
  refine wp_ret ?_
  obtain rfl := Option.some.inj H
  exact fin hk _ [(.bool (decide ((x0.size : Int) ≤ 65536)))] rfl ⟨rfl, trivial⟩ ⟨rfl, (hs.pick [] rfl).dnil⟩

noncomputable def impl_areShort.f (l0 : List ByteArray) : Option (Bool) :=
  ((impl_areAll_string.f l0 impl_areShort_c1.f).bind fun y3 => (some y3))
set_option maxRecDepth 100000 in
set_option maxHeartbeats 0 in
theorem impl_areShort_t (w0 : World) (A0_ : Option Addr) (p0_ : Nat) (l0 : List ByteArray) (k0_ : Chunk) (v0_ : View Lay.str A0_ p0_ l0 k0_) (w0_ : Has w0 k0_) (r : Bool) (H : impl_areShort.f l0 = some r) :
    Calls Try.prog 88 #[.slice A0_ l0.length p0_] w0 (Ret (fun v w => v = .bool r ∧ Sat [] w0 w [] [])) := by
  have hs : Sat [] w0 w0 [(1, k0_)] [] := Sat.init w0 [(1, k0_)] [] (by simp only [List.mem_cons, List.not_mem_nil, or_false]; rintro x (rfl) <;> assumption) (by simp) List.nodup_nil (by simp [blks])
  unfold impl_areShort.f at H
  refine enter Try.func88 rfl Try.ntmps88 rfl fun a hk => ?_
  apply wp_seq_k; intro K1 hK1
  apply wp_region_lit
  refine sa _ rfl hk rfl rfl rfl fun a hk => ?_
  show wpList _ _ _ [] _ _
  refine wpList_nil ?_
  refine hK1 _ _ ?_
  apply wp_seq_k; intro K2 hK2
  apply wp_region_lit
  refine sm _ rfl hk rfl rfl rfl fun a hk => ?_
  obtain ⟨y3, h4, H⟩ := bind_some H
  refine sc rfl en115 hk rfl rfl rfl (impl_areAll_string_t _ A0_ p0_ l0 _ v0_ (hs.hasD (k := 1) rfl) 122 [] en122 impl_areShort_c1.f [] (fun w _ z0 r h => impl_areShort_c1_t w z0 r h) (Has.nil _) _ h4) ?_
  rintro _ w ⟨rfl, hG⟩ a hk
  have hs := hs.call0 hG
  refine sa _ rfl hk rfl rfl rfl fun a hk => ?_
  show wpList _ _ _ [] _ _
  refine wpList_nil ?_
  refine hK2 _ _ ?_
  refine wp_ret ?_
  obtain rfl := Option.some.inj H
  exact fin hk _ [(.bool y3)] rfl ⟨rfl, trivial⟩ ⟨rfl, (hs.pick [] rfl).dnil⟩

noncomputable def impl_Device_write.f (x0 : S_Device) (x1 : Int) (x2 : ByteArray) : Option (S_Device) :=
  ((impl_Device_own.f x0).bind fun y5 => (if y5.Unsure.length + ([(⟨x1, x2⟩ : S_Io)]).length ≤ 1073741824 then (some (⟨y5.Sure, (y5.Unsure ++ ([(⟨x1, x2⟩ : S_Io)]))⟩ : S_Device)) else none))
set_option maxRecDepth 100000 in
set_option maxHeartbeats 0 in
theorem impl_Device_write_t (w0 : World) (x0 : S_Device) (A0_0 : Option Addr) (p0_0 : Nat) (k0_0 : Chunk) (v0_0 : View Lay.str A0_0 p0_0 x0.Sure k0_0) (w0_0 : Has w0 k0_0) (A0_1 : Option Addr) (p0_1 : Nat) (k0_1 : Chunk) (v0_1 : View L_Io A0_1 p0_1 x0.Unsure k0_1) (w0_1 : Has w0 k0_1) (x1 : Int) (x2 : ByteArray) (r : S_Device) (H : impl_Device_write.f x0 x1 x2 = some r) :
    Calls Try.prog 90 #[.agg #[.slice A0_0 x0.Sure.length p0_0, .slice A0_1 x0.Unsure.length p0_1], .int .i64 x1, .string x2] w0 (Ret (fun v w => ∃ (A0 : Option Addr) (p0 : Nat) (k0 : Chunk), ∃ (A1 : Option Addr) (p1 : Nat) (k1 : Chunk), v = .agg #[.slice A0 r.Sure.length p0, .slice A1 r.Unsure.length p1] ∧ Own Lay.str 9 A0 p0 r.Sure k0 ∧ Own L_Io 114 A1 p1 r.Unsure k1 ∧ Sat [] w0 w [] [(0, k0), (1, k1)])) := by
  have hs : Sat [] w0 w0 [(1, k0_0), (2, k0_1)] [] := Sat.init w0 [(1, k0_0), (2, k0_1)] [] (by simp only [List.mem_cons, List.not_mem_nil, or_false]; rintro x (rfl | rfl) <;> assumption) (by simp) List.nodup_nil (by simp [blks])
  unfold impl_Device_write.f at H
  refine enter Try.func90 rfl Try.ntmps90 rfl fun a hk => ?_
  apply wp_seq_k; intro K1 hK1
  apply wp_region_lit
  refine sbx 3 hs rfl hk rfl rfl rfl rfl fun b2 w a hk hs => ?_
  refine salx 4 hs rfl hk rfl rfl ze35 rfl fun b3 w a hk hs => ?_
  show wpList _ _ _ [] _ _
  refine wpList_nil ?_
  refine hK1 _ _ ?_
  apply wp_seq_k; intro K4 hK4
  apply wp_region_lit
  refine sln [.slice A0_0 x0.Sure.length p0_0, .slice A0_1 x0.Unsure.length p0_1] rfl hk rfl rfl rfl ag35 sz35 (box_cells hs (k := 3) rfl) fun a hk => ?_
  obtain ⟨y5, h6, H⟩ := bind_some H
  refine sc rfl en80 hk rfl rfl rfl (impl_Device_own_t _ x0 A0_0 p0_0 _ v0_0 (hs.hasD (k := 1) rfl) A0_1 p0_1 _ v0_1 (hs.hasD (k := 2) rfl) _ h6) ?_
  rintro _ w ⟨A7, p8, k9, A11, p12, k13, rfl, o10, o14, hG⟩ a hk
  have hs := hs.call0k hG [5, 6] rfl
  refine salx 7 hs rfl hk rfl rfl ze35 rfl fun b15 w a hk hs => ?_
  refine ssw 7 hs rfl rfl hk rfl rfl rfl rfl sz35 (by simp [Value.oneCell']) rfl fun w a hk hs => ?_
  show wpList _ _ _ [] _ _
  refine wpList_nil ?_
  refine hK4 _ _ ?_
  apply wp_seq_k; intro K16 hK16
  apply wp_region_lit
  refine sf ⟨b15, 1, none⟩ rfl hk rfl rfl rfl fd35_1 rfl fun a hk => ?_
  refine sl rfl hk rfl rfl rfl ag33 (box_cell hs (k := 7) rfl rfl) fun a hk => ?_
  refine sm _ rfl hk rfl rfl rfl fun a hk => ?_
  refine sm _ rfl hk rfl rfl rfl fun a hk => ?_
  refine sbd (pv := [(0, (.int .i64 x1)), (1, (.string x2))]) rfl hk rfl rfl rfl (bd114_3 x1 x2) fun a hk => ?_
  refine sbs (L := L_Io) (pv := [(0, (.agg #[.int .i64 x1, .string x2]))]) (xs := [(⟨x1, x2⟩ : S_Io)]) (ess := [[.int .i64 x1, .string x2]]) 8 hs rfl hk rfl rfl rfl un33 (bs114_4 x1 x2) (AllOwn.cons0 ⟨rfl, rfl⟩ AllOwn.nil) rfl rfl rfl fun b17 k18 w a hk o19 hs => ?_
  rcases ite_some H with ⟨c20, H⟩ | ⟨_, H⟩
  rotate_left
  · cases H
  refine sap 6 (xs := y5.Unsure) (ys := [(⟨x1, x2⟩ : S_Io)]) (flat_flat : (L_Io).Flat) hs rfl o14 o19.view (hs.hasG (k := 8) rfl) rfl hk rfl rfl rfl rfl rfl rfl un33 mk114 rfl rfl rfl c20 fun A21 p22 k23 w a hk o24 hs => ?_
  refine sf ⟨b15, 1, none⟩ rfl hk rfl rfl rfl fd35_1 rfl fun a hk => ?_
  refine ssx (cs' := #[.slice A7 y5.Sure.length p8, .slice A21 (y5.Unsure ++ ([(⟨x1, x2⟩ : S_Io)])).length p22]) 7 hs rfl rfl hk rfl rfl rfl rfl sz33 rfl rfl rfl rfl fun w a hk hs => ?_
  show wpList _ _ _ [] _ _
  refine wpList_nil ?_
  refine hK16 _ _ ?_
  apply wp_seq_k; intro K25 hK25
  apply wp_region_lit
  refine sln [.slice A7 y5.Sure.length p8, .slice A21 (y5.Unsure ++ ([(⟨x1, x2⟩ : S_Io)])).length p22] rfl hk rfl rfl rfl ag35 sz35 (box_cells hs (k := 7) rfl) fun a hk => ?_
  refine ssw 4 hs rfl rfl hk rfl rfl rfl rfl sz35 (by simp [Value.oneCell']) rfl fun w a hk hs => ?_
  show wpList _ _ _ [] _ _
  refine wpList_nil ?_
  refine hK25 _ _ ?_
  refine wp_ret ?_
  obtain rfl := Option.some.inj H
  exact fin hk _ [(.agg #[.slice A7 y5.Sure.length p8, .slice A21 (y5.Unsure ++ ([(⟨x1, x2⟩ : S_Io)])).length p22])] rfl ⟨⟨_, rfl, run_loadN ag35 sz35 (box_cells hs (k := 4) rfl)⟩, trivial⟩ ⟨A7, p8, _, A21, p22, _, rfl, o10, o24, (hs.pick [(0, 5), (1, 6)] rfl).dnil⟩

noncomputable def impl_WriteAt.f (x0 : S_Device) (x1 : Int) (x2 : ByteArray) : Option (S_Device × Int) :=
  ((impl_areShort.f ([x2])).bind fun y9 => (bif (!y9) then (some ((⟨([] : List ByteArray), ([] : List S_Io)⟩ : S_Device), 2)) else ((impl_DeviceOK.f x0).bind fun y14 => (bif (!y14) then (some ((⟨([] : List ByteArray), ([] : List S_Io)⟩ : S_Device), 1)) else ((impl_isSector.f x1).bind fun y19 => (bif (!y19) then (some ((⟨([] : List ByteArray), ([] : List S_Io)⟩ : S_Device), 4)) else ((impl_isContent.f x2).bind fun y24 => (bif (!y24) then ((impl_Device_own.f x0).bind fun y28 => (some (y28, 8))) else (bif ((x0.Unsure.length : Int) == 60) then ((impl_Device_own.f x0).bind fun y41 => (some (y41, 7))) else ((impl_Device_write.f x0 x1 x2).bind fun y52 => (some (y52, 0))))))))))))
set_option maxRecDepth 100000 in
set_option maxHeartbeats 0 in
theorem impl_WriteAt_t (w0 : World) (x0 : S_Device) (A0_0 : Option Addr) (p0_0 : Nat) (k0_0 : Chunk) (v0_0 : View Lay.str A0_0 p0_0 x0.Sure k0_0) (w0_0 : Has w0 k0_0) (A0_1 : Option Addr) (p0_1 : Nat) (k0_1 : Chunk) (v0_1 : View L_Io A0_1 p0_1 x0.Unsure k0_1) (w0_1 : Has w0 k0_1) (x1 : Int) (x2 : ByteArray) (r : S_Device × Int) (H : impl_WriteAt.f x0 x1 x2 = some r) :
    Calls Try.prog 36 #[.agg #[.slice A0_0 x0.Sure.length p0_0, .slice A0_1 x0.Unsure.length p0_1], .int .i64 x1, .string x2] w0 (Ret (fun v w => ∃ (A0 : Option Addr) (p0 : Nat) (k0 : Chunk), ∃ (A1 : Option Addr) (p1 : Nat) (k1 : Chunk), v = .tuple #[.agg #[.slice A0 r.1.Sure.length p0, .slice A1 r.1.Unsure.length p1], .int .i64 r.2] ∧ Own Lay.str 9 A0 p0 r.1.Sure k0 ∧ Own L_Io 114 A1 p1 r.1.Unsure k1 ∧ Sat [] w0 w [] [(0, k0), (1, k1)])) := by
  have hs : Sat [] w0 w0 [(1, k0_0), (2, k0_1)] [] := Sat.init w0 [(1, k0_0), (2, k0_1)] [] (by simp only [List.mem_cons, List.not_mem_nil, or_false]; rintro x (rfl | rfl) <;> assumption) (by simp) List.nodup_nil (by simp [blks])
  unfold impl_WriteAt.f at H
  refine enter Try.func36 rfl Try.ntmps36 rfl fun a hk => ?_
  apply wp_seq_k; intro K1 hK1
  apply wp_region_lit
  refine sbx 3 hs rfl hk rfl rfl rfl rfl fun b2 w a hk hs => ?_
  refine salx 4 hs rfl hk rfl rfl ze35 rfl fun b3 w a hk hs => ?_
  refine sa _ rfl hk rfl rfl rfl fun a hk => ?_
  show wpList _ _ _ [] _ _
  refine wpList_nil ?_
  refine hK1 _ _ ?_
  apply wp_seq_k; intro K4 hK4
  refine wp_block ?_
  apply wp_seq_k; intro K5 hK5
  apply wp_region_lit
  refine sm _ rfl hk rfl rfl rfl fun a hk => ?_
  refine sbs (L := Lay.str) (pv := [(0, (.string x2))]) (xs := [x2]) (ess := [[.string x2]]) 5 hs rfl hk rfl rfl rfl un24 (bs9_5 x2) (AllOwn.cons0 ⟨rfl, rfl⟩ AllOwn.nil) rfl rfl rfl fun b6 k7 w a hk o8 hs => ?_
  obtain ⟨y9, h10, H⟩ := bind_some H
  refine sc rfl en88 hk rfl rfl rfl (impl_areShort_t _ (some ⟨b6, 0, none⟩) 1 ([x2]) _ o8.view (hs.hasG (k := 5) rfl) _ h10) ?_
  rintro _ w ⟨rfl, hG⟩ a hk
  have hs := hs.call0 hG
  refine sv (.bool (!y9)) hk rfl rfl rfl fun a hk => ?_
  refine sa _ rfl hk rfl rfl rfl fun a hk => ?_
  show wpList _ _ _ [] _ _
  refine wpList_nil ?_
  refine hK5 _ _ ?_
  rcases cond_some H with ⟨c11, H⟩ | ⟨c11, H⟩
  · have hk := hk.lit 8 c11 rfl
    refine cnd_true hk rfl rfl ?_
    apply wp_seq_k; intro K12 hK12
    apply wp_region_lit
    refine sbd (pv := []) rfl hk rfl rfl rfl bd35_1 fun a hk => ?_
    refine ssw 4 hs rfl rfl hk rfl rfl rfl rfl sz35 (by simp [Value.oneCell']) rfl fun w a hk hs => ?_
    refine sa _ rfl hk rfl rfl rfl fun a hk => ?_
    show wpList _ _ _ [] _ _
    refine wpList_nil ?_
    refine hK12 _ _ ?_
    refine wp_ret ?_
    obtain rfl := Option.some.inj H
    have hs := hs.addNil 6
    have hs := hs.addNil 7
    exact fin hk _ [(.agg #[.slice none 0 0, .slice none 0 0]), (.int .i64 2)] rfl ⟨⟨_, rfl, run_loadN ag35 sz35 (box_cells hs (k := 4) rfl)⟩, ⟨rfl, trivial⟩⟩ ⟨none, 0, [], none, 0, [], rfl, Own.nil _ _, Own.nil _ _, (hs.pick [(0, 6), (1, 7)] rfl).dnil⟩
  · have hk := hk.lit 8 c11 rfl
    refine cnd_false hk rfl rfl ?_
    apply wp_seq_k; intro K13 hK13
    apply wp_region_lit
    refine sln [.slice A0_0 x0.Sure.length p0_0, .slice A0_1 x0.Unsure.length p0_1] rfl hk rfl rfl rfl ag35 sz35 (box_cells hs (k := 3) rfl) fun a hk => ?_
    obtain ⟨y14, h15, H⟩ := bind_some H
    refine sc rfl en79 hk rfl rfl rfl (impl_DeviceOK_t _ x0 A0_0 p0_0 _ v0_0 (hs.hasD (k := 1) rfl) A0_1 p0_1 _ v0_1 (hs.hasD (k := 2) rfl) _ h15) ?_
    rintro _ w ⟨rfl, hG⟩ a hk
    have hs := hs.call0 hG
    refine sv (.bool (!y14)) hk rfl rfl rfl fun a hk => ?_
    refine sa _ rfl hk rfl rfl rfl fun a hk => ?_
    show wpList _ _ _ [] _ _
    refine wpList_nil ?_
    refine hK13 _ _ ?_
    rcases cond_some H with ⟨c16, H⟩ | ⟨c16, H⟩
    · have hk := hk.lit 14 c16 rfl
      refine cnd_true hk rfl rfl ?_
      apply wp_seq_k; intro K17 hK17
      apply wp_region_lit
      refine sbd (pv := []) rfl hk rfl rfl rfl bd35_1 fun a hk => ?_
      refine ssw 4 hs rfl rfl hk rfl rfl rfl rfl sz35 (by simp [Value.oneCell']) rfl fun w a hk hs => ?_
      refine sa _ rfl hk rfl rfl rfl fun a hk => ?_
      show wpList _ _ _ [] _ _
      refine wpList_nil ?_
      refine hK17 _ _ ?_
      refine wp_ret ?_
      obtain rfl := Option.some.inj H
      have hs := hs.addNil 8
      have hs := hs.addNil 9
      exact fin hk _ [(.agg #[.slice none 0 0, .slice none 0 0]), (.int .i64 1)] rfl ⟨⟨_, rfl, run_loadN ag35 sz35 (box_cells hs (k := 4) rfl)⟩, ⟨rfl, trivial⟩⟩ ⟨none, 0, [], none, 0, [], rfl, Own.nil _ _, Own.nil _ _, (hs.pick [(0, 8), (1, 9)] rfl).dnil⟩
    · have hk := hk.lit 14 c16 rfl
      refine cnd_false hk rfl rfl ?_
      apply wp_seq_k; intro K18 hK18
      apply wp_region_lit
      refine sm _ rfl hk rfl rfl rfl fun a hk => ?_
      obtain ⟨y19, h20, H⟩ := bind_some H
      refine sc rfl en64 hk rfl rfl rfl (impl_isSector_t _ x1 _ h20) ?_
      rintro _ w ⟨rfl, hG⟩ a hk
      have hs := hs.call0 hG
      refine sv (.bool (!y19)) hk rfl rfl rfl fun a hk => ?_
      refine sa _ rfl hk rfl rfl rfl fun a hk => ?_
      show wpList _ _ _ [] _ _
      refine wpList_nil ?_
      refine hK18 _ _ ?_
      rcases cond_some H with ⟨c21, H⟩ | ⟨c21, H⟩
      · have hk := hk.lit 19 c21 rfl
        refine cnd_true hk rfl rfl ?_
        apply wp_seq_k; intro K22 hK22
        apply wp_region_lit
        refine sbd (pv := []) rfl hk rfl rfl rfl bd35_1 fun a hk => ?_
        refine ssw 4 hs rfl rfl hk rfl rfl rfl rfl sz35 (by simp [Value.oneCell']) rfl fun w a hk hs => ?_
        refine sa _ rfl hk rfl rfl rfl fun a hk => ?_
        show wpList _ _ _ [] _ _
        refine wpList_nil ?_
        refine hK22 _ _ ?_
        refine wp_ret ?_
        obtain rfl := Option.some.inj H
        have hs := hs.addNil 10
        have hs := hs.addNil 11
        exact fin hk _ [(.agg #[.slice none 0 0, .slice none 0 0]), (.int .i64 4)] rfl ⟨⟨_, rfl, run_loadN ag35 sz35 (box_cells hs (k := 4) rfl)⟩, ⟨rfl, trivial⟩⟩ ⟨none, 0, [], none, 0, [], rfl, Own.nil _ _, Own.nil _ _, (hs.pick [(0, 10), (1, 11)] rfl).dnil⟩
      · have hk := hk.lit 19 c21 rfl
        refine cnd_false hk rfl rfl ?_
        apply wp_seq_k; intro K23 hK23
        apply wp_region_lit
        refine sm _ rfl hk rfl rfl rfl fun a hk => ?_
        obtain ⟨y24, h25, H⟩ := bind_some H
        refine sc rfl en89 hk rfl rfl rfl (impl_isContent_t _ x2 _ h25) ?_
        rintro _ w ⟨rfl, hG⟩ a hk
        have hs := hs.call0 hG
        refine sv (.bool (!y24)) hk rfl rfl rfl fun a hk => ?_
        refine sa _ rfl hk rfl rfl rfl fun a hk => ?_
        show wpList _ _ _ [] _ _
        refine wpList_nil ?_
        refine hK23 _ _ ?_
        rcases cond_some H with ⟨c26, H⟩ | ⟨c26, H⟩
        · have hk := hk.lit 24 c26 rfl
          refine cnd_true hk rfl rfl ?_
          apply wp_seq_k; intro K27 hK27
          apply wp_region_lit
          refine sln [.slice A0_0 x0.Sure.length p0_0, .slice A0_1 x0.Unsure.length p0_1] rfl hk rfl rfl rfl ag35 sz35 (box_cells hs (k := 3) rfl) fun a hk => ?_
          obtain ⟨y28, h29, H⟩ := bind_some H
          refine sc rfl en80 hk rfl rfl rfl (impl_Device_own_t _ x0 A0_0 p0_0 _ v0_0 (hs.hasD (k := 1) rfl) A0_1 p0_1 _ v0_1 (hs.hasD (k := 2) rfl) _ h29) ?_
          rintro _ w ⟨A30, p31, k32, A34, p35, k36, rfl, o33, o37, hG⟩ a hk
          have hs := hs.call0k hG [12, 13] rfl
          refine ssw 4 hs rfl rfl hk rfl rfl rfl rfl sz35 (by simp [Value.oneCell']) rfl fun w a hk hs => ?_
          refine sa _ rfl hk rfl rfl rfl fun a hk => ?_
          show wpList _ _ _ [] _ _
          refine wpList_nil ?_
          refine hK27 _ _ ?_
          refine wp_ret ?_
          obtain rfl := Option.some.inj H
          exact fin hk _ [(.agg #[.slice A30 y28.Sure.length p31, .slice A34 y28.Unsure.length p35]), (.int .i64 8)] rfl ⟨⟨_, rfl, run_loadN ag35 sz35 (box_cells hs (k := 4) rfl)⟩, ⟨rfl, trivial⟩⟩ ⟨A30, p31, _, A34, p35, _, rfl, o33, o37, (hs.pick [(0, 12), (1, 13)] rfl).dnil⟩
        · have hk := hk.lit 24 c26 rfl
          refine cnd_false hk rfl rfl ?_
          apply wp_seq_k; intro K38 hK38
          apply wp_region_lit
          refine sf ⟨b2, 1, none⟩ rfl hk rfl rfl rfl fd35_1 rfl fun a hk => ?_
          refine sl rfl hk rfl rfl rfl ag33 (box_cell hs (k := 3) rfl rfl) fun a hk => ?_
          refine sle rfl hk rfl rfl rfl un33 fun a hk => ?_
          refine sv (.bool ((x0.Unsure.length : Int) == 60)) hk rfl rfl rfl fun a hk => ?_
          refine sa _ rfl hk rfl rfl rfl fun a hk => ?_
          show wpList _ _ _ [] _ _
          refine wpList_nil ?_
          refine hK38 _ _ ?_
          rcases cond_some H with ⟨c39, H⟩ | ⟨c39, H⟩
          · have hk := hk.lit 30 c39 rfl
            refine cnd_true hk rfl rfl ?_
            apply wp_seq_k; intro K40 hK40
            apply wp_region_lit
            refine sln [.slice A0_0 x0.Sure.length p0_0, .slice A0_1 x0.Unsure.length p0_1] rfl hk rfl rfl rfl ag35 sz35 (box_cells hs (k := 3) rfl) fun a hk => ?_
            obtain ⟨y41, h42, H⟩ := bind_some H
            refine sc rfl en80 hk rfl rfl rfl (impl_Device_own_t _ x0 A0_0 p0_0 _ v0_0 (hs.hasD (k := 1) rfl) A0_1 p0_1 _ v0_1 (hs.hasD (k := 2) rfl) _ h42) ?_
            rintro _ w ⟨A43, p44, k45, A47, p48, k49, rfl, o46, o50, hG⟩ a hk
            have hs := hs.call0k hG [14, 15] rfl
            refine ssw 4 hs rfl rfl hk rfl rfl rfl rfl sz35 (by simp [Value.oneCell']) rfl fun w a hk hs => ?_
            refine sa _ rfl hk rfl rfl rfl fun a hk => ?_
            show wpList _ _ _ [] _ _
            refine wpList_nil ?_
            refine hK40 _ _ ?_
            refine wp_ret ?_
            obtain rfl := Option.some.inj H
            exact fin hk _ [(.agg #[.slice A43 y41.Sure.length p44, .slice A47 y41.Unsure.length p48]), (.int .i64 7)] rfl ⟨⟨_, rfl, run_loadN ag35 sz35 (box_cells hs (k := 4) rfl)⟩, ⟨rfl, trivial⟩⟩ ⟨A43, p44, _, A47, p48, _, rfl, o46, o50, (hs.pick [(0, 14), (1, 15)] rfl).dnil⟩
          · have hk := hk.lit 30 c39 rfl
            refine cnd_false hk rfl rfl ?_
            refine wp_skip ?_
            refine hK4 _ _ ?_
            apply wp_seq_k; intro K51 hK51
            apply wp_region_lit
            refine sln [.slice A0_0 x0.Sure.length p0_0, .slice A0_1 x0.Unsure.length p0_1] rfl hk rfl rfl rfl ag35 sz35 (box_cells hs (k := 3) rfl) fun a hk => ?_
            refine sm _ rfl hk rfl rfl rfl fun a hk => ?_
            refine sm _ rfl hk rfl rfl rfl fun a hk => ?_
            obtain ⟨y52, h53, H⟩ := bind_some H
            refine sc rfl en90 hk rfl rfl rfl (impl_Device_write_t _ x0 A0_0 p0_0 _ v0_0 (hs.hasD (k := 1) rfl) A0_1 p0_1 _ v0_1 (hs.hasD (k := 2) rfl) x1 x2 _ h53) ?_
            rintro _ w ⟨A54, p55, k56, A58, p59, k60, rfl, o57, o61, hG⟩ a hk
            have hs := hs.call0k hG [16, 17] rfl
            refine ssw 4 hs rfl rfl hk rfl rfl rfl rfl sz35 (by simp [Value.oneCell']) rfl fun w a hk hs => ?_
            refine sa _ rfl hk rfl rfl rfl fun a hk => ?_
            show wpList _ _ _ [] _ _
            refine wpList_nil ?_
            refine hK51 _ _ ?_
            refine wp_ret ?_
            obtain rfl := Option.some.inj H
            exact fin hk _ [(.agg #[.slice A54 y52.Sure.length p55, .slice A58 y52.Unsure.length p59]), (.int .i64 0)] rfl ⟨⟨_, rfl, run_loadN ag35 sz35 (box_cells hs (k := 4) rfl)⟩, ⟨rfl, trivial⟩⟩ ⟨A54, p55, _, A58, p59, _, rfl, o57, o61, (hs.pick [(0, 16), (1, 17)] rfl).dnil⟩

noncomputable def laws_FnExactWriteAt.f (x0 : S_Device) (x1 : Int) (x2 : ByteArray) : Option (Bool) :=
  (bif (decide ((x2.size : Int) > 1048576)) then (some true) else ((laws_szDevice.f x0 1048576).bind fun y9 => (bif (decide (y9 < 0)) then (some true) else ((laws_toDevice.f x0).bind fun y16 => ((spec_WriteAt.f y16 x1 x2).bind fun y26 => ((laws_toDevice.f x0).bind fun y38 => ((impl_WriteAt.f y38 x1 x2).bind fun y50 => ((((laws_eqDevice.f y50.1 y26.1).bind fun y69 => (bif (!y69) then (some true) else (some (y50.2 != y26.2)))) : Option (Bool)).bind fun u64 => (bif u64 then (some false) else ((laws_toDevice.f x0).bind fun y77 => ((laws_eqDevice.f y38 y77).bind fun y88 => (bif (!y88) then (some false) else ((laws_markDevice.f y38 1).bind fun y95 => (((bif (decide (y95.1 < 0)) then (some true) else ((laws_eqDevice.f y50.1 y26.1).bind fun y114 => (bif (!y114) then (some true) else (some (y50.2 != y26.2))))) : Option (Bool)).bind fun u108 => (bif u108 then (some false) else ((laws_markDevice.f y50.1 1).bind fun y121 => ((laws_heldDevice.f (⟨y121.2.1, y121.2.2⟩ : S_Device) 1).bind fun y133 => (bif (decide (y133 < 0)) then (some false) else (bif (y133 != y121.1) then (some false) else ((laws_toDevice.f x0).bind fun y144 => ((impl_WriteAt.f y144 x1 x2).bind fun y154 => ((((laws_eqDevice.f y154.1 y26.1).bind fun y173 => (bif (!y173) then (some true) else (some (y154.2 != y26.2)))) : Option (Bool)).bind fun u168 => (bif u168 then (some false) else ((laws_heldDevice.f (⟨y121.2.1, y121.2.2⟩ : S_Device) 1).bind fun y180 => (bif (decide (y180 < 0)) then (some false) else (bif (y180 != y121.1) then (some false) else (some true)))))))))))))))))))))))))))
set_option maxRecDepth 100000 in
set_option maxHeartbeats 0 in
theorem laws_FnExactWriteAt_t (w0 : World) (x0 : S_Device) (A0_0 : Option Addr) (p0_0 : Nat) (k0_0 : Chunk) (v0_0 : View Lay.str A0_0 p0_0 x0.Sure k0_0) (w0_0 : Has w0 k0_0) (A0_1 : Option Addr) (p0_1 : Nat) (k0_1 : Chunk) (v0_1 : View L_Io A0_1 p0_1 x0.Unsure k0_1) (w0_1 : Has w0 k0_1) (x1 : Int) (x2 : ByteArray) (r : Bool) (H : laws_FnExactWriteAt.f x0 x1 x2 = some r) :
    Calls Try.prog 8 #[.agg #[.slice A0_0 x0.Sure.length p0_0, .slice A0_1 x0.Unsure.length p0_1], .int .i64 x1, .string x2] w0 (Ret (fun v w => v = .bool r ∧ Sat [] w0 w [] [])) := by
  have hs : Sat [] w0 w0 [(1, k0_0), (2, k0_1)] [] := Sat.init w0 [(1, k0_0), (2, k0_1)] [] (by simp only [List.mem_cons, List.not_mem_nil, or_false]; rintro x (rfl | rfl) <;> assumption) (by simp) List.nodup_nil (by simp [blks])
  unfold laws_FnExactWriteAt.f at H
  refine enter Try.func8 rfl Try.ntmps8 rfl fun a hk => ?_
  apply wp_seq_k; intro K1 hK1
  apply wp_region_lit
  refine sbx 3 hs rfl hk rfl rfl rfl rfl fun b2 w a hk hs => ?_
  refine sa _ rfl hk rfl rfl rfl fun a hk => ?_
  show wpList _ _ _ [] _ _
  refine wpList_nil ?_
  refine hK1 _ _ ?_
  apply wp_seq_k; intro K3 hK3
  apply wp_seq_k; intro K4 hK4
  apply wp_region_lit
  refine sm _ rfl hk rfl rfl rfl fun a hk => ?_
  refine sles rfl hk rfl rfl rfl un9 fun a hk => ?_
  refine sv (.bool (decide ((x2.size : Int) > 1048576))) hk rfl rfl rfl fun a hk => ?_
  show wpList _ _ _ [] _ _
  refine wpList_nil ?_
  refine hK4 _ _ ?_
  rcases cond_some H with ⟨c5, H⟩ | ⟨c5, H⟩
  · have hk := hk.lit 20 c5 rfl
    refine cnd_true hk rfl rfl ?_
    apply wp_seq_k; intro K6 hK6
    apply wp_region_lit
    refine sa _ rfl hk rfl rfl rfl fun a hk => ?_
    show wpList _ _ _ [] _ _
    refine wpList_nil ?_
    refine hK6 _ _ ?_
    refine wp_ret ?_
    obtain rfl := Option.some.inj H
    exact fin hk _ [(.bool true)] rfl ⟨rfl, trivial⟩ ⟨rfl, (hs.pick [] rfl).dnil⟩
  · have hk := hk.lit 20 c5 rfl
    refine cnd_false hk rfl rfl ?_
    refine wp_skip ?_
    refine hK3 _ _ ?_
    apply wp_seq_k; intro K7 hK7
    apply wp_region_lit
    refine sa _ rfl hk rfl rfl rfl fun a hk => ?_
    show wpList _ _ _ [] _ _
    refine wpList_nil ?_
    refine hK7 _ _ ?_
    apply wp_seq_k; intro K8 hK8
    apply wp_region_lit
    refine sln [.slice A0_0 x0.Sure.length p0_0, .slice A0_1 x0.Unsure.length p0_1] rfl hk rfl rfl rfl ag27 sz27 (box_cells hs (k := 3) rfl) fun a hk => ?_
    refine sm _ rfl hk rfl rfl rfl fun a hk => ?_
    obtain ⟨y9, h10, H⟩ := bind_some H
    refine sc rfl en28 hk rfl rfl rfl (laws_szDevice_t _ x0 A0_0 p0_0 _ v0_0 (hs.hasD (k := 1) rfl) A0_1 p0_1 _ v0_1 (hs.hasD (k := 2) rfl) 1048576 _ h10) ?_
    rintro _ w ⟨rfl, hG⟩ a hk
    have hs := hs.call0 hG
    refine sa _ rfl hk rfl rfl rfl fun a hk => ?_
    show wpList _ _ _ [] _ _
    refine wpList_nil ?_
    refine hK8 _ _ ?_
    apply wp_seq_k; intro K11 hK11
    apply wp_seq_k; intro K12 hK12
    apply wp_region_lit
    refine sm _ rfl hk rfl rfl rfl fun a hk => ?_
    refine sv (.bool (decide (y9 < 0))) hk rfl rfl rfl fun a hk => ?_
    show wpList _ _ _ [] _ _
    refine wpList_nil ?_
    refine hK12 _ _ ?_
    rcases cond_some H with ⟨c13, H⟩ | ⟨c13, H⟩
    · have hk := hk.lit 25 c13 rfl
      refine cnd_true hk rfl rfl ?_
      apply wp_seq_k; intro K14 hK14
      apply wp_region_lit
      refine sa _ rfl hk rfl rfl rfl fun a hk => ?_
      show wpList _ _ _ [] _ _
      refine wpList_nil ?_
      refine hK14 _ _ ?_
      refine wp_ret ?_
      obtain rfl := Option.some.inj H
      exact fin hk _ [(.bool true)] rfl ⟨rfl, trivial⟩ ⟨rfl, (hs.pick [] rfl).dnil⟩
    · have hk := hk.lit 25 c13 rfl
      refine cnd_false hk rfl rfl ?_
      refine wp_skip ?_
      refine hK11 _ _ ?_
      apply wp_seq_k; intro K15 hK15
      apply wp_region_lit
      refine sln [.slice A0_0 x0.Sure.length p0_0, .slice A0_1 x0.Unsure.length p0_1] rfl hk rfl rfl rfl ag27 sz27 (box_cells hs (k := 3) rfl) fun a hk => ?_
      obtain ⟨y16, h17, H⟩ := bind_some H
      refine sc rfl en30 hk rfl rfl rfl (laws_toDevice_t _ x0 A0_0 p0_0 _ v0_0 (hs.hasD (k := 1) rfl) A0_1 p0_1 _ v0_1 (hs.hasD (k := 2) rfl) _ h17) ?_
      rintro _ w ⟨A18, p19, k20, A22, p23, k24, rfl, o21, o25, hG⟩ a hk
      have hs := hs.call0k hG [4, 5] rfl
      refine sm _ rfl hk rfl rfl rfl fun a hk => ?_
      refine sm _ rfl hk rfl rfl rfl fun a hk => ?_
      obtain ⟨y26, h27, H⟩ := bind_some H
      refine sc rfl en35 hk rfl rfl rfl (spec_WriteAt_t _ y16 A18 p19 _ o21.view (hs.hasG (k := 4) rfl) A22 p23 _ o25.view (hs.hasG (k := 5) rfl) x1 x2 _ h27) ?_
      rintro _ w ⟨A28, p29, k30, A32, p33, k34, rfl, o31, o35, hG⟩ a hk
      have hs := hs.call0k hG [6, 7] rfl
      refine sm _ rfl hk rfl rfl rfl fun a hk => ?_
      refine sv (.agg #[.slice A28 y26.1.Sure.length p29, .slice A32 y26.1.Unsure.length p33]) hk rfl rfl rfl fun a hk => ?_
      refine sv (.int .i64 y26.2) hk rfl rfl rfl fun a hk => ?_
      refine salx 8 hs rfl hk rfl rfl ze35 rfl fun b36 w a hk hs => ?_
      refine ssw 8 hs rfl rfl hk rfl rfl rfl rfl sz35 (by simp [Value.oneCell']) rfl fun w a hk hs => ?_
      refine sa _ rfl hk rfl rfl rfl fun a hk => ?_
      show wpList _ _ _ [] _ _
      refine wpList_nil ?_
      refine hK15 _ _ ?_
      apply wp_seq_k; intro K37 hK37
      apply wp_region_lit
      refine sln [.slice A0_0 x0.Sure.length p0_0, .slice A0_1 x0.Unsure.length p0_1] rfl hk rfl rfl rfl ag27 sz27 (box_cells hs (k := 3) rfl) fun a hk => ?_
      obtain ⟨y38, h39, H⟩ := bind_some H
      refine sc rfl en30 hk rfl rfl rfl (laws_toDevice_t _ x0 A0_0 p0_0 _ v0_0 (hs.hasD (k := 1) rfl) A0_1 p0_1 _ v0_1 (hs.hasD (k := 2) rfl) _ h39) ?_
      rintro _ w ⟨A40, p41, k42, A44, p45, k46, rfl, o43, o47, hG⟩ a hk
      have hs := hs.call0k hG [9, 10] rfl
      refine salx 11 hs rfl hk rfl rfl ze35 rfl fun b48 w a hk hs => ?_
      refine ssw 11 hs rfl rfl hk rfl rfl rfl rfl sz35 (by simp [Value.oneCell']) rfl fun w a hk hs => ?_
      show wpList _ _ _ [] _ _
      refine wpList_nil ?_
      refine hK37 _ _ ?_
      apply wp_seq_k; intro K49 hK49
      apply wp_region_lit
      refine sln [.slice A40 y38.Sure.length p41, .slice A44 y38.Unsure.length p45] rfl hk rfl rfl rfl ag35 sz35 (box_cells hs (k := 11) rfl) fun a hk => ?_
      refine sm _ rfl hk rfl rfl rfl fun a hk => ?_
      refine sm _ rfl hk rfl rfl rfl fun a hk => ?_
      obtain ⟨y50, h51, H⟩ := bind_some H
      refine sc rfl en36 hk rfl rfl rfl (impl_WriteAt_t _ y38 A40 p41 _ o43.view (hs.hasG (k := 9) rfl) A44 p45 _ o47.view (hs.hasG (k := 10) rfl) x1 x2 _ h51) ?_
      rintro _ w ⟨A52, p53, k54, A56, p57, k58, rfl, o55, o59, hG⟩ a hk
      have hs := hs.call0k hG [12, 13] rfl
      refine sm _ rfl hk rfl rfl rfl fun a hk => ?_
      refine sv (.agg #[.slice A52 y50.1.Sure.length p53, .slice A56 y50.1.Unsure.length p57]) hk rfl rfl rfl fun a hk => ?_
      refine sv (.int .i64 y50.2) hk rfl rfl rfl fun a hk => ?_
      refine salx 14 hs rfl hk rfl rfl ze35 rfl fun b60 w a hk hs => ?_
      refine ssw 14 hs rfl rfl hk rfl rfl rfl rfl sz35 (by simp [Value.oneCell']) rfl fun w a hk hs => ?_
      refine sa _ rfl hk rfl rfl rfl fun a hk => ?_
      show wpList _ _ _ [] _ _
      refine wpList_nil ?_
      refine hK49 _ _ ?_
      apply wp_seq_k; intro K61 hK61
      apply wp_seq_k; intro K62 hK62
      obtain ⟨o65, h66, HL67⟩ := bind_some H
      clear H
      obtain ⟨R68, hR68⟩ : ∃ R : Act → World → Prop, R = fun a w => ∃ (u64 : Bool), u64 = o65 ∧ Kn [(1, (.int .i64 x1)), (2, (.string x2)), (3, (.pointer (some ⟨b2, 0, none⟩))), (8, (.pointer (some ⟨b36, 0, none⟩))), (9, (.int .i64 y26.2)), (10, (.pointer (some ⟨b48, 0, none⟩))), (11, (.pointer (some ⟨b60, 0, none⟩))), (12, (.int .i64 y50.2)), (51, (.bool u64))] 109 a ∧ Sat [] w0 w [(1, k0_0), (2, k0_1)] [(3, [(b2, .cells #[.slice A0_0 x0.Sure.length p0_0, .slice A0_1 x0.Unsure.length p0_1] 27 (0, 0))]), (8, [(b36, .cells #[.slice A28 y26.1.Sure.length p29, .slice A32 y26.1.Unsure.length p33] 35 (0, 0))]), (6, k30), (7, k34), (11, [(b48, .cells #[.slice A40 y38.Sure.length p41, .slice A44 y38.Unsure.length p45] 35 (0, 0))]), (9, k42), (10, k46), (14, [(b60, .cells #[.slice A52 y50.1.Sure.length p53, .slice A56 y50.1.Unsure.length p57] 35 (0, 0))]), (12, k54), (13, k58)] := ⟨_, rfl⟩
      refine wp_cutq R68 ?_ ?_
      · have H := h66
        apply wp_region_lit
        refine sln [.slice A52 y50.1.Sure.length p53, .slice A56 y50.1.Unsure.length p57] rfl hk rfl rfl rfl ag35 sz35 (box_cells hs (k := 14) rfl) fun a hk => ?_
        refine sln [.slice A28 y26.1.Sure.length p29, .slice A32 y26.1.Unsure.length p33] rfl hk rfl rfl rfl ag35 sz35 (box_cells hs (k := 8) rfl) fun a hk => ?_
        obtain ⟨y69, h70, H⟩ := bind_some H
        refine sc rfl en32 hk rfl rfl rfl (laws_eqDevice_t _ y50.1 A52 p53 _ o55.view (hs.hasG (k := 12) rfl) A56 p57 _ o59.view (hs.hasG (k := 13) rfl) y26.1 A28 p29 _ o31.view (hs.hasG (k := 6) rfl) A32 p33 _ o35.view (hs.hasG (k := 7) rfl) _ h70) ?_
        rintro _ w ⟨rfl, hG⟩ a hk
        have hs := hs.call0 hG
        refine sv (.bool (!y69)) hk rfl rfl rfl fun a hk => ?_
        refine sm _ rfl hk rfl rfl rfl fun a hk => ?_
        rcases cond_some H with ⟨c71, H⟩ | ⟨c71, H⟩
        · have hk := hk.lit 47 c71 rfl
          refine sk hk rfl rfl rfl fun a hk => ?_
          refine sk hk rfl rfl rfl fun a hk => ?_
          refine sk hk rfl rfl rfl fun a hk => ?_
          refine sv (.bool true) hk rfl rfl rfl fun a hk => ?_
          show wpList _ _ _ [] _ _
          refine wpList_nil ?_
          obtain rfl := Option.some.inj H
          show R68 _ _
          rw [hR68]
          exact ⟨true, rfl, (hk.c 1 rfl (hk.c 2 rfl (hk.c 3 rfl (hk.c 8 rfl (hk.c 9 rfl (hk.c 10 rfl (hk.c 11 rfl (hk.c 12 rfl (hk.c 51 rfl hk.k))))))))), (hs.pick [(3, 3), (8, 8), (6, 6), (7, 7), (11, 11), (9, 9), (10, 10), (14, 14), (12, 12), (13, 13)] rfl)⟩
        · have hk := hk.lit 47 c71 rfl
          refine sm _ rfl hk rfl rfl rfl fun a hk => ?_
          refine sm _ rfl hk rfl rfl rfl fun a hk => ?_
          refine sv (.bool (y50.2 != y26.2)) hk rfl rfl rfl fun a hk => ?_
          refine sv (.bool (y50.2 != y26.2)) hk rfl rfl rfl fun a hk => ?_
          show wpList _ _ _ [] _ _
          refine wpList_nil ?_
          obtain rfl := Option.some.inj H
          show R68 _ _
          rw [hR68]
          exact ⟨(y50.2 != y26.2), rfl, (hk.c 1 rfl (hk.c 2 rfl (hk.c 3 rfl (hk.c 8 rfl (hk.c 9 rfl (hk.c 10 rfl (hk.c 11 rfl (hk.c 12 rfl (hk.c 51 rfl hk.k))))))))), (hs.pick [(3, 3), (8, 8), (6, 6), (7, 7), (11, 11), (9, 9), (10, 10), (14, 14), (12, 12), (13, 13)] rfl)⟩
      · intro a w hR0
        rw [hR68] at hR0
        obtain ⟨u64, rfl, hk, hs⟩ := hR0
        have H := HL67
        try dsimp only at H
        refine hK62 _ _ ?_
        rcases cond_some H with ⟨c72, H⟩ | ⟨c72, H⟩
        · have hk := hk.lit 51 c72 rfl
          refine cnd_true hk rfl rfl ?_
          apply wp_seq_k; intro K73 hK73
          apply wp_region_lit
          refine sa _ rfl hk rfl rfl rfl fun a hk => ?_
          show wpList _ _ _ [] _ _
          refine wpList_nil ?_
          refine hK73 _ _ ?_
          refine wp_ret ?_
          obtain rfl := Option.some.inj H
          exact fin hk _ [(.bool false)] rfl ⟨rfl, trivial⟩ ⟨rfl, (hs.pick [] rfl).dnil⟩
        · have hk := hk.lit 51 c72 rfl
          refine cnd_false hk rfl rfl ?_
          refine wp_skip ?_
          refine hK61 _ _ ?_
          apply wp_seq_k; intro K74 hK74
          apply wp_seq_k; intro K75 hK75
          refine wp_region_mix [(0, true), (1, true), (2, false), (3, false), (4, false)] mo (by kernel_rfl) (hs.pick [(3, 3), (8, 8), (6, 6), (7, 7), (11, 11), (9, 9), (10, 10), (14, 14), (12, 12), (13, 13)] rfl) fun _ => ?_
          have hs := hs.drew
          refine qst (.agg #[.slice A40 y38.Sure.length p41, .slice A44 y38.Unsure.length p45]) hk rfl rfl rfl rfl (fun w hs => sln [.slice A40 y38.Sure.length p41, .slice A44 y38.Unsure.length p45] rfl hk rfl rfl rfl ag35 sz35 (box_cells hs (k := 11) rfl) fun a hk => qe hk) fun a hk => ?_
          refine qst (.agg #[.slice A0_0 x0.Sure.length p0_0, .slice A0_1 x0.Unsure.length p0_1]) hk rfl rfl rfl rfl (fun w hs => sln [.slice A0_0 x0.Sure.length p0_0, .slice A0_1 x0.Unsure.length p0_1] rfl hk rfl rfl rfl ag27 sz27 (box_cells hs (k := 3) rfl) fun a hk => qe hk) fun a hk => ?_
          refine sst hk rfl rfl fun K76 hK76 w hF => ?_
          have hs := hs.f hF
          obtain ⟨y77, h78, H⟩ := bind_some H
          refine sc rfl en30 hk rfl rfl rfl (laws_toDevice_t _ x0 A0_0 p0_0 _ v0_0 (hs.hasD (k := 1) rfl) A0_1 p0_1 _ v0_1 (hs.hasD (k := 2) rfl) _ h78) ?_
          rintro _ w ⟨A79, p80, k81, A83, p84, k85, rfl, o82, o86, hG⟩ a hk
          have hs := hs.call0k hG [16, 17] rfl
          refine se (hs.pick [(3, 3), (8, 8), (6, 6), (7, 7), (11, 11), (9, 9), (10, 10), (14, 14), (12, 12), (13, 13)] rfl) hk (hK76 _ _ ?_)
          refine sst hk rfl rfl fun K87 hK87 w hF => ?_
          have hs := hs.f hF
          obtain ⟨y88, h89, H⟩ := bind_some H
          refine sc rfl en32 hk rfl rfl rfl (laws_eqDevice_t _ y38 A40 p41 _ o43.view (hs.hasG (k := 9) rfl) A44 p45 _ o47.view (hs.hasG (k := 10) rfl) y77 A79 p80 _ o82.view (hs.hasG (k := 16) rfl) A83 p84 _ o86.view (hs.hasG (k := 17) rfl) _ h89) ?_
          rintro _ w ⟨rfl, hG⟩ a hk
          have hs := hs.call0 hG
          refine se (hs.pick [(3, 3), (8, 8), (6, 6), (7, 7), (11, 11), (9, 9), (10, 10), (14, 14), (12, 12), (13, 13)] rfl) hk (hK87 _ _ ?_)
          refine sst hk rfl rfl fun K90 hK90 w hF => ?_
          have hs := hs.f hF
          refine sv (.bool (!y88)) hk rfl rfl rfl fun a hk => ?_
          refine se (hs.pick [(3, 3), (8, 8), (6, 6), (7, 7), (11, 11), (9, 9), (10, 10), (14, 14), (12, 12), (13, 13)] rfl) hk (hK90 _ _ ?_)
          refine wml_nil fun w hF _ => ?_
          have hs := hs.f hF
          refine hK75 _ _ ?_
          rcases cond_some H with ⟨c91, H⟩ | ⟨c91, H⟩
          · have hk := hk.lit 56 c91 rfl
            refine cnd_true hk rfl rfl ?_
            apply wp_seq_k; intro K92 hK92
            apply wp_region_lit
            refine sa _ rfl hk rfl rfl rfl fun a hk => ?_
            show wpList _ _ _ [] _ _
            refine wpList_nil ?_
            refine hK92 _ _ ?_
            refine wp_ret ?_
            obtain rfl := Option.some.inj H
            exact fin hk _ [(.bool false)] rfl ⟨rfl, trivial⟩ ⟨rfl, (hs.pick [] rfl).dnil⟩
          · have hk := hk.lit 56 c91 rfl
            refine cnd_false hk rfl rfl ?_
            refine wp_skip ?_
            refine hK74 _ _ ?_
            apply wp_seq_k; intro K93 hK93
            apply wp_region_lit
            refine sa _ rfl hk rfl rfl rfl fun a hk => ?_
            show wpList _ _ _ [] _ _
            refine wpList_nil ?_
            refine hK93 _ _ ?_
            apply wp_seq_k; intro K94 hK94
            apply wp_region_lit
            refine sln [.slice A40 y38.Sure.length p41, .slice A44 y38.Unsure.length p45] rfl hk rfl rfl rfl ag35 sz35 (box_cells hs (k := 11) rfl) fun a hk => ?_
            refine sm _ rfl hk rfl rfl rfl fun a hk => ?_
            obtain ⟨y95, h96, H⟩ := bind_some H
            refine sc rfl en33 hk rfl rfl rfl (laws_markDevice_t _ y38 A40 p41 _ o43 A44 p45 _ o47 1 ((hs.hand [(1, 9), (2, 10)] rfl).dpick [] rfl) _ h96) ?_
            rintro _ w ⟨k97, k100, rfl, ⟨o98, lh99⟩, ⟨o101, lh102⟩, hG⟩ a hk
            have hs := hs.back [(1, 9), (2, 10)] rfl hG [9, 10] rfl
            have lh103 : y95.2.1.length = y38.Sure.length := lh99
            have lh104 : y95.2.2.length = y38.Unsure.length := lh102
            refine sa _ rfl hk rfl rfl rfl fun a hk => ?_
            show wpList _ _ _ [] _ _
            refine wpList_nil ?_
            refine hK94 _ _ ?_
            apply wp_seq_k; intro K105 hK105
            apply wp_seq_k; intro K106 hK106
            obtain ⟨o109, h110, HL111⟩ := bind_some H
            clear H
            obtain ⟨R112, hR112⟩ : ∃ R : Act → World → Prop, R = fun a w => ∃ (u108 : Bool), u108 = o109 ∧ Kn [(1, (.int .i64 x1)), (2, (.string x2)), (3, (.pointer (some ⟨b2, 0, none⟩))), (8, (.pointer (some ⟨b36, 0, none⟩))), (9, (.int .i64 y26.2)), (11, (.pointer (some ⟨b60, 0, none⟩))), (72, (.bool u108))] 109 a ∧ Sat [] w0 w [(1, k0_0), (2, k0_1)] [(3, [(b2, .cells #[.slice A0_0 x0.Sure.length p0_0, .slice A0_1 x0.Unsure.length p0_1] 27 (0, 0))]), (8, [(b36, .cells #[.slice A28 y26.1.Sure.length p29, .slice A32 y26.1.Unsure.length p33] 35 (0, 0))]), (6, k30), (7, k34), (14, [(b60, .cells #[.slice A52 y50.1.Sure.length p53, .slice A56 y50.1.Unsure.length p57] 35 (0, 0))]), (12, k54), (13, k58)] := ⟨_, rfl⟩
            refine wp_cutq R112 ?_ ?_
            · have H := h110
              apply wp_region_lit
              refine sm _ rfl hk rfl rfl rfl fun a hk => ?_
              refine sv (.bool (decide (y95.1 < 0))) hk rfl rfl rfl fun a hk => ?_
              refine sm _ rfl hk rfl rfl rfl fun a hk => ?_
              rcases cond_some H with ⟨c113, H⟩ | ⟨c113, H⟩
              · have hk := hk.lit 62 c113 rfl
                refine sk hk rfl rfl rfl fun a hk => ?_
                refine sk hk rfl rfl rfl fun a hk => ?_
                refine sk hk rfl rfl rfl fun a hk => ?_
                refine sk hk rfl rfl rfl fun a hk => ?_
                refine sv (.bool true) hk rfl rfl rfl fun a hk => ?_
                refine sm _ rfl hk rfl rfl rfl fun a hk => ?_
                refine sk hk rfl rfl rfl fun a hk => ?_
                refine sk hk rfl rfl rfl fun a hk => ?_
                refine sk hk rfl rfl rfl fun a hk => ?_
                refine sv (.bool true) hk rfl rfl rfl fun a hk => ?_
                show wpList _ _ _ [] _ _
                refine wpList_nil ?_
                obtain rfl := Option.some.inj H
                show R112 _ _
                rw [hR112]
                exact ⟨true, rfl, (hk.c 1 rfl (hk.c 2 rfl (hk.c 3 rfl (hk.c 8 rfl (hk.c 9 rfl (hk.c 11 rfl (hk.c 72 rfl hk.k))))))), (hs.pick [(3, 3), (8, 8), (6, 6), (7, 7), (14, 14), (12, 12), (13, 13)] rfl)⟩
              · have hk := hk.lit 62 c113 rfl
                refine sln [.slice A52 y50.1.Sure.length p53, .slice A56 y50.1.Unsure.length p57] rfl hk rfl rfl rfl ag35 sz35 (box_cells hs (k := 14) rfl) fun a hk => ?_
                refine sln [.slice A28 y26.1.Sure.length p29, .slice A32 y26.1.Unsure.length p33] rfl hk rfl rfl rfl ag35 sz35 (box_cells hs (k := 8) rfl) fun a hk => ?_
                obtain ⟨y114, h115, H⟩ := bind_some H
                refine sc rfl en32 hk rfl rfl rfl (laws_eqDevice_t _ y50.1 A52 p53 _ o55.view (hs.hasG (k := 12) rfl) A56 p57 _ o59.view (hs.hasG (k := 13) rfl) y26.1 A28 p29 _ o31.view (hs.hasG (k := 6) rfl) A32 p33 _ o35.view (hs.hasG (k := 7) rfl) _ h115) ?_
                rintro _ w ⟨rfl, hG⟩ a hk
                have hs := hs.call0 hG
                refine sv (.bool (!y114)) hk rfl rfl rfl fun a hk => ?_
                refine sv (.bool (!y114)) hk rfl rfl rfl fun a hk => ?_
                refine sm _ rfl hk rfl rfl rfl fun a hk => ?_
                rcases cond_some H with ⟨c116, H⟩ | ⟨c116, H⟩
                · have hk := hk.lit 68 c116 rfl
                  refine sk hk rfl rfl rfl fun a hk => ?_
                  refine sk hk rfl rfl rfl fun a hk => ?_
                  refine sk hk rfl rfl rfl fun a hk => ?_
                  refine sv (.bool true) hk rfl rfl rfl fun a hk => ?_
                  show wpList _ _ _ [] _ _
                  refine wpList_nil ?_
                  obtain rfl := Option.some.inj H
                  show R112 _ _
                  rw [hR112]
                  exact ⟨true, rfl, (hk.c 1 rfl (hk.c 2 rfl (hk.c 3 rfl (hk.c 8 rfl (hk.c 9 rfl (hk.c 11 rfl (hk.c 72 rfl hk.k))))))), (hs.pick [(3, 3), (8, 8), (6, 6), (7, 7), (14, 14), (12, 12), (13, 13)] rfl)⟩
                · have hk := hk.lit 68 c116 rfl
                  refine sm _ rfl hk rfl rfl rfl fun a hk => ?_
                  refine sm _ rfl hk rfl rfl rfl fun a hk => ?_
                  refine sv (.bool (y50.2 != y26.2)) hk rfl rfl rfl fun a hk => ?_
                  refine sv (.bool (y50.2 != y26.2)) hk rfl rfl rfl fun a hk => ?_
                  show wpList _ _ _ [] _ _
                  refine wpList_nil ?_
                  obtain rfl := Option.some.inj H
                  show R112 _ _
                  rw [hR112]
                  exact ⟨(y50.2 != y26.2), rfl, (hk.c 1 rfl (hk.c 2 rfl (hk.c 3 rfl (hk.c 8 rfl (hk.c 9 rfl (hk.c 11 rfl (hk.c 72 rfl hk.k))))))), (hs.pick [(3, 3), (8, 8), (6, 6), (7, 7), (14, 14), (12, 12), (13, 13)] rfl)⟩
            · intro a w hR0
              rw [hR112] at hR0
              obtain ⟨u108, rfl, hk, hs⟩ := hR0
              have H := HL111
              try dsimp only at H
              refine hK106 _ _ ?_
              rcases cond_some H with ⟨c117, H⟩ | ⟨c117, H⟩
              · have hk := hk.lit 72 c117 rfl
                refine cnd_true hk rfl rfl ?_
                apply wp_seq_k; intro K118 hK118
                apply wp_region_lit
                refine sa _ rfl hk rfl rfl rfl fun a hk => ?_
                show wpList _ _ _ [] _ _
                refine wpList_nil ?_
                refine hK118 _ _ ?_
                refine wp_ret ?_
                obtain rfl := Option.some.inj H
                exact fin hk _ [(.bool false)] rfl ⟨rfl, trivial⟩ ⟨rfl, (hs.pick [] rfl).dnil⟩
              · have hk := hk.lit 72 c117 rfl
                refine cnd_false hk rfl rfl ?_
                refine wp_skip ?_
                refine hK105 _ _ ?_
                apply wp_seq_k; intro K119 hK119
                apply wp_region_lit
                refine sa _ rfl hk rfl rfl rfl fun a hk => ?_
                show wpList _ _ _ [] _ _
                refine wpList_nil ?_
                refine hK119 _ _ ?_
                apply wp_seq_k; intro K120 hK120
                apply wp_region_lit
                refine sln [.slice A52 y50.1.Sure.length p53, .slice A56 y50.1.Unsure.length p57] rfl hk rfl rfl rfl ag35 sz35 (box_cells hs (k := 14) rfl) fun a hk => ?_
                refine sm _ rfl hk rfl rfl rfl fun a hk => ?_
                obtain ⟨y121, h122, H⟩ := bind_some H
                refine sc rfl en33 hk rfl rfl rfl (laws_markDevice_t _ y50.1 A52 p53 _ o55 A56 p57 _ o59 1 ((hs.hand [(1, 12), (2, 13)] rfl).dpick [] rfl) _ h122) ?_
                rintro _ w ⟨k123, k126, rfl, ⟨o124, lh125⟩, ⟨o127, lh128⟩, hG⟩ a hk
                have hs := hs.back [(1, 12), (2, 13)] rfl hG [12, 13] rfl
                have lh129 : y121.2.1.length = y50.1.Sure.length := lh125
                have lh130 : y121.2.2.length = y50.1.Unsure.length := lh128
                refine sa _ rfl hk rfl rfl rfl fun a hk => ?_
                show wpList _ _ _ [] _ _
                refine wpList_nil ?_
                refine hK120 _ _ ?_
                apply wp_seq_k; intro K131 hK131
                apply wp_region_lit
                refine sa _ rfl hk rfl rfl rfl fun a hk => ?_
                show wpList _ _ _ [] _ _
                refine wpList_nil ?_
                refine hK131 _ _ ?_
                apply wp_seq_k; intro K132 hK132
                apply wp_region_lit
                refine sln [.slice A52 y50.1.Sure.length p53, .slice A56 y50.1.Unsure.length p57] rfl hk rfl rfl rfl ag35 sz35 (box_cells hs (k := 14) rfl) fun a hk => ?_
                refine sm _ rfl hk rfl rfl rfl fun a hk => ?_
                have hk := hk.re 76 (v' := (.agg #[.slice A52 y121.2.1.length p53, .slice A56 y121.2.2.length p57])) rfl (by rw [lh129, lh130])
                obtain ⟨y133, h134, H⟩ := bind_some H
                refine sc rfl en34 hk rfl rfl rfl (laws_heldDevice_t _ (⟨y121.2.1, y121.2.2⟩ : S_Device) A52 p53 _ o124.view (hs.hasG (k := 12) rfl) A56 p57 _ o127.view (hs.hasG (k := 13) rfl) 1 _ h134) ?_
                rintro _ w ⟨rfl, hG⟩ a hk
                have hs := hs.call0 hG
                refine sa _ rfl hk rfl rfl rfl fun a hk => ?_
                show wpList _ _ _ [] _ _
                refine wpList_nil ?_
                refine hK132 _ _ ?_
                apply wp_seq_k; intro K135 hK135
                apply wp_seq_k; intro K136 hK136
                apply wp_region_lit
                refine sm _ rfl hk rfl rfl rfl fun a hk => ?_
                refine sv (.bool (decide (y133 < 0))) hk rfl rfl rfl fun a hk => ?_
                show wpList _ _ _ [] _ _
                refine wpList_nil ?_
                refine hK136 _ _ ?_
                rcases cond_some H with ⟨c137, H⟩ | ⟨c137, H⟩
                · have hk := hk.lit 80 c137 rfl
                  refine cnd_true hk rfl rfl ?_
                  apply wp_seq_k; intro K138 hK138
                  apply wp_region_lit
                  refine sa _ rfl hk rfl rfl rfl fun a hk => ?_
                  show wpList _ _ _ [] _ _
                  refine wpList_nil ?_
                  refine hK138 _ _ ?_
                  refine wp_ret ?_
                  obtain rfl := Option.some.inj H
                  exact fin hk _ [(.bool false)] rfl ⟨rfl, trivial⟩ ⟨rfl, (hs.pick [] rfl).dnil⟩
                · have hk := hk.lit 80 c137 rfl
                  refine cnd_false hk rfl rfl ?_
                  refine wp_skip ?_
                  refine hK135 _ _ ?_
                  apply wp_seq_k; intro K139 hK139
                  apply wp_seq_k; intro K140 hK140
                  apply wp_region_lit
                  refine sm _ rfl hk rfl rfl rfl fun a hk => ?_
                  refine sm _ rfl hk rfl rfl rfl fun a hk => ?_
                  refine sv (.bool (y133 != y121.1)) hk rfl rfl rfl fun a hk => ?_
                  show wpList _ _ _ [] _ _
                  refine wpList_nil ?_
                  refine hK140 _ _ ?_
                  rcases cond_some H with ⟨c141, H⟩ | ⟨c141, H⟩
                  · have hk := hk.lit 83 c141 rfl
                    refine cnd_true hk rfl rfl ?_
                    apply wp_seq_k; intro K142 hK142
                    apply wp_region_lit
                    refine sa _ rfl hk rfl rfl rfl fun a hk => ?_
                    show wpList _ _ _ [] _ _
                    refine wpList_nil ?_
                    refine hK142 _ _ ?_
                    refine wp_ret ?_
                    obtain rfl := Option.some.inj H
                    exact fin hk _ [(.bool false)] rfl ⟨rfl, trivial⟩ ⟨rfl, (hs.pick [] rfl).dnil⟩
                  · have hk := hk.lit 83 c141 rfl
                    refine cnd_false hk rfl rfl ?_
                    refine wp_skip ?_
                    refine hK139 _ _ ?_
                    apply wp_seq_k; intro K143 hK143
                    apply wp_region_lit
                    refine sln [.slice A0_0 x0.Sure.length p0_0, .slice A0_1 x0.Unsure.length p0_1] rfl hk rfl rfl rfl ag27 sz27 (box_cells hs (k := 3) rfl) fun a hk => ?_
                    obtain ⟨y144, h145, H⟩ := bind_some H
                    refine sc rfl en30 hk rfl rfl rfl (laws_toDevice_t _ x0 A0_0 p0_0 _ v0_0 (hs.hasD (k := 1) rfl) A0_1 p0_1 _ v0_1 (hs.hasD (k := 2) rfl) _ h145) ?_
                    rintro _ w ⟨A146, p147, k148, A150, p151, k152, rfl, o149, o153, hG⟩ a hk
                    have hs := hs.call0k hG [19, 20] rfl
                    refine sm _ rfl hk rfl rfl rfl fun a hk => ?_
                    refine sm _ rfl hk rfl rfl rfl fun a hk => ?_
                    obtain ⟨y154, h155, H⟩ := bind_some H
                    refine sc rfl en36 hk rfl rfl rfl (impl_WriteAt_t _ y144 A146 p147 _ o149.view (hs.hasG (k := 19) rfl) A150 p151 _ o153.view (hs.hasG (k := 20) rfl) x1 x2 _ h155) ?_
                    rintro _ w ⟨A156, p157, k158, A160, p161, k162, rfl, o159, o163, hG⟩ a hk
                    have hs := hs.call0k hG [21, 22] rfl
                    refine sm _ rfl hk rfl rfl rfl fun a hk => ?_
                    refine sv (.agg #[.slice A156 y154.1.Sure.length p157, .slice A160 y154.1.Unsure.length p161]) hk rfl rfl rfl fun a hk => ?_
                    refine sv (.int .i64 y154.2) hk rfl rfl rfl fun a hk => ?_
                    refine salx 23 hs rfl hk rfl rfl ze35 rfl fun b164 w a hk hs => ?_
                    refine ssw 23 hs rfl rfl hk rfl rfl rfl rfl sz35 (by simp [Value.oneCell']) rfl fun w a hk hs => ?_
                    refine sa _ rfl hk rfl rfl rfl fun a hk => ?_
                    show wpList _ _ _ [] _ _
                    refine wpList_nil ?_
                    refine hK143 _ _ ?_
                    apply wp_seq_k; intro K165 hK165
                    apply wp_seq_k; intro K166 hK166
                    obtain ⟨o169, h170, HL171⟩ := bind_some H
                    clear H
                    obtain ⟨R172, hR172⟩ : ∃ R : Act → World → Prop, R = fun a w => ∃ (u168 : Bool), u168 = o169 ∧ Kn [(11, (.pointer (some ⟨b60, 0, none⟩))), (14, (.int .i64 y121.1)), (100, (.bool u168))] 109 a ∧ Sat [] w0 w [(1, k0_0), (2, k0_1)] [(14, [(b60, .cells #[.slice A52 y50.1.Sure.length p53, .slice A56 y50.1.Unsure.length p57] 35 (0, 0))]), (12, k123), (13, k126)] := ⟨_, rfl⟩
                    refine wp_cutq R172 ?_ ?_
                    · have H := h170
                      apply wp_region_lit
                      refine sln [.slice A156 y154.1.Sure.length p157, .slice A160 y154.1.Unsure.length p161] rfl hk rfl rfl rfl ag35 sz35 (box_cells hs (k := 23) rfl) fun a hk => ?_
                      refine sln [.slice A28 y26.1.Sure.length p29, .slice A32 y26.1.Unsure.length p33] rfl hk rfl rfl rfl ag35 sz35 (box_cells hs (k := 8) rfl) fun a hk => ?_
                      obtain ⟨y173, h174, H⟩ := bind_some H
                      refine sc rfl en32 hk rfl rfl rfl (laws_eqDevice_t _ y154.1 A156 p157 _ o159.view (hs.hasG (k := 21) rfl) A160 p161 _ o163.view (hs.hasG (k := 22) rfl) y26.1 A28 p29 _ o31.view (hs.hasG (k := 6) rfl) A32 p33 _ o35.view (hs.hasG (k := 7) rfl) _ h174) ?_
                      rintro _ w ⟨rfl, hG⟩ a hk
                      have hs := hs.call0 hG
                      refine sv (.bool (!y173)) hk rfl rfl rfl fun a hk => ?_
                      refine sm _ rfl hk rfl rfl rfl fun a hk => ?_
                      rcases cond_some H with ⟨c175, H⟩ | ⟨c175, H⟩
                      · have hk := hk.lit 96 c175 rfl
                        refine sk hk rfl rfl rfl fun a hk => ?_
                        refine sk hk rfl rfl rfl fun a hk => ?_
                        refine sk hk rfl rfl rfl fun a hk => ?_
                        refine sv (.bool true) hk rfl rfl rfl fun a hk => ?_
                        show wpList _ _ _ [] _ _
                        refine wpList_nil ?_
                        obtain rfl := Option.some.inj H
                        show R172 _ _
                        rw [hR172]
                        exact ⟨true, rfl, (hk.c 11 rfl (hk.c 14 rfl (hk.c 100 rfl hk.k))), (hs.pick [(14, 14), (12, 12), (13, 13)] rfl)⟩
                      · have hk := hk.lit 96 c175 rfl
                        refine sm _ rfl hk rfl rfl rfl fun a hk => ?_
                        refine sm _ rfl hk rfl rfl rfl fun a hk => ?_
                        refine sv (.bool (y154.2 != y26.2)) hk rfl rfl rfl fun a hk => ?_
                        refine sv (.bool (y154.2 != y26.2)) hk rfl rfl rfl fun a hk => ?_
                        show wpList _ _ _ [] _ _
                        refine wpList_nil ?_
                        obtain rfl := Option.some.inj H
                        show R172 _ _
                        rw [hR172]
                        exact ⟨(y154.2 != y26.2), rfl, (hk.c 11 rfl (hk.c 14 rfl (hk.c 100 rfl hk.k))), (hs.pick [(14, 14), (12, 12), (13, 13)] rfl)⟩
                    · intro a w hR0
                      rw [hR172] at hR0
                      obtain ⟨u168, rfl, hk, hs⟩ := hR0
                      have H := HL171
                      try dsimp only at H
                      refine hK166 _ _ ?_
                      rcases cond_some H with ⟨c176, H⟩ | ⟨c176, H⟩
                      · have hk := hk.lit 100 c176 rfl
                        refine cnd_true hk rfl rfl ?_
                        apply wp_seq_k; intro K177 hK177
                        apply wp_region_lit
                        refine sa _ rfl hk rfl rfl rfl fun a hk => ?_
                        show wpList _ _ _ [] _ _
                        refine wpList_nil ?_
                        refine hK177 _ _ ?_
                        refine wp_ret ?_
                        obtain rfl := Option.some.inj H
                        exact fin hk _ [(.bool false)] rfl ⟨rfl, trivial⟩ ⟨rfl, (hs.pick [] rfl).dnil⟩
                      · have hk := hk.lit 100 c176 rfl
                        refine cnd_false hk rfl rfl ?_
                        refine wp_skip ?_
                        refine hK165 _ _ ?_
                        apply wp_seq_k; intro K178 hK178
                        apply wp_region_lit
                        refine sa _ rfl hk rfl rfl rfl fun a hk => ?_
                        show wpList _ _ _ [] _ _
                        refine wpList_nil ?_
                        refine hK178 _ _ ?_
                        apply wp_seq_k; intro K179 hK179
                        apply wp_region_lit
                        refine sln [.slice A52 y50.1.Sure.length p53, .slice A56 y50.1.Unsure.length p57] rfl hk rfl rfl rfl ag35 sz35 (box_cells hs (k := 14) rfl) fun a hk => ?_
                        refine sm _ rfl hk rfl rfl rfl fun a hk => ?_
                        have hk := hk.re 101 (v' := (.agg #[.slice A52 y121.2.1.length p53, .slice A56 y121.2.2.length p57])) rfl (by rw [lh129, lh130])
                        obtain ⟨y180, h181, H⟩ := bind_some H
                        refine sc rfl en34 hk rfl rfl rfl (laws_heldDevice_t _ (⟨y121.2.1, y121.2.2⟩ : S_Device) A52 p53 _ o124.view (hs.hasG (k := 12) rfl) A56 p57 _ o127.view (hs.hasG (k := 13) rfl) 1 _ h181) ?_
                        rintro _ w ⟨rfl, hG⟩ a hk
                        have hs := hs.call0 hG
                        refine sa _ rfl hk rfl rfl rfl fun a hk => ?_
                        show wpList _ _ _ [] _ _
                        refine wpList_nil ?_
                        refine hK179 _ _ ?_
                        apply wp_seq_k; intro K182 hK182
                        apply wp_seq_k; intro K183 hK183
                        apply wp_region_lit
                        refine sm _ rfl hk rfl rfl rfl fun a hk => ?_
                        refine sv (.bool (decide (y180 < 0))) hk rfl rfl rfl fun a hk => ?_
                        show wpList _ _ _ [] _ _
                        refine wpList_nil ?_
                        refine hK183 _ _ ?_
                        rcases cond_some H with ⟨c184, H⟩ | ⟨c184, H⟩
                        · have hk := hk.lit 105 c184 rfl
                          refine cnd_true hk rfl rfl ?_
                          apply wp_seq_k; intro K185 hK185
                          apply wp_region_lit
                          refine sa _ rfl hk rfl rfl rfl fun a hk => ?_
                          show wpList _ _ _ [] _ _
                          refine wpList_nil ?_
                          refine hK185 _ _ ?_
                          refine wp_ret ?_
                          obtain rfl := Option.some.inj H
                          exact fin hk _ [(.bool false)] rfl ⟨rfl, trivial⟩ ⟨rfl, (hs.pick [] rfl).dnil⟩
                        · have hk := hk.lit 105 c184 rfl
                          refine cnd_false hk rfl rfl ?_
                          refine wp_skip ?_
                          refine hK182 _ _ ?_
                          apply wp_seq_k; intro K186 hK186
                          apply wp_seq_k; intro K187 hK187
                          apply wp_region_lit
                          refine sm _ rfl hk rfl rfl rfl fun a hk => ?_
                          refine sm _ rfl hk rfl rfl rfl fun a hk => ?_
                          refine sv (.bool (y180 != y121.1)) hk rfl rfl rfl fun a hk => ?_
                          show wpList _ _ _ [] _ _
                          refine wpList_nil ?_
                          refine hK187 _ _ ?_
                          rcases cond_some H with ⟨c188, H⟩ | ⟨c188, H⟩
                          · have hk := hk.lit 108 c188 rfl
                            refine cnd_true hk rfl rfl ?_
                            apply wp_seq_k; intro K189 hK189
                            apply wp_region_lit
                            refine sa _ rfl hk rfl rfl rfl fun a hk => ?_
                            show wpList _ _ _ [] _ _
                            refine wpList_nil ?_
                            refine hK189 _ _ ?_
                            refine wp_ret ?_
                            obtain rfl := Option.some.inj H
                            exact fin hk _ [(.bool false)] rfl ⟨rfl, trivial⟩ ⟨rfl, (hs.pick [] rfl).dnil⟩
                          · have hk := hk.lit 108 c188 rfl
                            refine cnd_false hk rfl rfl ?_
                            refine wp_skip ?_
                            refine hK186 _ _ ?_
                            apply wp_seq_k; intro K190 hK190
                            apply wp_region_lit
                            refine sa _ rfl hk rfl rfl rfl fun a hk => ?_
                            show wpList _ _ _ [] _ _
                            refine wpList_nil ?_
                            refine hK190 _ _ ?_
                            refine wp_ret ?_
                            obtain rfl := Option.some.inj H
                            exact fin hk _ [(.bool true)] rfl ⟨rfl, trivial⟩ ⟨rfl, (hs.pick [] rfl).dnil⟩

end Go.Proofs.Ytmafglodgnbajaa
