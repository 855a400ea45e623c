/- Further functions. -/
import Derived.Test.YtlbbkehdfgjneaaGFFlip
namespace Go.Proofs.Ytlbbkehdfgjneaa
open Go Go.Z Go.Proofs Go.MuLone Go.ChangeShapes Go.WideShapes Go.ChangeAt Go.RowKit
set_option linter.unusedVariables false
set_option linter.unusedSimpArgs false
noncomputable def impl_FlipAt.f (x0 : S_Device) (x1 : Int) (x2 : Int) (x3 : Int) : Option (S_Device × Int) :=
  ((impl_DeviceOK.f x0).bind fun y6 => (bif (!y6) then (some ((⟨([] : List ByteArray), ([] : List S_Io)⟩ : S_Device), 1)) else ((((impl_isSector.f x1).bind fun y17 => (bif (!y17) then (some true) else ((impl_within.f x3 1 255).bind fun y20 => (some (!y20))))) : Option (Bool)).bind fun u12 => (bif u12 then (some ((⟨([] : List ByteArray), ([] : List S_Io)⟩ : S_Device), 4)) else (if 0 ≤ x1 ∧ x1 < (x0.Sure.length : Int) then ((impl_within.f x2 0 (w64 (((x0.Sure.getD x1.toNat ByteArray.empty).size : Int) - 1))).bind fun y29 => (bif (!y29) then ((impl_Device_own.f x0).bind fun y33 => (some (y33, 5))) else ((impl_Device_own.f x0).bind fun y44 => (if 0 ≤ x1 ∧ x1 < (y44.Sure.length : Int) then (if (y44.Sure.getD x1.toNat ByteArray.empty).size ≤ 1073741824 then (if 0 ≤ x2 ∧ x2 < ((bytesOf (y44.Sure.getD x1.toNat ByteArray.empty)).length : Int) then (if 0 ≤ x2 ∧ x2 < ((bytesOf (y44.Sure.getD x1.toNat ByteArray.empty)).length : Int) then (if 0 ≤ x1 ∧ x1 < (y44.Sure.length : Int) then (some ((⟨(y44.Sure.set x1.toNat (strOfNums ((bytesOf (y44.Sure.getD x1.toNat ByteArray.empty)).set x2.toNat (IntKind.wrap .u8 ((BitVec.ofInt 8 ((bytesOf (y44.Sure.getD x1.toNat ByteArray.empty)).getD x2.toNat 0) ^^^ BitVec.ofInt 8 (IntKind.wrap .u8 x3)).toNat : Int))))), y44.Unsure⟩ : S_Device), 0)) else none) else none) else none) else none) else none)))) else none)))))
set_option maxRecDepth 100000 in
set_option maxHeartbeats 0 in
theorem impl_FlipAt_t (w0 : World) (x0 : S_Device) (A0_0 : Option Addr) (p0_0 : Nat) (k0_0 : Chunk) (v0_0 : View Lay.str A0_0 p0_0 x0.Sure k0_0) (w0_0 : Has w0 k0_0) (A0_1 : Option Addr) (p0_1 : Nat) (k0_1 : Chunk) (v0_1 : View L_Io A0_1 p0_1 x0.Unsure k0_1) (w0_1 : Has w0 k0_1) (x1 : Int) (x2 : Int) (x3 : Int) (r : S_Device × Int) (H : impl_FlipAt.f x0 x1 x2 x3 = some r) :
    Calls Try.prog 48 #[.agg #[.slice A0_0 x0.Sure.length p0_0, .slice A0_1 x0.Unsure.length p0_1], .int .i64 x1, .int .i64 x2, .int .i64 x3] w0 (Ret (fun v w => ∃ (A0 : Option Addr) (p0 : Nat) (k0 : Chunk), ∃ (A1 : Option Addr) (p1 : Nat) (k1 : Chunk), v = .tuple #[.agg #[.slice A0 r.1.Sure.length p0, .slice A1 r.1.Unsure.length p1], .int .i64 r.2] ∧ Own Lay.str 9 A0 p0 r.1.Sure k0 ∧ Own L_Io 129 A1 p1 r.1.Unsure k1 ∧ Sat [] w0 w [] [(0, k0), (1, k1)])) := by
  have hs : Sat [] w0 w0 [(1, k0_0), (2, k0_1)] [] := Sat.init w0 [(1, k0_0), (2, k0_1)] [] (by simp only [List.mem_cons, List.not_mem_nil, or_false]; rintro x (rfl | rfl) <;> assumption) (by simp) List.nodup_nil (by simp [blks])
  unfold impl_FlipAt.f at H
  refine enter Try.func48 rfl Try.ntmps48 rfl fun a hk => ?_
  apply wp_seq_k; intro K1 hK1
  apply wp_region_lit
  refine sbx 3 hs rfl hk rfl rfl rfl rfl fun b2 w a hk hs => ?_
  refine salx 4 hs rfl hk rfl rfl ze67 rfl fun b3 w a hk hs => ?_
  refine sa _ rfl hk rfl rfl rfl fun a hk => ?_
  show wpList _ _ _ [] _ _
  refine wpList_nil ?_
  refine hK1 _ _ ?_
  apply wp_seq_k; intro K4 hK4
  refine wp_block ?_
  apply wp_seq_k; intro K5 hK5
  apply wp_region_lit
  refine sln [.slice A0_0 x0.Sure.length p0_0, .slice A0_1 x0.Unsure.length p0_1] rfl hk rfl rfl rfl ag67 sz67 (box_cells hs (k := 3) rfl) fun a hk => ?_
  obtain ⟨y6, h7, H⟩ := bind_some H
  refine sc rfl en47 hk rfl rfl rfl (impl_DeviceOK_t _ x0 A0_0 p0_0 _ v0_0 (hs.hasD (k := 1) rfl) A0_1 p0_1 _ v0_1 (hs.hasD (k := 2) rfl) _ h7) ?_
  rintro _ w ⟨rfl, hG⟩ a hk
  have hs := hs.call0 hG
  refine sv (.bool (!y6)) hk rfl rfl rfl fun a hk => ?_
  refine sa _ rfl hk rfl rfl rfl fun a hk => ?_
  show wpList _ _ _ [] _ _
  refine wpList_nil ?_
  refine hK5 _ _ ?_
  rcases cond_some H with ⟨c8, H⟩ | ⟨c8, H⟩
  · have hk := hk.lit 12 c8 rfl
    refine cnd_true hk rfl rfl ?_
    apply wp_seq_k; intro K9 hK9
    apply wp_region_lit
    refine sbd (pv := []) rfl hk rfl rfl rfl bd67_7 fun a hk => ?_
    refine ssw 4 hs rfl rfl hk rfl rfl rfl rfl sz67 (by simp [Value.oneCell']) rfl fun w a hk hs => ?_
    refine sa _ rfl hk rfl rfl rfl fun a hk => ?_
    show wpList _ _ _ [] _ _
    refine wpList_nil ?_
    refine hK9 _ _ ?_
    refine wp_ret ?_
    obtain rfl := Option.some.inj H
    have hs := hs.addNil 5
    have hs := hs.addNil 6
    exact fin hk _ [(.agg #[.slice none 0 0, .slice none 0 0]), (.int .i64 1)] rfl ⟨⟨_, rfl, run_loadN ag67 sz67 (box_cells hs (k := 4) rfl)⟩, ⟨rfl, trivial⟩⟩ ⟨none, 0, [], none, 0, [], rfl, Own.nil _ _, Own.nil _ _, (hs.pick [(0, 5), (1, 6)] rfl).dnil⟩
  · have hk := hk.lit 12 c8 rfl
    refine cnd_false hk rfl rfl ?_
    apply wp_seq_k; intro K10 hK10
    obtain ⟨o13, h14, HL15⟩ := bind_some H
    clear H
    obtain ⟨R16, hR16⟩ : ∃ R : Act → World → Prop, R = fun a w => ∃ (u12 : Bool), u12 = o13 ∧ Kn [(1, (.int .i64 x1)), (2, (.int .i64 x2)), (3, (.int .i64 x3)), (4, (.pointer (some ⟨b2, 0, none⟩))), (8, (.pointer (some ⟨b3, 0, none⟩))), (17, (.bool u12))] 63 a ∧ Sat [] w0 w [(1, k0_0), (2, k0_1)] [(3, [(b2, .cells #[.slice A0_0 x0.Sure.length p0_0, .slice A0_1 x0.Unsure.length p0_1] 67 (0, 0))]), (4, [(b3, .cells #[.slice none 0 0, .slice none 0 0] 67 (0, 0))])] := ⟨_, rfl⟩
    refine wp_cutq R16 ?_ ?_
    · have H := h14
      apply wp_region_lit
      refine sm _ rfl hk rfl rfl rfl fun a hk => ?_
      obtain ⟨y17, h18, H⟩ := bind_some H
      refine sc rfl en87 hk rfl rfl rfl (impl_isSector_t _ x1 _ h18) ?_
      rintro _ w ⟨rfl, hG⟩ a hk
      have hs := hs.call0 hG
      refine sv (.bool (!y17)) hk rfl rfl rfl fun a hk => ?_
      refine sm _ rfl hk rfl rfl rfl fun a hk => ?_
      rcases cond_some H with ⟨c19, H⟩ | ⟨c19, H⟩
      · have hk := hk.lit 21 c19 rfl
        refine sk hk rfl rfl rfl fun a hk => ?_
        refine sk hk rfl rfl rfl fun a hk => ?_
        refine sk hk rfl rfl rfl fun a hk => ?_
        refine sv (.bool true) hk rfl rfl rfl fun a hk => ?_
        refine sa _ rfl hk rfl rfl rfl fun a hk => ?_
        show wpList _ _ _ [] _ _
        refine wpList_nil ?_
        obtain rfl := Option.some.inj H
        show R16 _ _
        rw [hR16]
        exact ⟨true, rfl, (hk.c 1 rfl (hk.c 2 rfl (hk.c 3 rfl (hk.c 4 rfl (hk.c 8 rfl (hk.c 17 rfl hk.k)))))), (hs.pick [(3, 3), (4, 4)] rfl)⟩
      · have hk := hk.lit 21 c19 rfl
        refine sm _ rfl hk rfl rfl rfl fun a hk => ?_
        obtain ⟨y20, h21, H⟩ := bind_some H
        refine sc rfl en102 hk rfl rfl rfl (impl_within_t _ x3 1 255 _ h21) ?_
        rintro _ w ⟨rfl, hG⟩ a hk
        have hs := hs.call0 hG
        refine sv (.bool (!y20)) hk rfl rfl rfl fun a hk => ?_
        refine sv (.bool (!y20)) hk rfl rfl rfl fun a hk => ?_
        refine sa _ rfl hk rfl rfl rfl fun a hk => ?_
        show wpList _ _ _ [] _ _
        refine wpList_nil ?_
        obtain rfl := Option.some.inj H
        show R16 _ _
        rw [hR16]
        exact ⟨(!y20), rfl, (hk.c 1 rfl (hk.c 2 rfl (hk.c 3 rfl (hk.c 4 rfl (hk.c 8 rfl (hk.c 17 rfl hk.k)))))), (hs.pick [(3, 3), (4, 4)] rfl)⟩
    · intro a w hR0
      rw [hR16] at hR0
      obtain ⟨u12, rfl, hk, hs⟩ := hR0
      have H := HL15
      try dsimp only at H
      refine hK10 _ _ ?_
      rcases cond_some H with ⟨c22, H⟩ | ⟨c22, H⟩
      · have hk := hk.lit 17 c22 rfl
        refine cnd_true hk rfl rfl ?_
        apply wp_seq_k; intro K23 hK23
        apply wp_region_lit
        refine sbd (pv := []) rfl hk rfl rfl rfl bd67_7 fun a hk => ?_
        refine ssw 4 hs rfl rfl hk rfl rfl rfl rfl sz67 (by simp [Value.oneCell']) rfl fun w a hk hs => ?_
        refine sa _ rfl hk rfl rfl rfl fun a hk => ?_
        show wpList _ _ _ [] _ _
        refine wpList_nil ?_
        refine hK23 _ _ ?_
        refine wp_ret ?_
        obtain rfl := Option.some.inj H
        have hs := hs.addNil 8
        have hs := hs.addNil 9
        exact fin hk _ [(.agg #[.slice none 0 0, .slice none 0 0]), (.int .i64 4)] rfl ⟨⟨_, rfl, run_loadN ag67 sz67 (box_cells hs (k := 4) rfl)⟩, ⟨rfl, trivial⟩⟩ ⟨none, 0, [], none, 0, [], rfl, Own.nil _ _, Own.nil _ _, (hs.pick [(0, 8), (1, 9)] rfl).dnil⟩
      · have hk := hk.lit 17 c22 rfl
        refine cnd_false hk rfl rfl ?_
        apply wp_seq_k; intro K24 hK24
        apply wp_region_lit
        refine sm _ rfl hk rfl rfl rfl fun a hk => ?_
        refine sf ⟨b2, 0, none⟩ rfl hk rfl rfl rfl fd67_0 rfl fun a hk => ?_
        refine sl rfl hk rfl rfl rfl ag64 (box_cell hs (k := 3) rfl rfl) fun a hk => ?_
        refine sm _ rfl hk rfl rfl rfl fun a hk => ?_
        rcases ite_some H with ⟨c25, H⟩ | ⟨_, H⟩
        rotate_left
        · cases H
        obtain ⟨b26, q27, hAc25⟩ := (v0_0).some_ x1 c25.1 c25.2
        refine si rfl hk rfl rfl rfl rfl un64 sz9 c25.1 c25.2 hAc25 fun a hk => ?_
        obtain ⟨_, rfl, e28⟩ := (v0_0).at_ ByteArray.empty x1 c25.1 c25.2
        refine sl (v := (.string (x0.Sure.getD x1.toNat ByteArray.empty))) rfl hk rfl rfl rfl ag9 ((e28 0 _ rfl).cell (hs.hasD (k := 1) rfl)) fun a hk => ?_
        refine sles rfl hk rfl rfl rfl un9 fun a hk => ?_
        refine sv (.int .i64 (w64 (((x0.Sure.getD x1.toNat ByteArray.empty).size : Int) - 1))) hk rfl rfl rfl fun a hk => ?_
        obtain ⟨y29, h30, H⟩ := bind_some H
        refine sc rfl en102 hk rfl rfl rfl (impl_within_t _ x2 0 (w64 (((x0.Sure.getD x1.toNat ByteArray.empty).size : Int) - 1)) _ h30) ?_
        rintro _ w ⟨rfl, hG⟩ a hk
        have hs := hs.call0 hG
        refine sv (.bool (!y29)) hk rfl rfl rfl fun a hk => ?_
        refine sa _ rfl hk rfl rfl rfl fun a hk => ?_
        show wpList _ _ _ [] _ _
        refine wpList_nil ?_
        refine hK24 _ _ ?_
        rcases cond_some H with ⟨c31, H⟩ | ⟨c31, H⟩
        · have hk := hk.lit 27 c31 rfl
          refine cnd_true hk rfl rfl ?_
          apply wp_seq_k; intro K32 hK32
          apply wp_region_lit
          refine sln [.slice A0_0 x0.Sure.length p0_0, .slice A0_1 x0.Unsure.length p0_1] rfl hk rfl rfl rfl ag67 sz67 (box_cells hs (k := 3) rfl) fun a hk => ?_
          obtain ⟨y33, h34, H⟩ := bind_some H
          refine sc rfl en89 hk rfl rfl rfl (impl_Device_own_t _ x0 A0_0 p0_0 _ v0_0 (hs.hasD (k := 1) rfl) A0_1 p0_1 _ v0_1 (hs.hasD (k := 2) rfl) _ h34) ?_
          rintro _ w ⟨A35, p36, k37, A39, p40, k41, rfl, o38, o42, hG⟩ a hk
          have hs := hs.call0k hG [10, 11] rfl
          refine ssw 4 hs rfl rfl hk rfl rfl rfl rfl sz67 (by simp [Value.oneCell']) rfl fun w a hk hs => ?_
          refine sa _ rfl hk rfl rfl rfl fun a hk => ?_
          show wpList _ _ _ [] _ _
          refine wpList_nil ?_
          refine hK32 _ _ ?_
          refine wp_ret ?_
          obtain rfl := Option.some.inj H
          exact fin hk _ [(.agg #[.slice A35 y33.Sure.length p36, .slice A39 y33.Unsure.length p40]), (.int .i64 5)] rfl ⟨⟨_, rfl, run_loadN ag67 sz67 (box_cells hs (k := 4) rfl)⟩, ⟨rfl, trivial⟩⟩ ⟨A35, p36, _, A39, p40, _, rfl, o38, o42, (hs.pick [(0, 10), (1, 11)] rfl).dnil⟩
        · have hk := hk.lit 27 c31 rfl
          refine cnd_false hk rfl rfl ?_
          refine wp_skip ?_
          refine hK4 _ _ ?_
          apply wp_seq_k; intro K43 hK43
          apply wp_region_lit
          refine sln [.slice A0_0 x0.Sure.length p0_0, .slice A0_1 x0.Unsure.length p0_1] rfl hk rfl rfl rfl ag67 sz67 (box_cells hs (k := 3) rfl) fun a hk => ?_
          obtain ⟨y44, h45, H⟩ := bind_some H
          refine sc rfl en89 hk rfl rfl rfl (impl_Device_own_t _ x0 A0_0 p0_0 _ v0_0 (hs.hasD (k := 1) rfl) A0_1 p0_1 _ v0_1 (hs.hasD (k := 2) rfl) _ h45) ?_
          rintro _ w ⟨A46, p47, k48, A50, p51, k52, rfl, o49, o53, hG⟩ a hk
          have hs := hs.call0k hG [12, 13] rfl
          refine salx 14 hs rfl hk rfl rfl ze67 rfl fun b54 w a hk hs => ?_
          refine ssw 14 hs rfl rfl hk rfl rfl rfl rfl sz67 (by simp [Value.oneCell']) rfl fun w a hk hs => ?_
          show wpList _ _ _ [] _ _
          refine wpList_nil ?_
          refine hK43 _ _ ?_
          apply wp_seq_k; intro K55 hK55
          apply wp_region_lit
          refine sf ⟨b54, 0, none⟩ rfl hk rfl rfl rfl fd67_0 rfl fun a hk => ?_
          refine sl rfl hk rfl rfl rfl ag64 (box_cell hs (k := 14) rfl rfl) fun a hk => ?_
          refine sm _ rfl hk rfl rfl rfl fun a hk => ?_
          rcases ite_some H with ⟨c56, H⟩ | ⟨_, H⟩
          rotate_left
          · cases H
          obtain ⟨b57, q58, hAc56⟩ := (o49.view).some_ x1 c56.1 c56.2
          refine si rfl hk rfl rfl rfl rfl un64 sz9 c56.1 c56.2 hAc56 fun a hk => ?_
          obtain ⟨_, rfl, e59⟩ := (o49.view).at_ ByteArray.empty x1 c56.1 c56.2
          refine sl (v := (.string (y44.Sure.getD x1.toNat ByteArray.empty))) rfl hk rfl rfl rfl ag9 ((e59 0 _ rfl).cell (hs.hasG (k := 12) rfl)) fun a hk => ?_
          rcases ite_some H with ⟨c60, H⟩ | ⟨_, H⟩
          rotate_left
          · cases H
          refine scb 15 hs rfl hk rfl rfl rfl un9 un55 un5 c60 fun b61 p62 k63 w a hk o64 hs => ?_
          refine sa _ rfl hk rfl rfl rfl fun a hk => ?_
          show wpList _ _ _ [] _ _
          refine wpList_nil ?_
          refine hK55 _ _ ?_
          apply wp_seq_k; intro K65 hK65
          apply wp_region_lit
          refine sm _ rfl hk rfl rfl rfl fun a hk => ?_
          refine sm _ rfl hk rfl rfl rfl fun a hk => ?_
          rcases ite_some H with ⟨c66, H⟩ | ⟨_, H⟩
          rotate_left
          · cases H
          obtain ⟨b67, q68, hAc66⟩ := (o64.view).some_ x2 c66.1 c66.2
          refine si rfl hk rfl rfl rfl rfl un55 sz5 c66.1 c66.2 hAc66 fun a hk => ?_
          obtain ⟨_, rfl, e69⟩ := (o64.view).at_ 0 x2 c66.1 c66.2
          refine sl (v := (.int .u8 ((bytesOf (y44.Sure.getD x1.toNat ByteArray.empty)).getD x2.toNat 0))) rfl hk rfl rfl rfl ag5 ((e69 0 _ rfl).cell (hs.hasG (k := 15) rfl)) fun a hk => ?_
          refine sm _ rfl hk rfl rfl rfl fun a hk => ?_
          refine scn rfl hk rfl rfl rfl un5 un3 fun a hk => ?_
          refine sv (.int .u8 (IntKind.wrap .u8 ((BitVec.ofInt 8 ((bytesOf (y44.Sure.getD x1.toNat ByteArray.empty)).getD x2.toNat 0) ^^^ BitVec.ofInt 8 (IntKind.wrap .u8 x3)).toNat : Int))) hk rfl rfl rfl fun a hk => ?_
          rcases ite_some H with ⟨c70, H⟩ | ⟨_, H⟩
          rotate_left
          · cases H
          obtain ⟨b71, q72, hAc70⟩ := (o64.view).some_ x2 c70.1 c70.2
          refine si rfl hk rfl rfl rfl rfl un55 sz5 c70.1 c70.2 hAc70 fun a hk => ?_
          refine sob 15 (IntKind.wrap .u8 ((BitVec.ofInt 8 ((bytesOf (y44.Sure.getD x1.toNat ByteArray.empty)).getD x2.toNat 0) ^^^ BitVec.ofInt 8 (IntKind.wrap .u8 x3)).toNat : Int)) hs rfl o64 c70.1 c70.2 rfl hk rfl rfl rfl rfl rfl sz5 rfl rfl rfl ⟨rfl, rfl⟩ fun k73 w a hk o74 hs => ?_
          have lh75 : ((bytesOf (y44.Sure.getD x1.toNat ByteArray.empty)).set x2.toNat (IntKind.wrap .u8 ((BitVec.ofInt 8 ((bytesOf (y44.Sure.getD x1.toNat ByteArray.empty)).getD x2.toNat 0) ^^^ BitVec.ofInt 8 (IntKind.wrap .u8 x3)).toNat : Int))).length = (bytesOf (y44.Sure.getD x1.toNat ByteArray.empty)).length := by rw [List.length_set]
          show wpList _ _ _ [] _ _
          refine wpList_nil ?_
          refine hK65 _ _ ?_
          apply wp_seq_k; intro K76 hK76
          apply wp_region_lit
          refine sf ⟨b54, 0, none⟩ rfl hk rfl rfl rfl fd67_0 rfl fun a hk => ?_
          refine sl rfl hk rfl rfl rfl ag64 (box_cell hs (k := 14) rfl rfl) fun a hk => ?_
          refine sm _ rfl hk rfl rfl rfl fun a hk => ?_
          refine sm _ rfl hk rfl rfl rfl fun a hk => ?_
          refine sbt (xs := ((bytesOf (y44.Sure.getD x1.toNat ByteArray.empty)).set x2.toNat (IntKind.wrap .u8 ((BitVec.ofInt 8 ((bytesOf (y44.Sure.getD x1.toNat ByteArray.empty)).getD x2.toNat 0) ^^^ BitVec.ofInt 8 (IntKind.wrap .u8 x3)).toNat : Int)))) rfl hk rfl rfl lh75.symm rfl un55 un5 un9 o74.view (hs.hasG (k := 15) rfl) fun a hk => ?_
          rcases ite_some H with ⟨c77, H⟩ | ⟨_, H⟩
          rotate_left
          · cases H
          obtain ⟨b78, q79, hAc77⟩ := (o49.view).some_ x1 c77.1 c77.2
          refine si rfl hk rfl rfl rfl rfl un64 sz9 c77.1 c77.2 hAc77 fun a hk => ?_
          refine so (j := 0) 12 ByteArray.empty (strOfNums ((bytesOf (y44.Sure.getD x1.toNat ByteArray.empty)).set x2.toNat (IntKind.wrap .u8 ((BitVec.ofInt 8 ((bytesOf (y44.Sure.getD x1.toNat ByteArray.empty)).getD x2.toNat 0) ^^^ BitVec.ofInt 8 (IntKind.wrap .u8 x3)).toNat : Int)))) hs rfl o49 c77.1 c77.2 rfl hk rfl rfl rfl rfl rfl sz9 (by simp [Value.cells, Value.oneCell']) (Nat.le_of_ble_eq_true rfl) (fun _ _ h => ⟨by rw [h.1]; rfl, h.2⟩) fun k80 w a hk o81 hs => ?_
          have lh82 : (y44.Sure.set x1.toNat (strOfNums ((bytesOf (y44.Sure.getD x1.toNat ByteArray.empty)).set x2.toNat (IntKind.wrap .u8 ((BitVec.ofInt 8 ((bytesOf (y44.Sure.getD x1.toNat ByteArray.empty)).getD x2.toNat 0) ^^^ BitVec.ofInt 8 (IntKind.wrap .u8 x3)).toNat : Int))))).length = y44.Sure.length := by rw [List.length_set]
          show wpList _ _ _ [] _ _
          refine wpList_nil ?_
          refine hK76 _ _ ?_
          apply wp_seq_k; intro K83 hK83
          apply wp_region_lit
          refine sln [.slice A46 y44.Sure.length p47, .slice A50 y44.Unsure.length p51] rfl hk rfl rfl rfl ag67 sz67 (box_cells hs (k := 14) rfl) fun a hk => ?_
          refine ssw 4 hs rfl rfl hk rfl rfl rfl rfl sz67 (by simp [Value.oneCell']) rfl fun w a hk hs => ?_
          refine sa _ rfl hk rfl rfl rfl fun a hk => ?_
          show wpList _ _ _ [] _ _
          refine wpList_nil ?_
          refine hK83 _ _ ?_
          refine wp_ret ?_
          obtain rfl := Option.some.inj H
          exact fin hk _ [(.agg #[.slice A46 y44.Sure.length p47, .slice A50 y44.Unsure.length p51]), (.int .i64 0)] rfl ⟨⟨_, rfl, run_loadN ag67 sz67 (box_cells hs (k := 4) rfl)⟩, ⟨rfl, trivial⟩⟩ ⟨A46, p47, _, A50, p51, _, (by first | (rw [lh82]; done) | (rw [lh82]; rfl)), o81, o53, (hs.pick [(0, 12), (1, 13)] rfl).dnil⟩

noncomputable def spec_l01In.f (x0 : Int) (x1 : Int) (x2 : Int) : Option (Bool) :=
  (((bif (decide (x1 ≤ x0)) then (some (decide (x0 ≤ x2))) else (some false)) : Option (Bool)).bind fun u4 => (some u4))
set_option maxRecDepth 100000 in
set_option maxHeartbeats 0 in
theorem spec_l01In_t (w0 : World) (x0 : Int) (x1 : Int) (x2 : Int) (r : Bool) (H : spec_l01In.f x0 x1 x2 = some r) :
    Calls Try.prog 104 #[.int .i64 x0, .int .i64 x1, .int .i64 x2] w0 (Ret (fun v w => v = .bool r ∧ Sat [] w0 w [] [])) := by
  have hs : Sat [] w0 w0 [] [] := Sat.init w0 [] [] (by simp) (by simp) List.nodup_nil (by simp [blks])
  unfold spec_l01In.f at H
  refine enter Try.func104 rfl Try.ntmps104 rfl fun a hk => ?_
  apply wp_seq_k; intro K1 hK1
  apply wp_region_lit
  refine sa _ rfl hk rfl rfl rfl fun a hk => ?_
  show wpList _ _ _ [] _ _
  refine wpList_nil ?_
  refine hK1 _ _ ?_
  apply wp_seq_k; intro K2 hK2
  obtain ⟨o5, h6, HL7⟩ := bind_some H
  clear H
  obtain ⟨R8, hR8⟩ : ∃ R : Act → World → Prop, R = fun a w => ∃ (u4 : Bool), u4 = o5 ∧ Kn [(6, (.bool u4))] 15 a ∧ Sat [] w0 w [] [] := ⟨_, rfl⟩
  refine wp_cutq R8 ?_ ?_
  · have H := h6
    apply wp_region_lit
    refine sm _ rfl hk rfl rfl rfl fun a hk => ?_
    refine sm _ rfl hk rfl rfl rfl fun a hk => ?_
    refine sv (.bool (decide (x1 ≤ x0))) hk rfl rfl rfl fun a hk => ?_
    refine sm _ rfl hk rfl rfl rfl fun a hk => ?_
    rcases cond_some H with ⟨c9, H⟩ | ⟨c9, H⟩
    · have hk := hk.lit 10 c9 rfl
      refine sm _ rfl hk rfl rfl rfl fun a hk => ?_
      refine sm _ rfl hk rfl rfl rfl fun a hk => ?_
      refine sv (.bool (decide (x0 ≤ x2))) hk rfl rfl rfl fun a hk => ?_
      refine sv (.bool (decide (x0 ≤ x2))) hk rfl rfl rfl fun a hk => ?_
      refine sa _ rfl hk rfl rfl rfl fun a hk => ?_
      show wpList _ _ _ [] _ _
      refine wpList_nil ?_
      obtain rfl := Option.some.inj H
      show R8 _ _
      rw [hR8]
      exact ⟨(decide (x0 ≤ x2)), rfl, (hk.c 6 rfl hk.k), (hs.pick [] rfl)⟩
    · have hk := hk.lit 10 c9 rfl
      refine sk hk rfl rfl rfl fun a hk => ?_
      refine sk hk rfl rfl rfl fun a hk => ?_
      refine sk hk rfl rfl rfl fun a hk => ?_
      refine sv (.bool false) hk rfl rfl rfl fun a hk => ?_
      refine sa _ rfl hk rfl rfl rfl fun a hk => ?_
      show wpList _ _ _ [] _ _
      refine wpList_nil ?_
      obtain rfl := Option.some.inj H
      show R8 _ _
      rw [hR8]
      exact ⟨false, rfl, (hk.c 6 rfl hk.k), (hs.pick [] rfl)⟩
  · intro a w hR0
    rw [hR8] at hR0
    obtain ⟨u4, rfl, hk, hs⟩ := hR0
    have H := HL7
    try dsimp only at H
    refine hK2 _ _ ?_
    refine wp_ret ?_
    obtain rfl := Option.some.inj H
    exact fin hk _ [(.bool u4)] rfl ⟨rfl, trivial⟩ ⟨rfl, (hs.pick [] rfl).dnil⟩

noncomputable def spec_l05In.f (x0 : Int) : Option (Bool) :=
  ((spec_l01In.f x0 0 39).bind fun y3 => (some y3))
set_option maxRecDepth 100000 in
set_option maxHeartbeats 0 in
theorem spec_l05In_t (w0 : World) (x0 : Int) (r : Bool) (H : spec_l05In.f x0 = some r) :
    Calls Try.prog 103 #[.int .i64 x0] w0 (Ret (fun v w => v = .bool r ∧ Sat [] w0 w [] [])) := by
  have hs : Sat [] w0 w0 [] [] := Sat.init w0 [] [] (by simp) (by simp) List.nodup_nil (by simp [blks])
  unfold spec_l05In.f at H
  refine enter Try.func103 rfl Try.ntmps103 rfl fun a hk => ?_
  apply wp_seq_k; intro K1 hK1
  apply wp_region_lit
  refine sa _ rfl hk rfl rfl rfl fun a hk => ?_
  show wpList _ _ _ [] _ _
  refine wpList_nil ?_
  refine hK1 _ _ ?_
  apply wp_seq_k; intro K2 hK2
  apply wp_region_lit
  refine sm _ rfl hk rfl rfl rfl fun a hk => ?_
  obtain ⟨y3, h4, H⟩ := bind_some H
  refine sc rfl en104 hk rfl rfl rfl (spec_l01In_t _ x0 0 39 _ h4) ?_
  rintro _ w ⟨rfl, hG⟩ a hk
  have hs := hs.call0 hG
  refine sa _ rfl hk rfl rfl rfl fun a hk => ?_
  show wpList _ _ _ [] _ _
  refine wpList_nil ?_
  refine hK2 _ _ ?_
  refine wp_ret ?_
  obtain rfl := Option.some.inj H
  exact fin hk _ [(.bool y3)] rfl ⟨rfl, trivial⟩ ⟨rfl, (hs.pick [] rfl).dnil⟩

noncomputable def spec_DeviceOK.s0 (x0 : S_Device) (u18 : Int) : Option ((Int) ⊕ Ex (Unit) (Bool)) :=
  (bif (decide (u18 < (x0.Sure.length : Int))) then (if 0 ≤ u18 ∧ u18 < (x0.Sure.length : Int) then (bif (decide (((x0.Sure.getD u18.toNat ByteArray.empty).size : Int) > 700)) then (some (.inr (.ret false))) else (some (.inl (w64 (u18 + 1))))) else none) else (some (.inr (.out ()))))
noncomputable def spec_DeviceOK.s1 (x0 : S_Device) (u43 : Int) : Option ((Int) ⊕ Ex (Unit) (Bool)) :=
  (bif (decide (u43 < (x0.Unsure.length : Int))) then (((if 0 ≤ u43 ∧ u43 < (x0.Unsure.length : Int) then ((spec_l05In.f ((x0.Unsure.getD u43.toNat z_Io).At)).bind fun y67 => (bif (!y67) then (some true) else (if 0 ≤ u43 ∧ u43 < (x0.Unsure.length : Int) then (some (decide ((((x0.Unsure.getD u43.toNat z_Io).Data).size : Int) > 700))) else none))) else none) : Option (Bool)).bind fun u58 => (bif u58 then (some (.inr (.ret false))) else (some (.inl (w64 (u43 + 1)))))) else (some (.inr (.out ()))))
noncomputable def spec_DeviceOK.f (x0 : S_Device) : Option (Bool) :=
  (((bif ((x0.Sure.length : Int) != 40) then (some true) else (some (decide ((x0.Unsure.length : Int) > 60)))) : Option (Bool)).bind fun u6 => (bif u6 then (some false) else ((loopO (fun s => spec_DeviceOK.s0 x0 s) 0).bind fun o => match o with | .out _ => ((loopO (fun s => spec_DeviceOK.s1 x0 s) 0).bind fun o => match o with | .out _ => (some true) | .ret r => (some r)) | .ret r => (some r))))
set_option maxRecDepth 100000 in
set_option maxHeartbeats 0 in
theorem spec_DeviceOK_t (w0 : World) (x0 : S_Device) (A0_0 : Option Addr) (p0_0 : Nat) (k0_0 : Chunk) (v0_0 : View Lay.str A0_0 p0_0 x0.Sure k0_0) (w0_0 : Has w0 k0_0) (A0_1 : Option Addr) (p0_1 : Nat) (k0_1 : Chunk) (v0_1 : View L_Io A0_1 p0_1 x0.Unsure k0_1) (w0_1 : Has w0 k0_1) (r : Bool) (H : spec_DeviceOK.f x0 = some r) :
    Calls Try.prog 96 #[.agg #[.slice A0_0 x0.Sure.length p0_0, .slice A0_1 x0.Unsure.length p0_1]] w0 (Ret (fun v w => v = .bool r ∧ Sat [] w0 w [] [])) := by
  have hs : Sat [] w0 w0 [(1, k0_0), (2, k0_1)] [] := Sat.init w0 [(1, k0_0), (2, k0_1)] [] (by simp only [List.mem_cons, List.not_mem_nil, or_false]; rintro x (rfl | rfl) <;> assumption) (by simp) List.nodup_nil (by simp [blks])
  unfold spec_DeviceOK.f at H
  refine enter Try.func96 rfl Try.ntmps96 rfl fun a hk => ?_
  apply wp_seq_k; intro K1 hK1
  apply wp_region_lit
  refine sbx 3 hs rfl hk rfl rfl rfl rfl fun b2 w a hk hs => ?_
  refine sa _ rfl hk rfl rfl rfl fun a hk => ?_
  show wpList _ _ _ [] _ _
  refine wpList_nil ?_
  refine hK1 _ _ ?_
  apply wp_seq_k; intro K3 hK3
  apply wp_seq_k; intro K4 hK4
  obtain ⟨o7, h8, HL9⟩ := bind_some H
  clear H
  obtain ⟨R10, hR10⟩ : ∃ R : Act → World → Prop, R = fun a w => ∃ (u6 : Bool), u6 = o7 ∧ Kn [(1, (.pointer (some ⟨b2, 0, none⟩))), (14, (.bool u6))] 54 a ∧ Sat [] w0 w [(1, k0_0), (2, k0_1)] [(3, [(b2, .cells #[.slice A0_0 x0.Sure.length p0_0, .slice A0_1 x0.Unsure.length p0_1] 67 (0, 0))])] := ⟨_, rfl⟩
  refine wp_cutq R10 ?_ ?_
  · have H := h8
    apply wp_region_lit
    refine sf ⟨b2, 0, none⟩ rfl hk rfl rfl rfl fd67_0 rfl fun a hk => ?_
    refine sl rfl hk rfl rfl rfl ag64 (box_cell hs (k := 3) rfl rfl) fun a hk => ?_
    refine sle rfl hk rfl rfl rfl un64 fun a hk => ?_
    refine sv (.bool ((x0.Sure.length : Int) != 40)) hk rfl rfl rfl fun a hk => ?_
    refine sm _ rfl hk rfl rfl rfl fun a hk => ?_
    rcases cond_some H with ⟨c11, H⟩ | ⟨c11, H⟩
    · have hk := hk.lit 9 c11 rfl
      refine sk hk rfl rfl rfl fun a hk => ?_
      refine sk hk rfl rfl rfl fun a hk => ?_
      refine sk hk rfl rfl rfl fun a hk => ?_
      refine sk hk rfl rfl rfl fun a hk => ?_
      refine sv (.bool true) hk rfl rfl rfl fun a hk => ?_
      show wpList _ _ _ [] _ _
      refine wpList_nil ?_
      obtain rfl := Option.some.inj H
      show R10 _ _
      rw [hR10]
      exact ⟨true, rfl, (hk.c 1 rfl (hk.c 14 rfl hk.k)), (hs.pick [(3, 3)] rfl)⟩
    · have hk := hk.lit 9 c11 rfl
      refine sf ⟨b2, 1, none⟩ rfl hk rfl rfl rfl fd67_1 rfl fun a hk => ?_
      refine sl rfl hk rfl rfl rfl ag65 (box_cell hs (k := 3) rfl rfl) fun a hk => ?_
      refine sle rfl hk rfl rfl rfl un65 fun a hk => ?_
      refine sv (.bool (decide ((x0.Unsure.length : Int) > 60))) hk rfl rfl rfl fun a hk => ?_
      refine sv (.bool (decide ((x0.Unsure.length : Int) > 60))) hk rfl rfl rfl fun a hk => ?_
      show wpList _ _ _ [] _ _
      refine wpList_nil ?_
      obtain rfl := Option.some.inj H
      show R10 _ _
      rw [hR10]
      exact ⟨(decide ((x0.Unsure.length : Int) > 60)), rfl, (hk.c 1 rfl (hk.c 14 rfl hk.k)), (hs.pick [(3, 3)] rfl)⟩
  · intro a w hR0
    rw [hR10] at hR0
    obtain ⟨u6, rfl, hk, hs⟩ := hR0
    have H := HL9
    try dsimp only at H
    refine hK4 _ _ ?_
    rcases cond_some H with ⟨c12, H⟩ | ⟨c12, H⟩
    · have hk := hk.lit 14 c12 rfl
      refine cnd_true hk rfl rfl ?_
      apply wp_seq_k; intro K13 hK13
      apply wp_region_lit
      refine sa _ rfl hk rfl rfl rfl fun a hk => ?_
      show wpList _ _ _ [] _ _
      refine wpList_nil ?_
      refine hK13 _ _ ?_
      refine wp_ret ?_
      obtain rfl := Option.some.inj H
      exact fin hk _ [(.bool false)] rfl ⟨rfl, trivial⟩ ⟨rfl, (hs.pick [] rfl).dnil⟩
    · have hk := hk.lit 14 c12 rfl
      refine cnd_false hk rfl rfl ?_
      refine wp_skip ?_
      refine hK3 _ _ ?_
      apply wp_seq_k; intro K14 hK14
      apply wp_seq_k; intro K15 hK15
      apply wp_region_lit
      refine sa _ rfl hk rfl rfl rfl fun a hk => ?_
      show wpList _ _ _ [] _ _
      refine wpList_nil ?_
      refine hK15 _ _ ?_
      obtain ⟨o19, h20, HL21⟩ := bind_some H
      clear H
      obtain ⟨R22, hR22⟩ : ∃ R : Act → World → Prop, R = fun a w => o19 = .out () ∧ Kn [(1, (.pointer (some ⟨b2, 0, none⟩)))] 54 a ∧ Sat [] w0 w [(1, k0_0), (2, k0_1)] [(3, [(b2, .cells #[.slice A0_0 x0.Sure.length p0_0, .slice A0_1 x0.Unsure.length p0_1] 67 (0, 0))])] := ⟨_, rfl⟩
      refine wp_cutq R22 ?_ ?_
      · refine wp_block ?_
        obtain ⟨fu24, h20⟩ := loopO_some h20
        obtain ⟨I23, hI23⟩ : ∃ I : Nat → Act → World → Prop, I = fun fu a w => ∃ (u18 : Int), loopN (fun s => spec_DeviceOK.s0 x0 s) fu u18 = some o19 ∧ Kn [(1, (.pointer (some ⟨b2, 0, none⟩))), (3, (.int .i64 u18))] 54 a ∧ Sat [] w0 w [(1, k0_0), (2, k0_1)] [(3, [(b2, .cells #[.slice A0_0 x0.Sure.length p0_0, .slice A0_1 x0.Unsure.length p0_1] 67 (0, 0))])] := ⟨_, rfl⟩
        refine wp_loop_ghost I23 fu24 ?_ ?_
        · rw [hI23]
          exact ⟨0, h20, (hk.c 1 rfl (hk.c 3 rfl hk.k)), (hs.pick [(3, 3)] rfl)⟩
        · clear h20 hk hs
          intro fu24 a w hI0
          rw [hI23] at hI0
          obtain ⟨u18, hi, hk, hs⟩ := hI0
          obtain ⟨x25, H, h26⟩ := loop_round hi
          try dsimp only at H
          unfold spec_DeviceOK.s0 at H
          apply wp_seq_k; intro K27 hK27
          apply wp_seq_k; intro K28 hK28
          apply wp_region_lit
          refine sm _ rfl hk rfl rfl rfl fun a hk => ?_
          refine sf ⟨b2, 0, none⟩ rfl hk rfl rfl rfl fd67_0 rfl fun a hk => ?_
          refine sl rfl hk rfl rfl rfl ag64 (box_cell hs (k := 3) rfl rfl) fun a hk => ?_
          refine sle rfl hk rfl rfl rfl un64 fun a hk => ?_
          refine sv (.bool (decide (u18 < (x0.Sure.length : Int)))) hk rfl rfl rfl fun a hk => ?_
          show wpList _ _ _ [] _ _
          refine wpList_nil ?_
          refine hK28 _ _ ?_
          rcases cond_some H with ⟨c29, H⟩ | ⟨c29, H⟩
          · have hk := hk.lit 19 c29 rfl
            refine cnd_true hk rfl rfl ?_
            refine wp_skip ?_
            refine hK27 _ _ ?_
            apply wp_seq_k; intro K30 hK30
            refine wp_block ?_
            apply wp_seq_k; intro K31 hK31
            apply wp_region_lit
            refine sf ⟨b2, 0, none⟩ rfl hk rfl rfl rfl fd67_0 rfl fun a hk => ?_
            refine sl rfl hk rfl rfl rfl ag64 (box_cell hs (k := 3) rfl rfl) fun a hk => ?_
            refine sm _ rfl hk rfl rfl rfl fun a hk => ?_
            rcases ite_some H with ⟨c32, H⟩ | ⟨_, H⟩
            rotate_left
            · cases H
            obtain ⟨b33, q34, hAc32⟩ := (v0_0).some_ u18 c32.1 c32.2
            refine si rfl hk rfl rfl rfl rfl un64 sz9 c32.1 c32.2 hAc32 fun a hk => ?_
            obtain ⟨_, rfl, e35⟩ := (v0_0).at_ ByteArray.empty u18 c32.1 c32.2
            refine sl (v := (.string (x0.Sure.getD u18.toNat ByteArray.empty))) rfl hk rfl rfl rfl ag9 ((e35 0 _ rfl).cell (hs.hasD (k := 1) rfl)) fun a hk => ?_
            refine sles rfl hk rfl rfl rfl un9 fun a hk => ?_
            refine sv (.bool (decide (((x0.Sure.getD u18.toNat ByteArray.empty).size : Int) > 700))) hk rfl rfl rfl fun a hk => ?_
            show wpList _ _ _ [] _ _
            refine wpList_nil ?_
            refine hK31 _ _ ?_
            rcases cond_some H with ⟨c36, H⟩ | ⟨c36, H⟩
            · have hk := hk.lit 28 c36 rfl
              refine cnd_true hk rfl rfl ?_
              apply wp_seq_k; intro K37 hK37
              apply wp_region_lit
              refine sa _ rfl hk rfl rfl rfl fun a hk => ?_
              show wpList _ _ _ [] _ _
              refine wpList_nil ?_
              refine hK37 _ _ ?_
              refine wp_ret ?_
              obtain rfl := Option.some.inj H
              have ho19 := h26
              try dsimp only at ho19
              subst ho19
              have H := HL21
              try dsimp only at H
              obtain rfl := Option.some.inj H
              exact fin hk _ [(.bool false)] rfl ⟨rfl, trivial⟩ ⟨rfl, (hs.pick [] rfl).dnil⟩
            · have hk := hk.lit 28 c36 rfl
              refine cnd_false hk rfl rfl ?_
              refine wp_skip ?_
              refine hK30 _ _ ?_
              apply wp_region_lit
              refine sm _ rfl hk rfl rfl rfl fun a hk => ?_
              refine sv (.int .i64 (w64 (u18 + 1))) hk rfl rfl rfl fun a hk => ?_
              refine sa _ rfl hk rfl rfl rfl fun a hk => ?_
              show wpList _ _ _ [] _ _
              refine wpList_nil ?_
              obtain rfl := Option.some.inj H
              obtain ⟨m38, hmm38, h26⟩ := h26
              show ∃ n', n' < _ ∧ I23 n' _ _
              refine ⟨m38, hmm38, ?_⟩
              rw [hI23]
              exact ⟨(w64 (u18 + 1)), h26, (hk.c 1 rfl (hk.c 3 rfl hk.k)), (hs.pick [(3, 3)] rfl)⟩
          · have hk := hk.lit 19 c29 rfl
            refine cnd_false hk rfl rfl ?_
            refine wp_exit ?_
            obtain rfl := Option.some.inj H
            show R22 _ _
            rw [hR22]
            exact ⟨h26.symm, (hk.c 1 rfl hk.k), (hs.pick [(3, 3)] rfl)⟩
      · intro a w hR0
        rw [hR22] at hR0
        obtain ⟨rfl, hk, hs⟩ := hR0
        have H := HL21
        try dsimp only at H
        refine hK14 _ _ ?_
        apply wp_seq_k; intro K39 hK39
        apply wp_seq_k; intro K40 hK40
        apply wp_region_lit
        refine sa _ rfl hk rfl rfl rfl fun a hk => ?_
        show wpList _ _ _ [] _ _
        refine wpList_nil ?_
        refine hK40 _ _ ?_
        obtain ⟨o44, h45, HL46⟩ := bind_some H
        clear H
        obtain ⟨R47, hR47⟩ : ∃ R : Act → World → Prop, R = fun a w => o44 = .out () ∧ Kn [] 54 a ∧ Sat [] w0 w [(1, k0_0), (2, k0_1)] [] := ⟨_, rfl⟩
        refine wp_cutq R47 ?_ ?_
        · refine wp_block ?_
          obtain ⟨fu49, h45⟩ := loopO_some h45
          obtain ⟨I48, hI48⟩ : ∃ I : Nat → Act → World → Prop, I = fun fu a w => ∃ (u43 : Int), loopN (fun s => spec_DeviceOK.s1 x0 s) fu u43 = some o44 ∧ Kn [(1, (.pointer (some ⟨b2, 0, none⟩))), (4, (.int .i64 u43))] 54 a ∧ Sat [] w0 w [(1, k0_0), (2, k0_1)] [(3, [(b2, .cells #[.slice A0_0 x0.Sure.length p0_0, .slice A0_1 x0.Unsure.length p0_1] 67 (0, 0))])] := ⟨_, rfl⟩
          refine wp_loop_ghost I48 fu49 ?_ ?_
          · rw [hI48]
            exact ⟨0, h45, (hk.c 1 rfl (hk.c 4 rfl hk.k)), (hs.pick [(3, 3)] rfl)⟩
          · clear h45 hk hs
            intro fu49 a w hI0
            rw [hI48] at hI0
            obtain ⟨u43, hi, hk, hs⟩ := hI0
            obtain ⟨x50, H, h51⟩ := loop_round hi
            try dsimp only at H
            unfold spec_DeviceOK.s1 at H
            apply wp_seq_k; intro K52 hK52
            apply wp_seq_k; intro K53 hK53
            apply wp_region_lit
            refine sm _ rfl hk rfl rfl rfl fun a hk => ?_
            refine sf ⟨b2, 1, none⟩ rfl hk rfl rfl rfl fd67_1 rfl fun a hk => ?_
            refine sl rfl hk rfl rfl rfl ag65 (box_cell hs (k := 3) rfl rfl) fun a hk => ?_
            refine sle rfl hk rfl rfl rfl un65 fun a hk => ?_
            refine sv (.bool (decide (u43 < (x0.Unsure.length : Int)))) hk rfl rfl rfl fun a hk => ?_
            show wpList _ _ _ [] _ _
            refine wpList_nil ?_
            refine hK53 _ _ ?_
            rcases cond_some H with ⟨c54, H⟩ | ⟨c54, H⟩
            · have hk := hk.lit 33 c54 rfl
              refine cnd_true hk rfl rfl ?_
              refine wp_skip ?_
              refine hK52 _ _ ?_
              apply wp_seq_k; intro K55 hK55
              refine wp_block ?_
              apply wp_seq_k; intro K56 hK56
              obtain ⟨o59, h60, HL61⟩ := bind_some H
              clear H
              obtain ⟨R62, hR62⟩ : ∃ R : Act → World → Prop, R = fun a w => ∃ (u58 : Bool), u58 = o59 ∧ Kn [(1, (.pointer (some ⟨b2, 0, none⟩))), (4, (.int .i64 u43)), (53, (.bool u58))] 54 a ∧ Sat [] w0 w [(1, k0_0), (2, k0_1)] [(3, [(b2, .cells #[.slice A0_0 x0.Sure.length p0_0, .slice A0_1 x0.Unsure.length p0_1] 67 (0, 0))])] := ⟨_, rfl⟩
              refine wp_cutq R62 ?_ ?_
              · have H := h60
                apply wp_region_lit
                refine sf ⟨b2, 1, none⟩ rfl hk rfl rfl rfl fd67_1 rfl fun a hk => ?_
                refine sl rfl hk rfl rfl rfl ag65 (box_cell hs (k := 3) rfl rfl) fun a hk => ?_
                refine sm _ rfl hk rfl rfl rfl fun a hk => ?_
                rcases ite_some H with ⟨c63, H⟩ | ⟨_, H⟩
                rotate_left
                · cases H
                obtain ⟨b64, q65, hAc63⟩ := (v0_1).some_ u43 c63.1 c63.2
                refine si rfl hk rfl rfl rfl rfl un65 sz129 c63.1 c63.2 hAc63 fun a hk => ?_
                refine sf (padd A0_1 (u43.toNat * 2 + 0)) rfl hk rfl rfl rfl fd129_0 (padd_add _ _ _) fun a hk => ?_
                obtain ⟨_, rfl, e66⟩ := (v0_1).at_ z_Io u43 c63.1 c63.2
                refine sl (v := (.int .i64 ((x0.Unsure.getD u43.toNat z_Io).At))) rfl hk rfl rfl rfl ag3 ((e66 0 _ rfl).cell (hs.hasD (k := 2) rfl)) fun a hk => ?_
                obtain ⟨y67, h68, H⟩ := bind_some H
                refine sc rfl en103 hk rfl rfl rfl (spec_l05In_t _ ((x0.Unsure.getD u43.toNat z_Io).At) _ h68) ?_
                rintro _ w ⟨rfl, hG⟩ a hk
                have hs := hs.call0 hG
                refine sv (.bool (!y67)) hk rfl rfl rfl fun a hk => ?_
                refine sm _ rfl hk rfl rfl rfl fun a hk => ?_
                rcases cond_some H with ⟨c69, H⟩ | ⟨c69, H⟩
                · have hk := hk.lit 44 c69 rfl
                  refine sk hk rfl rfl rfl fun a hk => ?_
                  refine sk hk rfl rfl rfl fun a hk => ?_
                  refine sk hk rfl rfl rfl fun a hk => ?_
                  refine sk hk rfl rfl rfl fun a hk => ?_
                  refine sk hk rfl rfl rfl fun a hk => ?_
                  refine sk hk rfl rfl rfl fun a hk => ?_
                  refine sk hk rfl rfl rfl fun a hk => ?_
                  refine sk hk rfl rfl rfl fun a hk => ?_
                  refine sv (.bool true) hk rfl rfl rfl fun a hk => ?_
                  show wpList _ _ _ [] _ _
                  refine wpList_nil ?_
                  obtain rfl := Option.some.inj H
                  show R62 _ _
                  rw [hR62]
                  exact ⟨true, rfl, (hk.c 1 rfl (hk.c 4 rfl (hk.c 53 rfl hk.k))), (hs.pick [(3, 3)] rfl)⟩
                · have hk := hk.lit 44 c69 rfl
                  refine sf ⟨b2, 1, none⟩ rfl hk rfl rfl rfl fd67_1 rfl fun a hk => ?_
                  refine sl rfl hk rfl rfl rfl ag65 (box_cell hs (k := 3) rfl rfl) fun a hk => ?_
                  refine sm _ rfl hk rfl rfl rfl fun a hk => ?_
                  rcases ite_some H with ⟨c70, H⟩ | ⟨_, H⟩
                  rotate_left
                  · cases H
                  obtain ⟨b71, q72, hAc70⟩ := (v0_1).some_ u43 c70.1 c70.2
                  refine si rfl hk rfl rfl rfl rfl un65 sz129 c70.1 c70.2 hAc70 fun a hk => ?_
                  refine sf (padd A0_1 (u43.toNat * 2 + 1)) rfl hk rfl rfl rfl fd129_1 (padd_add _ _ _) fun a hk => ?_
                  obtain ⟨_, rfl, e73⟩ := (v0_1).at_ z_Io u43 c70.1 c70.2
                  refine sl (v := (.string ((x0.Unsure.getD u43.toNat z_Io).Data))) rfl hk rfl rfl rfl ag9 ((e73 1 _ rfl).cell (hs.hasD (k := 2) rfl)) fun a hk => ?_
                  refine sles rfl hk rfl rfl rfl un9 fun a hk => ?_
                  refine sv (.bool (decide ((((x0.Unsure.getD u43.toNat z_Io).Data).size : Int) > 700))) hk rfl rfl rfl fun a hk => ?_
                  refine sv (.bool (decide ((((x0.Unsure.getD u43.toNat z_Io).Data).size : Int) > 700))) hk rfl rfl rfl fun a hk => ?_
                  show wpList _ _ _ [] _ _
                  refine wpList_nil ?_
                  obtain rfl := Option.some.inj H
                  show R62 _ _
                  rw [hR62]
                  exact ⟨(decide ((((x0.Unsure.getD u43.toNat z_Io).Data).size : Int) > 700)), rfl, (hk.c 1 rfl (hk.c 4 rfl (hk.c 53 rfl hk.k))), (hs.pick [(3, 3)] rfl)⟩
              · intro a w hR0
                rw [hR62] at hR0
                obtain ⟨u58, rfl, hk, hs⟩ := hR0
                have H := HL61
                try dsimp only at H
                refine hK56 _ _ ?_
                rcases cond_some H with ⟨c74, H⟩ | ⟨c74, H⟩
                · have hk := hk.lit 53 c74 rfl
                  refine cnd_true hk rfl rfl ?_
                  apply wp_seq_k; intro K75 hK75
                  apply wp_region_lit
                  refine sa _ rfl hk rfl rfl rfl fun a hk => ?_
                  show wpList _ _ _ [] _ _
                  refine wpList_nil ?_
                  refine hK75 _ _ ?_
                  refine wp_ret ?_
                  obtain rfl := Option.some.inj H
                  have ho44 := h51
                  try dsimp only at ho44
                  subst ho44
                  have H := HL46
                  try dsimp only at H
                  obtain rfl := Option.some.inj H
                  exact fin hk _ [(.bool false)] rfl ⟨rfl, trivial⟩ ⟨rfl, (hs.pick [] rfl).dnil⟩
                · have hk := hk.lit 53 c74 rfl
                  refine cnd_false hk rfl rfl ?_
                  refine wp_skip ?_
                  refine hK55 _ _ ?_
                  apply wp_region_lit
                  refine sm _ rfl hk rfl rfl rfl fun a hk => ?_
                  refine sv (.int .i64 (w64 (u43 + 1))) hk rfl rfl rfl fun a hk => ?_
                  refine sa _ rfl hk rfl rfl rfl fun a hk => ?_
                  show wpList _ _ _ [] _ _
                  refine wpList_nil ?_
                  obtain rfl := Option.some.inj H
                  obtain ⟨m76, hmm76, h51⟩ := h51
                  show ∃ n', n' < _ ∧ I48 n' _ _
                  refine ⟨m76, hmm76, ?_⟩
                  rw [hI48]
                  exact ⟨(w64 (u43 + 1)), h51, (hk.c 1 rfl (hk.c 4 rfl hk.k)), (hs.pick [(3, 3)] rfl)⟩
            · have hk := hk.lit 33 c54 rfl
              refine cnd_false hk rfl rfl ?_
              refine wp_exit ?_
              obtain rfl := Option.some.inj H
              show R47 _ _
              rw [hR47]
              exact ⟨h51.symm, hk.k, (hs.pick [] rfl)⟩
        · intro a w hR0
          rw [hR47] at hR0
          obtain ⟨rfl, hk, hs⟩ := hR0
          have H := HL46
          try dsimp only at H
          refine hK39 _ _ ?_
          apply wp_seq_k; intro K77 hK77
          apply wp_region_lit
          refine sa _ rfl hk rfl rfl rfl fun a hk => ?_
          show wpList _ _ _ [] _ _
          refine wpList_nil ?_
          refine hK77 _ _ ?_
          refine wp_ret ?_
          obtain rfl := Option.some.inj H
          exact fin hk _ [(.bool true)] rfl ⟨rfl, trivial⟩ ⟨rfl, (hs.pick [] rfl).dnil⟩

noncomputable def spec_l05Flip.f (x0 : S_Device) (x1 : Int) (x2 : Int) (x3 : Int) : Option (S_Device) :=
  ((spec_l05Own.f x0).bind fun y5 => (if 0 ≤ x1 ∧ x1 < (y5.Sure.length : Int) then (if (y5.Sure.getD x1.toNat ByteArray.empty).size ≤ 1073741824 then (if 0 ≤ x2 ∧ x2 < ((bytesOf (y5.Sure.getD x1.toNat ByteArray.empty)).length : Int) then (if 0 ≤ x2 ∧ x2 < ((bytesOf (y5.Sure.getD x1.toNat ByteArray.empty)).length : Int) then (if 0 ≤ x1 ∧ x1 < (y5.Sure.length : Int) then (some (⟨(y5.Sure.set x1.toNat (strOfNums ((bytesOf (y5.Sure.getD x1.toNat ByteArray.empty)).set x2.toNat (IntKind.wrap .u8 ((BitVec.ofInt 8 ((bytesOf (y5.Sure.getD x1.toNat ByteArray.empty)).getD x2.toNat 0) ^^^ BitVec.ofInt 8 (IntKind.wrap .u8 x3)).toNat : Int))))), y5.Unsure⟩ : S_Device)) else none) else none) else none) else none) else none))
set_option maxRecDepth 100000 in
set_option maxHeartbeats 0 in
theorem spec_l05Flip_t (w0 : World) (x0 : S_Device) (A0_0 : Option Addr) (p0_0 : Nat) (k0_0 : Chunk) (v0_0 : View Lay.str A0_0 p0_0 x0.Sure k0_0) (w0_0 : Has w0 k0_0) (A0_1 : Option Addr) (p0_1 : Nat) (k0_1 : Chunk) (v0_1 : View L_Io A0_1 p0_1 x0.Unsure k0_1) (w0_1 : Has w0 k0_1) (x1 : Int) (x2 : Int) (x3 : Int) (r : S_Device) (H : spec_l05Flip.f x0 x1 x2 x3 = some r) :
    Calls Try.prog 106 #[.agg #[.slice A0_0 x0.Sure.length p0_0, .slice A0_1 x0.Unsure.length p0_1], .int .i64 x1, .int .i64 x2, .int .i64 x3] w0 (Ret (fun v w => ∃ (A0 : Option Addr) (p0 : Nat) (k0 : Chunk), ∃ (A1 : Option Addr) (p1 : Nat) (k1 : Chunk), v = .agg #[.slice A0 r.Sure.length p0, .slice A1 r.Unsure.length p1] ∧ Own Lay.str 9 A0 p0 r.Sure k0 ∧ Own L_Io 129 A1 p1 r.Unsure k1 ∧ Sat [] w0 w [] [(0, k0), (1, k1)])) := by
  have hs : Sat [] w0 w0 [(1, k0_0), (2, k0_1)] [] := Sat.init w0 [(1, k0_0), (2, k0_1)] [] (by simp only [List.mem_cons, List.not_mem_nil, or_false]; rintro x (rfl | rfl) <;> assumption) (by simp) List.nodup_nil (by simp [blks])
  unfold spec_l05Flip.f at H
  refine enter Try.func106 rfl Try.ntmps106 rfl fun a hk => ?_
  apply wp_seq_k; intro K1 hK1
  apply wp_region_lit
  refine sbx 3 hs rfl hk rfl rfl rfl rfl fun b2 w a hk hs => ?_
  refine salx 4 hs rfl hk rfl rfl ze67 rfl fun b3 w a hk hs => ?_
  show wpList _ _ _ [] _ _
  refine wpList_nil ?_
  refine hK1 _ _ ?_
  apply wp_seq_k; intro K4 hK4
  apply wp_region_lit
  refine sln [.slice A0_0 x0.Sure.length p0_0, .slice A0_1 x0.Unsure.length p0_1] rfl hk rfl rfl rfl ag67 sz67 (box_cells hs (k := 3) rfl) fun a hk => ?_
  obtain ⟨y5, h6, H⟩ := bind_some H
  refine sc rfl en105 hk rfl rfl rfl (spec_l05Own_t _ x0 A0_0 p0_0 _ v0_0 (hs.hasD (k := 1) rfl) A0_1 p0_1 _ v0_1 (hs.hasD (k := 2) rfl) _ h6) ?_
  rintro _ w ⟨A7, p8, k9, A11, p12, k13, rfl, o10, o14, hG⟩ a hk
  have hs := hs.call0k hG [5, 6] rfl
  refine ssw 3 hs rfl rfl hk rfl rfl rfl rfl sz67 (by simp [Value.oneCell']) rfl fun w a hk hs => ?_
  show wpList _ _ _ [] _ _
  refine wpList_nil ?_
  refine hK4 _ _ ?_
  apply wp_seq_k; intro K15 hK15
  apply wp_region_lit
  refine sf ⟨b2, 0, none⟩ rfl hk rfl rfl rfl fd67_0 rfl fun a hk => ?_
  refine sl rfl hk rfl rfl rfl ag64 (box_cell hs (k := 3) rfl rfl) fun a hk => ?_
  refine sm _ rfl hk rfl rfl rfl fun a hk => ?_
  rcases ite_some H with ⟨c16, H⟩ | ⟨_, H⟩
  rotate_left
  · cases H
  obtain ⟨b17, q18, hAc16⟩ := (o10.view).some_ x1 c16.1 c16.2
  refine si rfl hk rfl rfl rfl rfl un64 sz9 c16.1 c16.2 hAc16 fun a hk => ?_
  obtain ⟨_, rfl, e19⟩ := (o10.view).at_ ByteArray.empty x1 c16.1 c16.2
  refine sl (v := (.string (y5.Sure.getD x1.toNat ByteArray.empty))) rfl hk rfl rfl rfl ag9 ((e19 0 _ rfl).cell (hs.hasG (k := 5) rfl)) fun a hk => ?_
  rcases ite_some H with ⟨c20, H⟩ | ⟨_, H⟩
  rotate_left
  · cases H
  refine scb 7 hs rfl hk rfl rfl rfl un9 un55 un5 c20 fun b21 p22 k23 w a hk o24 hs => ?_
  refine sa _ rfl hk rfl rfl rfl fun a hk => ?_
  show wpList _ _ _ [] _ _
  refine wpList_nil ?_
  refine hK15 _ _ ?_
  apply wp_seq_k; intro K25 hK25
  apply wp_region_lit
  refine sm _ rfl hk rfl rfl rfl fun a hk => ?_
  refine sm _ rfl hk rfl rfl rfl fun a hk => ?_
  rcases ite_some H with ⟨c26, H⟩ | ⟨_, H⟩
  rotate_left
  · cases H
  obtain ⟨b27, q28, hAc26⟩ := (o24.view).some_ x2 c26.1 c26.2
  refine si rfl hk rfl rfl rfl rfl un55 sz5 c26.1 c26.2 hAc26 fun a hk => ?_
  obtain ⟨_, rfl, e29⟩ := (o24.view).at_ 0 x2 c26.1 c26.2
  refine sl (v := (.int .u8 ((bytesOf (y5.Sure.getD x1.toNat ByteArray.empty)).getD x2.toNat 0))) rfl hk rfl rfl rfl ag5 ((e29 0 _ rfl).cell (hs.hasG (k := 7) rfl)) fun a hk => ?_
  refine sm _ rfl hk rfl rfl rfl fun a hk => ?_
  refine scn rfl hk rfl rfl rfl un5 un3 fun a hk => ?_
  refine sv (.int .u8 (IntKind.wrap .u8 ((BitVec.ofInt 8 ((bytesOf (y5.Sure.getD x1.toNat ByteArray.empty)).getD x2.toNat 0) ^^^ BitVec.ofInt 8 (IntKind.wrap .u8 x3)).toNat : Int))) hk rfl rfl rfl fun a hk => ?_
  rcases ite_some H with ⟨c30, H⟩ | ⟨_, H⟩
  rotate_left
  · cases H
  obtain ⟨b31, q32, hAc30⟩ := (o24.view).some_ x2 c30.1 c30.2
  refine si rfl hk rfl rfl rfl rfl un55 sz5 c30.1 c30.2 hAc30 fun a hk => ?_
  refine sob 7 (IntKind.wrap .u8 ((BitVec.ofInt 8 ((bytesOf (y5.Sure.getD x1.toNat ByteArray.empty)).getD x2.toNat 0) ^^^ BitVec.ofInt 8 (IntKind.wrap .u8 x3)).toNat : Int)) hs rfl o24 c30.1 c30.2 rfl hk rfl rfl rfl rfl rfl sz5 rfl rfl rfl ⟨rfl, rfl⟩ fun k33 w a hk o34 hs => ?_
  have lh35 : ((bytesOf (y5.Sure.getD x1.toNat ByteArray.empty)).set x2.toNat (IntKind.wrap .u8 ((BitVec.ofInt 8 ((bytesOf (y5.Sure.getD x1.toNat ByteArray.empty)).getD x2.toNat 0) ^^^ BitVec.ofInt 8 (IntKind.wrap .u8 x3)).toNat : Int))).length = (bytesOf (y5.Sure.getD x1.toNat ByteArray.empty)).length := by rw [List.length_set]
  show wpList _ _ _ [] _ _
  refine wpList_nil ?_
  refine hK25 _ _ ?_
  apply wp_seq_k; intro K36 hK36
  apply wp_region_lit
  refine sf ⟨b2, 0, none⟩ rfl hk rfl rfl rfl fd67_0 rfl fun a hk => ?_
  refine sl rfl hk rfl rfl rfl ag64 (box_cell hs (k := 3) rfl rfl) fun a hk => ?_
  refine sm _ rfl hk rfl rfl rfl fun a hk => ?_
  refine sm _ rfl hk rfl rfl rfl fun a hk => ?_
  refine sbt (xs := ((bytesOf (y5.Sure.getD x1.toNat ByteArray.empty)).set x2.toNat (IntKind.wrap .u8 ((BitVec.ofInt 8 ((bytesOf (y5.Sure.getD x1.toNat ByteArray.empty)).getD x2.toNat 0) ^^^ BitVec.ofInt 8 (IntKind.wrap .u8 x3)).toNat : Int)))) rfl hk rfl rfl lh35.symm rfl un55 un5 un9 o34.view (hs.hasG (k := 7) rfl) fun a hk => ?_
  rcases ite_some H with ⟨c37, H⟩ | ⟨_, H⟩
  rotate_left
  · cases H
  obtain ⟨b38, q39, hAc37⟩ := (o10.view).some_ x1 c37.1 c37.2
  refine si rfl hk rfl rfl rfl rfl un64 sz9 c37.1 c37.2 hAc37 fun a hk => ?_
  refine so (j := 0) 5 ByteArray.empty (strOfNums ((bytesOf (y5.Sure.getD x1.toNat ByteArray.empty)).set x2.toNat (IntKind.wrap .u8 ((BitVec.ofInt 8 ((bytesOf (y5.Sure.getD x1.toNat ByteArray.empty)).getD x2.toNat 0) ^^^ BitVec.ofInt 8 (IntKind.wrap .u8 x3)).toNat : Int)))) hs rfl o10 c37.1 c37.2 rfl hk rfl rfl rfl rfl rfl sz9 (by simp [Value.cells, Value.oneCell']) (Nat.le_of_ble_eq_true rfl) (fun _ _ h => ⟨by rw [h.1]; rfl, h.2⟩) fun k40 w a hk o41 hs => ?_
  have lh42 : (y5.Sure.set x1.toNat (strOfNums ((bytesOf (y5.Sure.getD x1.toNat ByteArray.empty)).set x2.toNat (IntKind.wrap .u8 ((BitVec.ofInt 8 ((bytesOf (y5.Sure.getD x1.toNat ByteArray.empty)).getD x2.toNat 0) ^^^ BitVec.ofInt 8 (IntKind.wrap .u8 x3)).toNat : Int))))).length = y5.Sure.length := by rw [List.length_set]
  show wpList _ _ _ [] _ _
  refine wpList_nil ?_
  refine hK36 _ _ ?_
  apply wp_seq_k; intro K43 hK43
  apply wp_region_lit
  refine sln [.slice A7 y5.Sure.length p8, .slice A11 y5.Unsure.length p12] rfl hk rfl rfl rfl ag67 sz67 (box_cells hs (k := 3) rfl) fun a hk => ?_
  refine ssw 4 hs rfl rfl hk rfl rfl rfl rfl sz67 (by simp [Value.oneCell']) rfl fun w a hk hs => ?_
  show wpList _ _ _ [] _ _
  refine wpList_nil ?_
  refine hK43 _ _ ?_
  refine wp_ret ?_
  obtain rfl := Option.some.inj H
  exact fin hk _ [(.agg #[.slice A7 y5.Sure.length p8, .slice A11 y5.Unsure.length p12])] rfl ⟨⟨_, rfl, run_loadN ag67 sz67 (box_cells hs (k := 4) rfl)⟩, trivial⟩ ⟨A7, p8, _, A11, p12, _, (by first | (rw [lh42]; done) | (rw [lh42]; rfl)), o41, o14, (hs.pick [(0, 5), (1, 6)] rfl).dnil⟩

noncomputable def spec_FlipAt.f (x0 : S_Device) (x1 : Int) (x2 : Int) (x3 : Int) : Option (S_Device × Int) :=
  ((spec_DeviceOK.f x0).bind fun y6 => (bif (!y6) then (some ((⟨([] : List ByteArray), ([] : List S_Io)⟩ : S_Device), 1)) else ((((spec_l05In.f x1).bind fun y18 => (bif (!y18) then (some true) else ((spec_l01In.f x3 1 255).bind fun y21 => (some (!y21))))) : Option (Bool)).bind fun u13 => (bif u13 then (some ((⟨([] : List ByteArray), ([] : List S_Io)⟩ : S_Device), 4)) else (if 0 ≤ x1 ∧ x1 < (x0.Sure.length : Int) then ((spec_l01In.f x2 0 (w64 (((x0.Sure.getD x1.toNat ByteArray.empty).size : Int) - 1))).bind fun y31 => (bif (!y31) then ((spec_l05Own.f x0).bind fun y35 => (some (y35, 5))) else ((spec_l05Flip.f x0 x1 x2 x3).bind fun y46 => (some (y46, 0))))) else none)))))
set_option maxRecDepth 100000 in
set_option maxHeartbeats 0 in
theorem spec_FlipAt_t (w0 : World) (x0 : S_Device) (A0_0 : Option Addr) (p0_0 : Nat) (k0_0 : Chunk) (v0_0 : View Lay.str A0_0 p0_0 x0.Sure k0_0) (w0_0 : Has w0 k0_0) (A0_1 : Option Addr) (p0_1 : Nat) (k0_1 : Chunk) (v0_1 : View L_Io A0_1 p0_1 x0.Unsure k0_1) (w0_1 : Has w0 k0_1) (x1 : Int) (x2 : Int) (x3 : Int) (r : S_Device × Int) (H : spec_FlipAt.f x0 x1 x2 x3 = some r) :
    Calls Try.prog 49 #[.agg #[.slice A0_0 x0.Sure.length p0_0, .slice A0_1 x0.Unsure.length p0_1], .int .i64 x1, .int .i64 x2, .int .i64 x3] w0 (Ret (fun v w => ∃ (A0 : Option Addr) (p0 : Nat) (k0 : Chunk), ∃ (A1 : Option Addr) (p1 : Nat) (k1 : Chunk), v = .tuple #[.agg #[.slice A0 r.1.Sure.length p0, .slice A1 r.1.Unsure.length p1], .int .i64 r.2] ∧ Own Lay.str 9 A0 p0 r.1.Sure k0 ∧ Own L_Io 129 A1 p1 r.1.Unsure k1 ∧ Sat [] w0 w [] [(0, k0), (1, k1)])) := by
  have hs : Sat [] w0 w0 [(1, k0_0), (2, k0_1)] [] := Sat.init w0 [(1, k0_0), (2, k0_1)] [] (by simp only [List.mem_cons, List.not_mem_nil, or_false]; rintro x (rfl | rfl) <;> assumption) (by simp) List.nodup_nil (by simp [blks])
  unfold spec_FlipAt.f at H
  refine enter Try.func49 rfl Try.ntmps49 rfl fun a hk => ?_
  apply wp_seq_k; intro K1 hK1
  apply wp_region_lit
  refine sbx 3 hs rfl hk rfl rfl rfl rfl fun b2 w a hk hs => ?_
  refine salx 4 hs rfl hk rfl rfl ze67 rfl fun b3 w a hk hs => ?_
  refine sa _ rfl hk rfl rfl rfl fun a hk => ?_
  show wpList _ _ _ [] _ _
  refine wpList_nil ?_
  refine hK1 _ _ ?_
  apply wp_seq_k; intro K4 hK4
  apply wp_seq_k; intro K5 hK5
  apply wp_region_lit
  refine sln [.slice A0_0 x0.Sure.length p0_0, .slice A0_1 x0.Unsure.length p0_1] rfl hk rfl rfl rfl ag67 sz67 (box_cells hs (k := 3) rfl) fun a hk => ?_
  obtain ⟨y6, h7, H⟩ := bind_some H
  refine sc rfl en96 hk rfl rfl rfl (spec_DeviceOK_t _ x0 A0_0 p0_0 _ v0_0 (hs.hasD (k := 1) rfl) A0_1 p0_1 _ v0_1 (hs.hasD (k := 2) rfl) _ h7) ?_
  rintro _ w ⟨rfl, hG⟩ a hk
  have hs := hs.call0 hG
  refine sv (.bool (!y6)) hk rfl rfl rfl fun a hk => ?_
  show wpList _ _ _ [] _ _
  refine wpList_nil ?_
  refine hK5 _ _ ?_
  rcases cond_some H with ⟨c8, H⟩ | ⟨c8, H⟩
  · have hk := hk.lit 12 c8 rfl
    refine cnd_true hk rfl rfl ?_
    apply wp_seq_k; intro K9 hK9
    apply wp_region_lit
    refine sbd (pv := []) rfl hk rfl rfl rfl bd67_7 fun a hk => ?_
    refine ssw 4 hs rfl rfl hk rfl rfl rfl rfl sz67 (by simp [Value.oneCell']) rfl fun w a hk hs => ?_
    refine sa _ rfl hk rfl rfl rfl fun a hk => ?_
    show wpList _ _ _ [] _ _
    refine wpList_nil ?_
    refine hK9 _ _ ?_
    refine wp_ret ?_
    obtain rfl := Option.some.inj H
    have hs := hs.addNil 5
    have hs := hs.addNil 6
    exact fin hk _ [(.agg #[.slice none 0 0, .slice none 0 0]), (.int .i64 1)] rfl ⟨⟨_, rfl, run_loadN ag67 sz67 (box_cells hs (k := 4) rfl)⟩, ⟨rfl, trivial⟩⟩ ⟨none, 0, [], none, 0, [], rfl, Own.nil _ _, Own.nil _ _, (hs.pick [(0, 5), (1, 6)] rfl).dnil⟩
  · have hk := hk.lit 12 c8 rfl
    refine cnd_false hk rfl rfl ?_
    refine wp_skip ?_
    refine hK4 _ _ ?_
    apply wp_seq_k; intro K10 hK10
    apply wp_seq_k; intro K11 hK11
    obtain ⟨o14, h15, HL16⟩ := bind_some H
    clear H
    obtain ⟨R17, hR17⟩ : ∃ R : Act → World → Prop, R = fun a w => ∃ (u13 : Bool), u13 = o14 ∧ Kn [(1, (.int .i64 x1)), (2, (.int .i64 x2)), (3, (.int .i64 x3)), (4, (.pointer (some ⟨b2, 0, none⟩))), (8, (.pointer (some ⟨b3, 0, none⟩))), (21, (.bool u13))] 40 a ∧ Sat [] w0 w [(1, k0_0), (2, k0_1)] [(3, [(b2, .cells #[.slice A0_0 x0.Sure.length p0_0, .slice A0_1 x0.Unsure.length p0_1] 67 (0, 0))]), (4, [(b3, .cells #[.slice none 0 0, .slice none 0 0] 67 (0, 0))])] := ⟨_, rfl⟩
    refine wp_cutq R17 ?_ ?_
    · have H := h15
      apply wp_region_lit
      refine sm _ rfl hk rfl rfl rfl fun a hk => ?_
      obtain ⟨y18, h19, H⟩ := bind_some H
      refine sc rfl en103 hk rfl rfl rfl (spec_l05In_t _ x1 _ h19) ?_
      rintro _ w ⟨rfl, hG⟩ a hk
      have hs := hs.call0 hG
      refine sv (.bool (!y18)) hk rfl rfl rfl fun a hk => ?_
      refine sm _ rfl hk rfl rfl rfl fun a hk => ?_
      rcases cond_some H with ⟨c20, H⟩ | ⟨c20, H⟩
      · have hk := hk.lit 17 c20 rfl
        refine sk hk rfl rfl rfl fun a hk => ?_
        refine sk hk rfl rfl rfl fun a hk => ?_
        refine sk hk rfl rfl rfl fun a hk => ?_
        refine sv (.bool true) hk rfl rfl rfl fun a hk => ?_
        show wpList _ _ _ [] _ _
        refine wpList_nil ?_
        obtain rfl := Option.some.inj H
        show R17 _ _
        rw [hR17]
        exact ⟨true, rfl, (hk.c 1 rfl (hk.c 2 rfl (hk.c 3 rfl (hk.c 4 rfl (hk.c 8 rfl (hk.c 21 rfl hk.k)))))), (hs.pick [(3, 3), (4, 4)] rfl)⟩
      · have hk := hk.lit 17 c20 rfl
        refine sm _ rfl hk rfl rfl rfl fun a hk => ?_
        obtain ⟨y21, h22, H⟩ := bind_some H
        refine sc rfl en104 hk rfl rfl rfl (spec_l01In_t _ x3 1 255 _ h22) ?_
        rintro _ w ⟨rfl, hG⟩ a hk
        have hs := hs.call0 hG
        refine sv (.bool (!y21)) hk rfl rfl rfl fun a hk => ?_
        refine sv (.bool (!y21)) hk rfl rfl rfl fun a hk => ?_
        show wpList _ _ _ [] _ _
        refine wpList_nil ?_
        obtain rfl := Option.some.inj H
        show R17 _ _
        rw [hR17]
        exact ⟨(!y21), rfl, (hk.c 1 rfl (hk.c 2 rfl (hk.c 3 rfl (hk.c 4 rfl (hk.c 8 rfl (hk.c 21 rfl hk.k)))))), (hs.pick [(3, 3), (4, 4)] rfl)⟩
    · intro a w hR0
      rw [hR17] at hR0
      obtain ⟨u13, rfl, hk, hs⟩ := hR0
      have H := HL16
      try dsimp only at H
      refine hK11 _ _ ?_
      rcases cond_some H with ⟨c23, H⟩ | ⟨c23, H⟩
      · have hk := hk.lit 21 c23 rfl
        refine cnd_true hk rfl rfl ?_
        apply wp_seq_k; intro K24 hK24
        apply wp_region_lit
        refine sbd (pv := []) rfl hk rfl rfl rfl bd67_7 fun a hk => ?_
        refine ssw 4 hs rfl rfl hk rfl rfl rfl rfl sz67 (by simp [Value.oneCell']) rfl fun w a hk hs => ?_
        refine sa _ rfl hk rfl rfl rfl fun a hk => ?_
        show wpList _ _ _ [] _ _
        refine wpList_nil ?_
        refine hK24 _ _ ?_
        refine wp_ret ?_
        obtain rfl := Option.some.inj H
        have hs := hs.addNil 8
        have hs := hs.addNil 9
        exact fin hk _ [(.agg #[.slice none 0 0, .slice none 0 0]), (.int .i64 4)] rfl ⟨⟨_, rfl, run_loadN ag67 sz67 (box_cells hs (k := 4) rfl)⟩, ⟨rfl, trivial⟩⟩ ⟨none, 0, [], none, 0, [], rfl, Own.nil _ _, Own.nil _ _, (hs.pick [(0, 8), (1, 9)] rfl).dnil⟩
      · have hk := hk.lit 21 c23 rfl
        refine cnd_false hk rfl rfl ?_
        refine wp_skip ?_
        refine hK10 _ _ ?_
        apply wp_seq_k; intro K25 hK25
        apply wp_seq_k; intro K26 hK26
        apply wp_region_lit
        refine sm _ rfl hk rfl rfl rfl fun a hk => ?_
        refine sf ⟨b2, 0, none⟩ rfl hk rfl rfl rfl fd67_0 rfl fun a hk => ?_
        refine sl rfl hk rfl rfl rfl ag64 (box_cell hs (k := 3) rfl rfl) fun a hk => ?_
        refine sm _ rfl hk rfl rfl rfl fun a hk => ?_
        rcases ite_some H with ⟨c27, H⟩ | ⟨_, H⟩
        rotate_left
        · cases H
        obtain ⟨b28, q29, hAc27⟩ := (v0_0).some_ x1 c27.1 c27.2
        refine si rfl hk rfl rfl rfl rfl un64 sz9 c27.1 c27.2 hAc27 fun a hk => ?_
        obtain ⟨_, rfl, e30⟩ := (v0_0).at_ ByteArray.empty x1 c27.1 c27.2
        refine sl (v := (.string (x0.Sure.getD x1.toNat ByteArray.empty))) rfl hk rfl rfl rfl ag9 ((e30 0 _ rfl).cell (hs.hasD (k := 1) rfl)) fun a hk => ?_
        refine sles rfl hk rfl rfl rfl un9 fun a hk => ?_
        refine sv (.int .i64 (w64 (((x0.Sure.getD x1.toNat ByteArray.empty).size : Int) - 1))) hk rfl rfl rfl fun a hk => ?_
        obtain ⟨y31, h32, H⟩ := bind_some H
        refine sc rfl en104 hk rfl rfl rfl (spec_l01In_t _ x2 0 (w64 (((x0.Sure.getD x1.toNat ByteArray.empty).size : Int) - 1)) _ h32) ?_
        rintro _ w ⟨rfl, hG⟩ a hk
        have hs := hs.call0 hG
        refine sv (.bool (!y31)) hk rfl rfl rfl fun a hk => ?_
        show wpList _ _ _ [] _ _
        refine wpList_nil ?_
        refine hK26 _ _ ?_
        rcases cond_some H with ⟨c33, H⟩ | ⟨c33, H⟩
        · have hk := hk.lit 32 c33 rfl
          refine cnd_true hk rfl rfl ?_
          apply wp_seq_k; intro K34 hK34
          apply wp_region_lit
          refine sln [.slice A0_0 x0.Sure.length p0_0, .slice A0_1 x0.Unsure.length p0_1] rfl hk rfl rfl rfl ag67 sz67 (box_cells hs (k := 3) rfl) fun a hk => ?_
          obtain ⟨y35, h36, H⟩ := bind_some H
          refine sc rfl en105 hk rfl rfl rfl (spec_l05Own_t _ x0 A0_0 p0_0 _ v0_0 (hs.hasD (k := 1) rfl) A0_1 p0_1 _ v0_1 (hs.hasD (k := 2) rfl) _ h36) ?_
          rintro _ w ⟨A37, p38, k39, A41, p42, k43, rfl, o40, o44, hG⟩ a hk
          have hs := hs.call0k hG [10, 11] rfl
          refine ssw 4 hs rfl rfl hk rfl rfl rfl rfl sz67 (by simp [Value.oneCell']) rfl fun w a hk hs => ?_
          refine sa _ rfl hk rfl rfl rfl fun a hk => ?_
          show wpList _ _ _ [] _ _
          refine wpList_nil ?_
          refine hK34 _ _ ?_
          refine wp_ret ?_
          obtain rfl := Option.some.inj H
          exact fin hk _ [(.agg #[.slice A37 y35.Sure.length p38, .slice A41 y35.Unsure.length p42]), (.int .i64 5)] rfl ⟨⟨_, rfl, run_loadN ag67 sz67 (box_cells hs (k := 4) rfl)⟩, ⟨rfl, trivial⟩⟩ ⟨A37, p38, _, A41, p42, _, rfl, o40, o44, (hs.pick [(0, 10), (1, 11)] rfl).dnil⟩
        · have hk := hk.lit 32 c33 rfl
          refine cnd_false hk rfl rfl ?_
          refine wp_skip ?_
          refine hK25 _ _ ?_
          apply wp_seq_k; intro K45 hK45
          apply wp_region_lit
          refine sln [.slice A0_0 x0.Sure.length p0_0, .slice A0_1 x0.Unsure.length p0_1] rfl hk rfl rfl rfl ag67 sz67 (box_cells hs (k := 3) rfl) fun a hk => ?_
          refine sm _ rfl hk rfl rfl rfl fun a hk => ?_
          refine sm _ rfl hk rfl rfl rfl fun a hk => ?_
          refine sm _ rfl hk rfl rfl rfl fun a hk => ?_
          obtain ⟨y46, h47, H⟩ := bind_some H
          refine sc rfl en106 hk rfl rfl rfl (spec_l05Flip_t _ x0 A0_0 p0_0 _ v0_0 (hs.hasD (k := 1) rfl) A0_1 p0_1 _ v0_1 (hs.hasD (k := 2) rfl) x1 x2 x3 _ h47) ?_
          rintro _ w ⟨A48, p49, k50, A52, p53, k54, rfl, o51, o55, hG⟩ a hk
          have hs := hs.call0k hG [12, 13] rfl
          refine ssw 4 hs rfl rfl hk rfl rfl rfl rfl sz67 (by simp [Value.oneCell']) rfl fun w a hk hs => ?_
          refine sa _ rfl hk rfl rfl rfl fun a hk => ?_
          show wpList _ _ _ [] _ _
          refine wpList_nil ?_
          refine hK45 _ _ ?_
          refine wp_ret ?_
          obtain rfl := Option.some.inj H
          exact fin hk _ [(.agg #[.slice A48 y46.Sure.length p49, .slice A52 y46.Unsure.length p53]), (.int .i64 0)] rfl ⟨⟨_, rfl, run_loadN ag67 sz67 (box_cells hs (k := 4) rfl)⟩, ⟨rfl, trivial⟩⟩ ⟨A48, p49, _, A52, p53, _, rfl, o51, o55, (hs.pick [(0, 12), (1, 13)] rfl).dnil⟩

noncomputable def slices_Equal_string_string.s0 (l0 : List ByteArray) (l1 : List ByteArray) (u10 : Int) : Option ((Int) ⊕ Ex (Unit) (Bool)) :=
  (bif (decide (u10 < (l0.length : Int))) then (if 0 ≤ u10 ∧ u10 < (l0.length : Int) then (if 0 ≤ u10 ∧ u10 < (l1.length : Int) then (bif (!((l0.getD u10.toNat ByteArray.empty).toList == (l1.getD u10.toNat ByteArray.empty).toList)) then (some (.inr (.ret false))) else (some (.inl (w64 (u10 + 1))))) else none) else none) else (some (.inr (.out ()))))
noncomputable def slices_Equal_string_string.f (l0 : List ByteArray) (l1 : List ByteArray) : Option (Bool) :=
  (bif ((l0.length : Int) != (l1.length : Int)) then (some false) else ((loopO (fun s => slices_Equal_string_string.s0 l0 l1 s) 0).bind fun o => match o with | .out _ => (some true) | .ret r => (some r)))
set_option maxRecDepth 100000 in
set_option maxHeartbeats 0 in
theorem slices_Equal_string_string_t (w0 : World) (A0_ : Option Addr) (p0_ : Nat) (l0 : List ByteArray) (k0_ : Chunk) (v0_ : View Lay.str A0_ p0_ l0 k0_) (w0_ : Has w0 k0_) (A1_ : Option Addr) (p1_ : Nat) (l1 : List ByteArray) (k1_ : Chunk) (v1_ : View Lay.str A1_ p1_ l1 k1_) (w1_ : Has w0 k1_) (r : Bool) (H : slices_Equal_string_string.f l0 l1 = some r) :
    Calls Try.prog 107 #[.slice A0_ l0.length p0_, .slice A1_ l1.length p1_] w0 (Ret (fun v w => v = .bool r ∧ Sat [] w0 w [] [])) := by
  have hs : Sat [] w0 w0 [(1, k0_), (2, k1_)] [] := Sat.init w0 [(1, k0_), (2, k1_)] [] (by simp only [List.mem_cons, List.not_mem_nil, or_false]; rintro x (rfl | rfl) <;> assumption) (by simp) List.nodup_nil (by simp [blks])
  unfold slices_Equal_string_string.f at H
  refine enter Try.func107 rfl Try.ntmps107 rfl fun a hk => ?_
  apply wp_seq_k; intro K1 hK1
  apply wp_region_lit
  refine sa _ rfl hk rfl rfl rfl fun a hk => ?_
  show wpList _ _ _ [] _ _
  refine wpList_nil ?_
  refine hK1 _ _ ?_
  apply wp_seq_k; intro K2 hK2
  apply wp_seq_k; intro K3 hK3
  apply wp_region_lit
  refine sm _ rfl hk rfl rfl rfl fun a hk => ?_
  refine sle rfl hk rfl rfl rfl un64 fun a hk => ?_
  refine sm _ rfl hk rfl rfl rfl fun a hk => ?_
  refine sle rfl hk rfl rfl rfl un64 fun a hk => ?_
  refine sv (.bool ((l0.length : Int) != (l1.length : Int))) hk rfl rfl rfl fun a hk => ?_
  show wpList _ _ _ [] _ _
  refine wpList_nil ?_
  refine hK3 _ _ ?_
  rcases cond_some H with ⟨c4, H⟩ | ⟨c4, H⟩
  · have hk := hk.lit 10 c4 rfl
    refine cnd_true hk rfl rfl ?_
    apply wp_seq_k; intro K5 hK5
    apply wp_region_lit
    refine sa _ rfl hk rfl rfl rfl fun a hk => ?_
    show wpList _ _ _ [] _ _
    refine wpList_nil ?_
    refine hK5 _ _ ?_
    refine wp_ret ?_
    obtain rfl := Option.some.inj H
    exact fin hk _ [(.bool false)] rfl ⟨rfl, trivial⟩ ⟨rfl, (hs.pick [] rfl).dnil⟩
  · have hk := hk.lit 10 c4 rfl
    refine cnd_false hk rfl rfl ?_
    refine wp_skip ?_
    refine hK2 _ _ ?_
    apply wp_seq_k; intro K6 hK6
    apply wp_seq_k; intro K7 hK7
    apply wp_region_lit
    refine sm _ rfl hk rfl rfl rfl fun a hk => ?_
    refine sle rfl hk rfl rfl rfl un64 fun a hk => ?_
    refine sm _ rfl hk rfl rfl rfl fun a hk => ?_
    show wpList _ _ _ [] _ _
    refine wpList_nil ?_
    refine hK7 _ _ ?_
    obtain ⟨o11, h12, HL13⟩ := bind_some H
    clear H
    obtain ⟨R14, hR14⟩ : ∃ R : Act → World → Prop, R = fun a w => o11 = .out () ∧ Kn [] 26 a ∧ Sat [] w0 w [(1, k0_), (2, k1_)] [] := ⟨_, rfl⟩
    refine wp_cutq R14 ?_ ?_
    · refine wp_block ?_
      obtain ⟨fu16, h12⟩ := loopO_some h12
      obtain ⟨I15, hI15⟩ : ∃ I : Nat → Act → World → Prop, I = fun fu a w => ∃ (u10 : Int), loopN (fun s => slices_Equal_string_string.s0 l0 l1 s) fu u10 = some o11 ∧ Kn [(0, (.slice A0_ l0.length p0_)), (1, (.slice A1_ l1.length p1_)), (12, (.int .i64 (l0.length : Int))), (13, (.int .i64 u10))] 26 a ∧ Sat [] w0 w [(1, k0_), (2, k1_)] [] := ⟨_, rfl⟩
      refine wp_loop_ghost I15 fu16 ?_ ?_
      · rw [hI15]
        exact ⟨0, h12, (hk.c 0 rfl (hk.c 1 rfl (hk.c 12 rfl (hk.c 13 rfl hk.k)))), (hs.pick [] rfl)⟩
      · clear h12 hk hs
        intro fu16 a w hI0
        rw [hI15] at hI0
        obtain ⟨u10, hi, hk, hs⟩ := hI0
        obtain ⟨x17, H, h18⟩ := loop_round hi
        try dsimp only at H
        unfold slices_Equal_string_string.s0 at H
        apply wp_seq_k; intro K19 hK19
        apply wp_region_lit
        refine sv (.bool (decide (u10 < (l0.length : Int)))) hk rfl rfl rfl fun a hk => ?_
        show wpList _ _ _ [] _ _
        refine wpList_nil ?_
        refine hK19 _ _ ?_
        apply wp_seq_k; intro K20 hK20
        rcases cond_some H with ⟨c21, H⟩ | ⟨c21, H⟩
        · have hk := hk.lit 14 c21 rfl
          refine cnd_true hk rfl rfl ?_
          refine wp_skip ?_
          refine hK20 _ _ ?_
          apply wp_seq_k; intro K22 hK22
          refine wp_block ?_
          apply wp_seq_k; intro K23 hK23
          apply wp_region_lit
          refine sm _ rfl hk rfl rfl rfl fun a hk => ?_
          refine sa _ rfl hk rfl rfl rfl fun a hk => ?_
          show wpList _ _ _ [] _ _
          refine wpList_nil ?_
          refine hK23 _ _ ?_
          apply wp_seq_k; intro K24 hK24
          refine wp_region_tree (.q 0 (.q 1 (.q 2 (.q 3 (.q 4 (.alt 5 (.alt 6 (.alt 7 (.alt 8 .done .stop) .stop) .stop) .stop)))))) mo (by kernel_rfl) (hs.pick [] rfl) fun _ => ?_
          have hs := hs.drew
          refine tqst (.slice A0_ l0.length p0_) hk rfl rfl rfl rfl (fun w hs => sm _ rfl hk rfl rfl rfl fun a hk => qe hk) fun a hk => ?_
          refine tqst (.int .i64 u10) hk rfl rfl rfl rfl (fun w hs => sm _ rfl hk rfl rfl rfl fun a hk => qe hk) fun a hk => ?_
          rcases ite_some H with ⟨c26, H⟩ | ⟨_, H⟩
          rotate_left
          · cases H
          obtain ⟨b27, q28, hAc26⟩ := (v0_).some_ u10 c26.1 c26.2
          refine tqst (.pointer (some (padd A0_ (u10.toNat * 1)))) hk rfl rfl rfl rfl (fun w hs => si rfl hk rfl rfl rfl rfl un64 sz9 c26.1 c26.2 hAc26 fun a hk => qe hk) fun a hk => ?_
          obtain ⟨_, rfl, e29⟩ := (v0_).at_ ByteArray.empty u10 c26.1 c26.2
          refine tqst (.string (l0.getD u10.toNat ByteArray.empty)) hk rfl rfl rfl rfl (fun w hs => sl (v := (.string (l0.getD u10.toNat ByteArray.empty))) rfl hk rfl rfl rfl ag9 ((e29 0 _ rfl).cell (hs.hasD (k := 1) rfl)) fun a hk => qe hk) fun a hk => ?_
          refine tqst (.slice A1_ l1.length p1_) hk rfl rfl rfl rfl (fun w hs => sm _ rfl hk rfl rfl rfl fun a hk => qe hk) fun a hk => ?_
          refine tsst hk rfl rfl (fun K_r25_5 hK_r25_5 w hF => ?_) wt_stop
          have hs := hs.f hF
          refine sm _ rfl hk rfl rfl rfl fun a hk => ?_
          refine se (hs.pick [] rfl) hk (hK_r25_5 _ _ ?_)
          refine tsst hk rfl rfl (fun K_r25_6 hK_r25_6 w hF => ?_) wt_stop
          have hs := hs.f hF
          rcases ite_some H with ⟨c30, H⟩ | ⟨_, H⟩
          rotate_left
          · cases H
          obtain ⟨b31, q32, hAc30⟩ := (v1_).some_ u10 c30.1 c30.2
          refine si rfl hk rfl rfl rfl rfl un64 sz9 c30.1 c30.2 hAc30 fun a hk => ?_
          refine se (hs.pick [] rfl) hk (hK_r25_6 _ _ ?_)
          refine tsst hk rfl rfl (fun K_r25_7 hK_r25_7 w hF => ?_) wt_stop
          have hs := hs.f hF
          obtain ⟨_, rfl, e33⟩ := (v1_).at_ ByteArray.empty u10 c30.1 c30.2
          refine sl (v := (.string (l1.getD u10.toNat ByteArray.empty))) rfl hk rfl rfl rfl ag9 ((e33 0 _ rfl).cell (hs.hasD (k := 2) rfl)) fun a hk => ?_
          refine se (hs.pick [] rfl) hk (hK_r25_7 _ _ ?_)
          refine tsst hk rfl rfl (fun K_r25_8 hK_r25_8 w hF => ?_) wt_stop
          have hs := hs.f hF
          refine sv (.bool (!((l0.getD u10.toNat ByteArray.empty).toList == (l1.getD u10.toNat ByteArray.empty).toList))) hk rfl rfl rfl fun a hk => ?_
          refine se (hs.pick [] rfl) hk (hK_r25_8 _ _ ?_)
          refine wtl_nil fun w hF _ => ?_
          have hs := hs.f hF
          refine hK24 _ _ ?_
          rcases cond_some H with ⟨c34, H⟩ | ⟨c34, H⟩
          · have hk := hk.lit 24 c34 rfl
            refine cnd_true hk rfl rfl ?_
            apply wp_seq_k; intro K35 hK35
            apply wp_region_lit
            refine sa _ rfl hk rfl rfl rfl fun a hk => ?_
            show wpList _ _ _ [] _ _
            refine wpList_nil ?_
            refine hK35 _ _ ?_
            refine wp_ret ?_
            obtain rfl := Option.some.inj H
            have ho11 := h18
            try dsimp only at ho11
            subst ho11
            have H := HL13
            try dsimp only at H
            obtain rfl := Option.some.inj H
            exact fin hk _ [(.bool false)] rfl ⟨rfl, trivial⟩ ⟨rfl, (hs.pick [] rfl).dnil⟩
          · have hk := hk.lit 24 c34 rfl
            refine cnd_false hk rfl rfl ?_
            refine wp_skip ?_
            refine hK22 _ _ ?_
            apply wp_region_lit
            refine sv (.int .i64 (w64 (u10 + 1))) hk rfl rfl rfl fun a hk => ?_
            refine sm _ rfl hk rfl rfl rfl fun a hk => ?_
            show wpList _ _ _ [] _ _
            refine wpList_nil ?_
            obtain rfl := Option.some.inj H
            obtain ⟨m36, hmm36, h18⟩ := h18
            show ∃ n', n' < _ ∧ I15 n' _ _
            refine ⟨m36, hmm36, ?_⟩
            rw [hI15]
            exact ⟨(w64 (u10 + 1)), h18, (hk.c 0 rfl (hk.c 1 rfl (hk.c 12 rfl (hk.c 13 rfl hk.k)))), (hs.pick [] rfl)⟩
        · have hk := hk.lit 14 c21 rfl
          refine cnd_false hk rfl rfl ?_
          refine wp_exit ?_
          obtain rfl := Option.some.inj H
          show R14 _ _
          rw [hR14]
          exact ⟨h18.symm, hk.k, (hs.pick [] rfl)⟩
    · intro a w hR0
      rw [hR14] at hR0
      obtain ⟨rfl, hk, hs⟩ := hR0
      have H := HL13
      try dsimp only at H
      refine hK6 _ _ ?_
      apply wp_seq_k; intro K37 hK37
      apply wp_region_lit
      refine sa _ rfl hk rfl rfl rfl fun a hk => ?_
      show wpList _ _ _ [] _ _
      refine wpList_nil ?_
      refine hK37 _ _ ?_
      refine wp_ret ?_
      obtain rfl := Option.some.inj H
      exact fin hk _ [(.bool true)] rfl ⟨rfl, trivial⟩ ⟨rfl, (hs.pick [] rfl).dnil⟩

noncomputable def slices_Equal_impl_Io_impl_Io.s0 (l0 : List S_Io) (l1 : List S_Io) (u10 : Int) : Option ((Int) ⊕ Ex (Unit) (Bool)) :=
  (bif (decide (u10 < (l0.length : Int))) then (if 0 ≤ u10 ∧ u10 < (l0.length : Int) then (if 0 ≤ u10 ∧ u10 < (l1.length : Int) then (bif (!((((l0.getD u10.toNat z_Io).At) == ((l1.getD u10.toNat z_Io).At)) && ((((l0.getD u10.toNat z_Io).Data).toList == ((l1.getD u10.toNat z_Io).Data).toList) && true))) then (some (.inr (.ret false))) else (some (.inl (w64 (u10 + 1))))) else none) else none) else (some (.inr (.out ()))))
noncomputable def slices_Equal_impl_Io_impl_Io.f (l0 : List S_Io) (l1 : List S_Io) : Option (Bool) :=
  (bif ((l0.length : Int) != (l1.length : Int)) then (some false) else ((loopO (fun s => slices_Equal_impl_Io_impl_Io.s0 l0 l1 s) 0).bind fun o => match o with | .out _ => (some true) | .ret r => (some r)))
set_option maxRecDepth 100000 in
set_option maxHeartbeats 0 in
theorem slices_Equal_impl_Io_impl_Io_t (w0 : World) (A0_ : Option Addr) (p0_ : Nat) (l0 : List S_Io) (k0_ : Chunk) (v0_ : View L_Io A0_ p0_ l0 k0_) (w0_ : Has w0 k0_) (A1_ : Option Addr) (p1_ : Nat) (l1 : List S_Io) (k1_ : Chunk) (v1_ : View L_Io A1_ p1_ l1 k1_) (w1_ : Has w0 k1_) (r : Bool) (H : slices_Equal_impl_Io_impl_Io.f l0 l1 = some r) :
    Calls Try.prog 108 #[.slice A0_ l0.length p0_, .slice A1_ l1.length p1_] w0 (Ret (fun v w => v = .bool r ∧ Sat [] w0 w [] [])) := by
  have hs : Sat [] w0 w0 [(1, k0_), (2, k1_)] [] := Sat.init w0 [(1, k0_), (2, k1_)] [] (by simp only [List.mem_cons, List.not_mem_nil, or_false]; rintro x (rfl | rfl) <;> assumption) (by simp) List.nodup_nil (by simp [blks])
  unfold slices_Equal_impl_Io_impl_Io.f at H
  refine enter Try.func108 rfl Try.ntmps108 rfl fun a hk => ?_
  apply wp_seq_k; intro K1 hK1
  apply wp_region_lit
  refine sa _ rfl hk rfl rfl rfl fun a hk => ?_
  show wpList _ _ _ [] _ _
  refine wpList_nil ?_
  refine hK1 _ _ ?_
  apply wp_seq_k; intro K2 hK2
  apply wp_seq_k; intro K3 hK3
  apply wp_region_lit
  refine sm _ rfl hk rfl rfl rfl fun a hk => ?_
  refine sle rfl hk rfl rfl rfl un65 fun a hk => ?_
  refine sm _ rfl hk rfl rfl rfl fun a hk => ?_
  refine sle rfl hk rfl rfl rfl un65 fun a hk => ?_
  refine sv (.bool ((l0.length : Int) != (l1.length : Int))) hk rfl rfl rfl fun a hk => ?_
  show wpList _ _ _ [] _ _
  refine wpList_nil ?_
  refine hK3 _ _ ?_
  rcases cond_some H with ⟨c4, H⟩ | ⟨c4, H⟩
  · have hk := hk.lit 10 c4 rfl
    refine cnd_true hk rfl rfl ?_
    apply wp_seq_k; intro K5 hK5
    apply wp_region_lit
    refine sa _ rfl hk rfl rfl rfl fun a hk => ?_
    show wpList _ _ _ [] _ _
    refine wpList_nil ?_
    refine hK5 _ _ ?_
    refine wp_ret ?_
    obtain rfl := Option.some.inj H
    exact fin hk _ [(.bool false)] rfl ⟨rfl, trivial⟩ ⟨rfl, (hs.pick [] rfl).dnil⟩
  · have hk := hk.lit 10 c4 rfl
    refine cnd_false hk rfl rfl ?_
    refine wp_skip ?_
    refine hK2 _ _ ?_
    apply wp_seq_k; intro K6 hK6
    apply wp_seq_k; intro K7 hK7
    apply wp_region_lit
    refine sm _ rfl hk rfl rfl rfl fun a hk => ?_
    refine sle rfl hk rfl rfl rfl un65 fun a hk => ?_
    refine sm _ rfl hk rfl rfl rfl fun a hk => ?_
    show wpList _ _ _ [] _ _
    refine wpList_nil ?_
    refine hK7 _ _ ?_
    obtain ⟨o11, h12, HL13⟩ := bind_some H
    clear H
    obtain ⟨R14, hR14⟩ : ∃ R : Act → World → Prop, R = fun a w => o11 = .out () ∧ Kn [] 26 a ∧ Sat [] w0 w [(1, k0_), (2, k1_)] [] := ⟨_, rfl⟩
    refine wp_cutq R14 ?_ ?_
    · refine wp_block ?_
      obtain ⟨fu16, h12⟩ := loopO_some h12
      obtain ⟨I15, hI15⟩ : ∃ I : Nat → Act → World → Prop, I = fun fu a w => ∃ (u10 : Int), loopN (fun s => slices_Equal_impl_Io_impl_Io.s0 l0 l1 s) fu u10 = some o11 ∧ Kn [(0, (.slice A0_ l0.length p0_)), (1, (.slice A1_ l1.length p1_)), (12, (.int .i64 (l0.length : Int))), (13, (.int .i64 u10))] 26 a ∧ Sat [] w0 w [(1, k0_), (2, k1_)] [] := ⟨_, rfl⟩
      refine wp_loop_ghost I15 fu16 ?_ ?_
      · rw [hI15]
        exact ⟨0, h12, (hk.c 0 rfl (hk.c 1 rfl (hk.c 12 rfl (hk.c 13 rfl hk.k)))), (hs.pick [] rfl)⟩
      · clear h12 hk hs
        intro fu16 a w hI0
        rw [hI15] at hI0
        obtain ⟨u10, hi, hk, hs⟩ := hI0
        obtain ⟨x17, H, h18⟩ := loop_round hi
        try dsimp only at H
        unfold slices_Equal_impl_Io_impl_Io.s0 at H
        apply wp_seq_k; intro K19 hK19
        apply wp_region_lit
        refine sv (.bool (decide (u10 < (l0.length : Int)))) hk rfl rfl rfl fun a hk => ?_
        show wpList _ _ _ [] _ _
        refine wpList_nil ?_
        refine hK19 _ _ ?_
        apply wp_seq_k; intro K20 hK20
        rcases cond_some H with ⟨c21, H⟩ | ⟨c21, H⟩
        · have hk := hk.lit 14 c21 rfl
          refine cnd_true hk rfl rfl ?_
          refine wp_skip ?_
          refine hK20 _ _ ?_
          apply wp_seq_k; intro K22 hK22
          refine wp_block ?_
          apply wp_seq_k; intro K23 hK23
          apply wp_region_lit
          refine sm _ rfl hk rfl rfl rfl fun a hk => ?_
          refine sa _ rfl hk rfl rfl rfl fun a hk => ?_
          show wpList _ _ _ [] _ _
          refine wpList_nil ?_
          refine hK23 _ _ ?_
          apply wp_seq_k; intro K24 hK24
          refine wp_region_tree (.q 0 (.q 1 (.q 2 (.q 3 (.q 4 (.alt 5 (.alt 6 (.alt 7 (.alt 8 .done .stop) .stop) .stop) .stop)))))) mo (by kernel_rfl) (hs.pick [] rfl) fun _ => ?_
          have hs := hs.drew
          refine tqst (.slice A0_ l0.length p0_) hk rfl rfl rfl rfl (fun w hs => sm _ rfl hk rfl rfl rfl fun a hk => qe hk) fun a hk => ?_
          refine tqst (.int .i64 u10) hk rfl rfl rfl rfl (fun w hs => sm _ rfl hk rfl rfl rfl fun a hk => qe hk) fun a hk => ?_
          rcases ite_some H with ⟨c26, H⟩ | ⟨_, H⟩
          rotate_left
          · cases H
          obtain ⟨b27, q28, hAc26⟩ := (v0_).some_ u10 c26.1 c26.2
          refine tqst (.pointer (some (padd A0_ (u10.toNat * 2)))) hk rfl rfl rfl rfl (fun w hs => si rfl hk rfl rfl rfl rfl un65 sz129 c26.1 c26.2 hAc26 fun a hk => qe hk) fun a hk => ?_
          obtain ⟨_, rfl, e29⟩ := (v0_).at_ z_Io u10 c26.1 c26.2
          refine tqst (.agg #[.int .i64 ((l0.getD u10.toNat z_Io).At), .string ((l0.getD u10.toNat z_Io).Data)]) hk rfl rfl rfl rfl (fun w hs => sln [.int .i64 ((l0.getD u10.toNat z_Io).At), .string ((l0.getD u10.toNat z_Io).Data)] rfl hk rfl rfl rfl ag129 sz129 (cells_at e29 (hs.hasD (k := 1) rfl)) fun a hk => qe hk) fun a hk => ?_
          refine tqst (.slice A1_ l1.length p1_) hk rfl rfl rfl rfl (fun w hs => sm _ rfl hk rfl rfl rfl fun a hk => qe hk) fun a hk => ?_
          refine tsst hk rfl rfl (fun K_r25_5 hK_r25_5 w hF => ?_) wt_stop
          have hs := hs.f hF
          refine sm _ rfl hk rfl rfl rfl fun a hk => ?_
          refine se (hs.pick [] rfl) hk (hK_r25_5 _ _ ?_)
          refine tsst hk rfl rfl (fun K_r25_6 hK_r25_6 w hF => ?_) wt_stop
          have hs := hs.f hF
          rcases ite_some H with ⟨c30, H⟩ | ⟨_, H⟩
          rotate_left
          · cases H
          obtain ⟨b31, q32, hAc30⟩ := (v1_).some_ u10 c30.1 c30.2
          refine si rfl hk rfl rfl rfl rfl un65 sz129 c30.1 c30.2 hAc30 fun a hk => ?_
          refine se (hs.pick [] rfl) hk (hK_r25_6 _ _ ?_)
          refine tsst hk rfl rfl (fun K_r25_7 hK_r25_7 w hF => ?_) wt_stop
          have hs := hs.f hF
          obtain ⟨_, rfl, e33⟩ := (v1_).at_ z_Io u10 c30.1 c30.2
          refine sln [.int .i64 ((l1.getD u10.toNat z_Io).At), .string ((l1.getD u10.toNat z_Io).Data)] rfl hk rfl rfl rfl ag129 sz129 (cells_at e33 (hs.hasD (k := 2) rfl)) fun a hk => ?_
          refine se (hs.pick [] rfl) hk (hK_r25_7 _ _ ?_)
          refine tsst hk rfl rfl (fun K_r25_8 hK_r25_8 w hF => ?_) wt_stop
          have hs := hs.f hF
          refine snea (r := ((((l0.getD u10.toNat z_Io).At) == ((l1.getD u10.toNat z_Io).At)) && ((((l0.getD u10.toNat z_Io).Data).toList == ((l1.getD u10.toNat z_Io).Data).toList) && true))) rfl hk rfl rfl rfl rfl eg129 (eq_agg Try.underlying129 sh129 (eqf_cons rfl ag3 rfl rfl (run_equalIn_int _ _ _ _ _ _ _ un3) (eqf_cons rfl ag9 rfl rfl (run_equalIn_string _ _ _ _ _ un9) eqf_nil))) fun a hk => ?_
          refine se (hs.pick [] rfl) hk (hK_r25_8 _ _ ?_)
          refine wtl_nil fun w hF _ => ?_
          have hs := hs.f hF
          refine hK24 _ _ ?_
          rcases cond_some H with ⟨c34, H⟩ | ⟨c34, H⟩
          · have hk := hk.lit 24 c34 rfl
            refine cnd_true hk rfl rfl ?_
            apply wp_seq_k; intro K35 hK35
            apply wp_region_lit
            refine sa _ rfl hk rfl rfl rfl fun a hk => ?_
            show wpList _ _ _ [] _ _
            refine wpList_nil ?_
            refine hK35 _ _ ?_
            refine wp_ret ?_
            obtain rfl := Option.some.inj H
            have ho11 := h18
            try dsimp only at ho11
            subst ho11
            have H := HL13
            try dsimp only at H
            obtain rfl := Option.some.inj H
            exact fin hk _ [(.bool false)] rfl ⟨rfl, trivial⟩ ⟨rfl, (hs.pick [] rfl).dnil⟩
          · have hk := hk.lit 24 c34 rfl
            refine cnd_false hk rfl rfl ?_
            refine wp_skip ?_
            refine hK22 _ _ ?_
            apply wp_region_lit
            refine sv (.int .i64 (w64 (u10 + 1))) hk rfl rfl rfl fun a hk => ?_
            refine sm _ rfl hk rfl rfl rfl fun a hk => ?_
            show wpList _ _ _ [] _ _
            refine wpList_nil ?_
            obtain rfl := Option.some.inj H
            obtain ⟨m36, hmm36, h18⟩ := h18
            show ∃ n', n' < _ ∧ I15 n' _ _
            refine ⟨m36, hmm36, ?_⟩
            rw [hI15]
            exact ⟨(w64 (u10 + 1)), h18, (hk.c 0 rfl (hk.c 1 rfl (hk.c 12 rfl (hk.c 13 rfl hk.k)))), (hs.pick [] rfl)⟩
        · have hk := hk.lit 14 c21 rfl
          refine cnd_false hk rfl rfl ?_
          refine wp_exit ?_
          obtain rfl := Option.some.inj H
          show R14 _ _
          rw [hR14]
          exact ⟨h18.symm, hk.k, (hs.pick [] rfl)⟩
    · intro a w hR0
      rw [hR14] at hR0
      obtain ⟨rfl, hk, hs⟩ := hR0
      have H := HL13
      try dsimp only at H
      refine hK6 _ _ ?_
      apply wp_seq_k; intro K37 hK37
      apply wp_region_lit
      refine sa _ rfl hk rfl rfl rfl fun a hk => ?_
      show wpList _ _ _ [] _ _
      refine wpList_nil ?_
      refine hK37 _ _ ?_
      refine wp_ret ?_
      obtain rfl := Option.some.inj H
      exact fin hk _ [(.bool true)] rfl ⟨rfl, trivial⟩ ⟨rfl, (hs.pick [] rfl).dnil⟩

noncomputable def impl_SameDevice.f (x0 : S_Device) (x1 : S_Device) : Option (Bool) :=
  ((((slices_Equal_string_string.f x0.Sure x1.Sure).bind fun y11 => (bif y11 then ((slices_Equal_impl_Io_impl_Io.f x0.Unsure x1.Unsure).bind fun y14 => (some y14)) else (some false))) : Option (Bool)).bind fun u6 => (some u6))
set_option maxRecDepth 100000 in
set_option maxHeartbeats 0 in
theorem impl_SameDevice_t (w0 : World) (x0 : S_Device) (A0_0 : Option Addr) (p0_0 : Nat) (k0_0 : Chunk) (v0_0 : View Lay.str A0_0 p0_0 x0.Sure k0_0) (w0_0 : Has w0 k0_0) (A0_1 : Option Addr) (p0_1 : Nat) (k0_1 : Chunk) (v0_1 : View L_Io A0_1 p0_1 x0.Unsure k0_1) (w0_1 : Has w0 k0_1) (x1 : S_Device) (A1_0 : Option Addr) (p1_0 : Nat) (k1_0 : Chunk) (v1_0 : View Lay.str A1_0 p1_0 x1.Sure k1_0) (w1_0 : Has w0 k1_0) (A1_1 : Option Addr) (p1_1 : Nat) (k1_1 : Chunk) (v1_1 : View L_Io A1_1 p1_1 x1.Unsure k1_1) (w1_1 : Has w0 k1_1) (r : Bool) (H : impl_SameDevice.f x0 x1 = some r) :
    Calls Try.prog 50 #[.agg #[.slice A0_0 x0.Sure.length p0_0, .slice A0_1 x0.Unsure.length p0_1], .agg #[.slice A1_0 x1.Sure.length p1_0, .slice A1_1 x1.Unsure.length p1_1]] w0 (Ret (fun v w => v = .bool r ∧ Sat [] w0 w [] [])) := by
  have hs : Sat [] w0 w0 [(1, k0_0), (2, k0_1), (3, k1_0), (4, k1_1)] [] := Sat.init w0 [(1, k0_0), (2, k0_1), (3, k1_0), (4, k1_1)] [] (by simp only [List.mem_cons, List.not_mem_nil, or_false]; rintro x (rfl | rfl | rfl | rfl) <;> assumption) (by simp) List.nodup_nil (by simp [blks])
  unfold impl_SameDevice.f at H
  refine enter Try.func50 rfl Try.ntmps50 rfl fun a hk => ?_
  apply wp_seq_k; intro K1 hK1
  apply wp_region_lit
  refine sbx 5 hs rfl hk rfl rfl rfl rfl fun b2 w a hk hs => ?_
  refine sbx 6 hs rfl hk rfl rfl rfl rfl fun b3 w a hk hs => ?_
  refine sa _ rfl hk rfl rfl rfl fun a hk => ?_
  show wpList _ _ _ [] _ _
  refine wpList_nil ?_
  refine hK1 _ _ ?_
  apply wp_seq_k; intro K4 hK4
  obtain ⟨o7, h8, HL9⟩ := bind_some H
  clear H
  obtain ⟨R10, hR10⟩ : ∃ R : Act → World → Prop, R = fun a w => ∃ (u6 : Bool), u6 = o7 ∧ Kn [(4, (.bool u6))] 17 a ∧ Sat [] w0 w [(1, k0_0), (2, k0_1), (3, k1_0), (4, k1_1)] [] := ⟨_, rfl⟩
  refine wp_cutq R10 ?_ ?_
  · have H := h8
    apply wp_region_lit
    refine sf ⟨b2, 0, none⟩ rfl hk rfl rfl rfl fd67_0 rfl fun a hk => ?_
    refine sl rfl hk rfl rfl rfl ag64 (box_cell hs (k := 5) rfl rfl) fun a hk => ?_
    refine sf ⟨b3, 0, none⟩ rfl hk rfl rfl rfl fd67_0 rfl fun a hk => ?_
    refine sl rfl hk rfl rfl rfl ag64 (box_cell hs (k := 6) rfl rfl) fun a hk => ?_
    obtain ⟨y11, h12, H⟩ := bind_some H
    refine sc rfl en107 hk rfl rfl rfl (slices_Equal_string_string_t _ A0_0 p0_0 x0.Sure _ v0_0 (hs.hasD (k := 1) rfl) A1_0 p1_0 x1.Sure _ v1_0 (hs.hasD (k := 3) rfl) _ h12) ?_
    rintro _ w ⟨rfl, hG⟩ a hk
    have hs := hs.call0 hG
    refine sm _ rfl hk rfl rfl rfl fun a hk => ?_
    rcases cond_some H with ⟨c13, H⟩ | ⟨c13, H⟩
    · have hk := hk.lit 10 c13 rfl
      refine sf ⟨b2, 1, none⟩ rfl hk rfl rfl rfl fd67_1 rfl fun a hk => ?_
      refine sl rfl hk rfl rfl rfl ag65 (box_cell hs (k := 5) rfl rfl) fun a hk => ?_
      refine sf ⟨b3, 1, none⟩ rfl hk rfl rfl rfl fd67_1 rfl fun a hk => ?_
      refine sl rfl hk rfl rfl rfl ag65 (box_cell hs (k := 6) rfl rfl) fun a hk => ?_
      obtain ⟨y14, h15, H⟩ := bind_some H
      refine sc rfl en108 hk rfl rfl rfl (slices_Equal_impl_Io_impl_Io_t _ A0_1 p0_1 x0.Unsure _ v0_1 (hs.hasD (k := 2) rfl) A1_1 p1_1 x1.Unsure _ v1_1 (hs.hasD (k := 4) rfl) _ h15) ?_
      rintro _ w ⟨rfl, hG⟩ a hk
      have hs := hs.call0 hG
      refine sv (.bool y14) hk rfl rfl rfl fun a hk => ?_
      refine sa _ rfl hk rfl rfl rfl fun a hk => ?_
      show wpList _ _ _ [] _ _
      refine wpList_nil ?_
      obtain rfl := Option.some.inj H
      show R10 _ _
      rw [hR10]
      exact ⟨y14, rfl, (hk.c 4 rfl hk.k), (hs.pick [] rfl)⟩
    · have hk := hk.lit 10 c13 rfl
      refine sk hk rfl rfl rfl fun a hk => ?_
      refine sk hk rfl rfl rfl fun a hk => ?_
      refine sk hk rfl rfl rfl fun a hk => ?_
      refine sk hk rfl rfl rfl fun a hk => ?_
      refine sk hk rfl rfl rfl fun a hk => ?_
      refine sv (.bool false) hk rfl rfl rfl fun a hk => ?_
      refine sa _ rfl hk rfl rfl rfl fun a hk => ?_
      show wpList _ _ _ [] _ _
      refine wpList_nil ?_
      obtain rfl := Option.some.inj H
      show R10 _ _
      rw [hR10]
      exact ⟨false, rfl, (hk.c 4 rfl hk.k), (hs.pick [] rfl)⟩
  · intro a w hR0
    rw [hR10] at hR0
    obtain ⟨u6, rfl, hk, hs⟩ := hR0
    have H := HL9
    try dsimp only at H
    refine hK4 _ _ ?_
    refine wp_ret ?_
    obtain rfl := Option.some.inj H
    exact fin hk _ [(.bool u6)] rfl ⟨rfl, trivial⟩ ⟨rfl, (hs.pick [] rfl).dnil⟩

noncomputable def laws_FnFlip.f (l0 : List Int) (l1 : List Int) : Option (Bool) :=
  (((bif (decide ((l0.length : Int) > 1048576)) then (some true) else (some (decide ((l1.length : Int) > 1048576)))) : Option (Bool)).bind fun u5 => (bif u5 then (some true) else ((spec_DeviceOf.f l0).bind fun y14 => ((impl_SyncAll.f y14).bind fun y24 => ((laws_at.f l1 0 6).bind fun y36 => ((laws_at.f l1 1 255).bind fun y39 => ((laws_at.f l1 2 7).bind fun y42 => ((impl_FlipAt.f y24.1 y36 y42 (w64 (1 + y39))).bind fun y45 => ((spec_FlipAt.f y24.1 y36 y42 (w64 (1 + y39))).bind fun y57 => (((bif (y24.2 != 0) then (some true) else (bif (y45.2 != y57.2) then (some true) else ((laws_sameDevice.f y45.1 y57.1).bind fun y78 => (bif (!y78) then (some true) else (some ((y24.1.Sure.length : Int) != 40)))))) : Option (Bool)).bind fun u71 => (bif u71 then (some false) else (bif (y45.2 != 0) then (((bif (y45.2 == 5) then ((laws_sameDevice.f y45.1 y24.1).bind fun y94 => (some y94)) else (some false)) : Option (Bool)).bind fun u88 => (some u88)) else ((impl_FlipAt.f y45.1 y36 y42 (w64 (1 + y39))).bind fun y97 => (((bif (y97.2 == 0) then ((laws_sameDevice.f y97.1 y24.1).bind fun y116 => (bif y116 then ((impl_SameDevice.f y45.1 y24.1).bind fun y119 => (bif (!y119) then ((impl_SameDevice.f y97.1 y24.1).bind fun y122 => (some y122)) else (some false))) else (some false))) else (some false)) : Option (Bool)).bind fun u110 => (some u110)))))))))))))))
set_option maxRecDepth 100000 in
set_option maxHeartbeats 0 in
theorem laws_FnFlip_t (w0 : World) (A0_ : Option Addr) (p0_ : Nat) (l0 : List Int) (k0_ : Chunk) (v0_ : View (Lay.int .u8) A0_ p0_ l0 k0_) (w0_ : Has w0 k0_) (A1_ : Option Addr) (p1_ : Nat) (l1 : List Int) (k1_ : Chunk) (v1_ : View (Lay.int .u8) A1_ p1_ l1 k1_) (w1_ : Has w0 k1_) (r : Bool) (H : laws_FnFlip.f l0 l1 = some r) :
    Calls Try.prog 8 #[.slice A0_ l0.length p0_, .slice A1_ l1.length p1_] w0 (Ret (fun v w => v = .bool r ∧ Sat [] w0 w [] [])) := by
  have hs : Sat [] w0 w0 [(1, k0_), (2, k1_)] [] := Sat.init w0 [(1, k0_), (2, k1_)] [] (by simp only [List.mem_cons, List.not_mem_nil, or_false]; rintro x (rfl | rfl) <;> assumption) (by simp) List.nodup_nil (by simp [blks])
  unfold laws_FnFlip.f at H
  refine enter Try.func8 rfl Try.ntmps8 rfl fun a hk => ?_
  apply wp_seq_k; intro K1 hK1
  apply wp_region_lit
  refine sa _ rfl hk rfl rfl rfl fun a hk => ?_
  show wpList _ _ _ [] _ _
  refine wpList_nil ?_
  refine hK1 _ _ ?_
  apply wp_seq_k; intro K2 hK2
  apply wp_seq_k; intro K3 hK3
  obtain ⟨o6, h7, HL8⟩ := bind_some H
  clear H
  obtain ⟨R9, hR9⟩ : ∃ R : Act → World → Prop, R = fun a w => ∃ (u5 : Bool), u5 = o6 ∧ Kn [(0, (.slice A0_ l0.length p0_)), (1, (.slice A1_ l1.length p1_)), (23, (.bool u5))] 107 a ∧ Sat [] w0 w [(1, k0_), (2, k1_)] [] := ⟨_, rfl⟩
  refine wp_cutq R9 ?_ ?_
  · have H := h7
    apply wp_region_lit
    refine sm _ rfl hk rfl rfl rfl fun a hk => ?_
    refine sle rfl hk rfl rfl rfl un55 fun a hk => ?_
    refine sv (.bool (decide ((l0.length : Int) > 1048576))) hk rfl rfl rfl fun a hk => ?_
    refine sm _ rfl hk rfl rfl rfl fun a hk => ?_
    rcases cond_some H with ⟨c10, H⟩ | ⟨c10, H⟩
    · have hk := hk.lit 19 c10 rfl
      refine sk hk rfl rfl rfl fun a hk => ?_
      refine sk hk rfl rfl rfl fun a hk => ?_
      refine sk hk rfl rfl rfl fun a hk => ?_
      refine sv (.bool true) hk rfl rfl rfl fun a hk => ?_
      show wpList _ _ _ [] _ _
      refine wpList_nil ?_
      obtain rfl := Option.some.inj H
      show R9 _ _
      rw [hR9]
      exact ⟨true, rfl, (hk.c 0 rfl (hk.c 1 rfl (hk.c 23 rfl hk.k))), (hs.pick [] rfl)⟩
    · have hk := hk.lit 19 c10 rfl
      refine sm _ rfl hk rfl rfl rfl fun a hk => ?_
      refine sle rfl hk rfl rfl rfl un55 fun a hk => ?_
      refine sv (.bool (decide ((l1.length : Int) > 1048576))) hk rfl rfl rfl fun a hk => ?_
      refine sv (.bool (decide ((l1.length : Int) > 1048576))) hk rfl rfl rfl fun a hk => ?_
      show wpList _ _ _ [] _ _
      refine wpList_nil ?_
      obtain rfl := Option.some.inj H
      show R9 _ _
      rw [hR9]
      exact ⟨(decide ((l1.length : Int) > 1048576)), rfl, (hk.c 0 rfl (hk.c 1 rfl (hk.c 23 rfl hk.k))), (hs.pick [] rfl)⟩
  · intro a w hR0
    rw [hR9] at hR0
    obtain ⟨u5, rfl, hk, hs⟩ := hR0
    have H := HL8
    try dsimp only at H
    refine hK3 _ _ ?_
    rcases cond_some H with ⟨c11, H⟩ | ⟨c11, H⟩
    · have hk := hk.lit 23 c11 rfl
      refine cnd_true hk rfl rfl ?_
      apply wp_seq_k; intro K12 hK12
      apply wp_region_lit
      refine sa _ rfl hk rfl rfl rfl fun a hk => ?_
      show wpList _ _ _ [] _ _
      refine wpList_nil ?_
      refine hK12 _ _ ?_
      refine wp_ret ?_
      obtain rfl := Option.some.inj H
      exact fin hk _ [(.bool true)] rfl ⟨rfl, trivial⟩ ⟨rfl, (hs.pick [] rfl).dnil⟩
    · have hk := hk.lit 23 c11 rfl
      refine cnd_false hk rfl rfl ?_
      refine wp_skip ?_
      refine hK2 _ _ ?_
      apply wp_seq_k; intro K13 hK13
      apply wp_region_lit
      refine sm _ rfl hk rfl rfl rfl fun a hk => ?_
      obtain ⟨y14, h15, H⟩ := bind_some H
      refine sc rfl en37 hk rfl rfl rfl (spec_DeviceOf_t _ A0_ p0_ l0 _ v0_ (hs.hasD (k := 1) rfl) _ h15) ?_
      rintro _ w ⟨A16, p17, k18, A20, p21, k22, rfl, o19, o23, hG⟩ a hk
      have hs := hs.call0k hG [4, 5] rfl
      obtain ⟨y24, h25, H⟩ := bind_some H
      refine sc rfl en41 hk rfl rfl rfl (impl_SyncAll_t _ y14 A16 p17 _ o19.view (hs.hasG (k := 4) rfl) A20 p21 _ o23.view (hs.hasG (k := 5) rfl) _ h25) ?_
      rintro _ w ⟨A26, p27, k28, A30, p31, k32, rfl, o29, o33, hG⟩ a hk
      have hs := hs.call0k hG [6, 7] rfl
      refine sm _ rfl hk rfl rfl rfl fun a hk => ?_
      refine sv (.agg #[.slice A26 y24.1.Sure.length p27, .slice A30 y24.1.Unsure.length p31]) hk rfl rfl rfl fun a hk => ?_
      refine sv (.int .i64 y24.2) hk rfl rfl rfl fun a hk => ?_
      refine salx 8 hs rfl hk rfl rfl ze67 rfl fun b34 w a hk hs => ?_
      refine ssw 8 hs rfl rfl hk rfl rfl rfl rfl sz67 (by simp [Value.oneCell']) rfl fun w a hk hs => ?_
      refine sa _ rfl hk rfl rfl rfl fun a hk => ?_
      show wpList _ _ _ [] _ _
      refine wpList_nil ?_
      refine hK13 _ _ ?_
      apply wp_seq_k; intro K35 hK35
      apply wp_region_lit
      refine sm _ rfl hk rfl rfl rfl fun a hk => ?_
      obtain ⟨y36, h37, H⟩ := bind_some H
      refine sc rfl en32 hk rfl rfl rfl (laws_at_t _ A1_ p1_ l1 _ v1_ (hs.hasD (k := 2) rfl) 0 6 _ h37) ?_
      rintro _ w ⟨rfl, hG⟩ a hk
      have hs := hs.call0 hG
      refine sa _ rfl hk rfl rfl rfl fun a hk => ?_
      show wpList _ _ _ [] _ _
      refine wpList_nil ?_
      refine hK35 _ _ ?_
      apply wp_seq_k; intro K38 hK38
      apply wp_region_lit
      refine sm _ rfl hk rfl rfl rfl fun a hk => ?_
      obtain ⟨y39, h40, H⟩ := bind_some H
      refine sc rfl en32 hk rfl rfl rfl (laws_at_t _ A1_ p1_ l1 _ v1_ (hs.hasD (k := 2) rfl) 1 255 _ h40) ?_
      rintro _ w ⟨rfl, hG⟩ a hk
      have hs := hs.call0 hG
      refine sv (.int .i64 (w64 (1 + y39))) hk rfl rfl rfl fun a hk => ?_
      refine sa _ rfl hk rfl rfl rfl fun a hk => ?_
      show wpList _ _ _ [] _ _
      refine wpList_nil ?_
      refine hK38 _ _ ?_
      apply wp_seq_k; intro K41 hK41
      apply wp_region_lit
      refine sm _ rfl hk rfl rfl rfl fun a hk => ?_
      obtain ⟨y42, h43, H⟩ := bind_some H
      refine sc rfl en32 hk rfl rfl rfl (laws_at_t _ A1_ p1_ l1 _ v1_ (hs.hasD (k := 2) rfl) 2 7 _ h43) ?_
      rintro _ w ⟨rfl, hG⟩ a hk
      have hs := hs.call0 hG
      refine sa _ rfl hk rfl rfl rfl fun a hk => ?_
      show wpList _ _ _ [] _ _
      refine wpList_nil ?_
      refine hK41 _ _ ?_
      apply wp_seq_k; intro K44 hK44
      apply wp_region_lit
      refine sln [.slice A26 y24.1.Sure.length p27, .slice A30 y24.1.Unsure.length p31] rfl hk rfl rfl rfl ag67 sz67 (box_cells hs (k := 8) rfl) fun a hk => ?_
      refine sm _ rfl hk rfl rfl rfl fun a hk => ?_
      refine sm _ rfl hk rfl rfl rfl fun a hk => ?_
      refine sm _ rfl hk rfl rfl rfl fun a hk => ?_
      obtain ⟨y45, h46, H⟩ := bind_some H
      refine sc rfl en48 hk rfl rfl rfl (impl_FlipAt_t _ y24.1 A26 p27 _ o29.view (hs.hasG (k := 6) rfl) A30 p31 _ o33.view (hs.hasG (k := 7) rfl) y36 y42 (w64 (1 + y39)) _ h46) ?_
      rintro _ w ⟨A47, p48, k49, A51, p52, k53, rfl, o50, o54, hG⟩ a hk
      have hs := hs.call0k hG [9, 10] rfl
      refine sm _ rfl hk rfl rfl rfl fun a hk => ?_
      refine sv (.agg #[.slice A47 y45.1.Sure.length p48, .slice A51 y45.1.Unsure.length p52]) hk rfl rfl rfl fun a hk => ?_
      refine sv (.int .i64 y45.2) hk rfl rfl rfl fun a hk => ?_
      refine salx 11 hs rfl hk rfl rfl ze67 rfl fun b55 w a hk hs => ?_
      refine ssw 11 hs rfl rfl hk rfl rfl rfl rfl sz67 (by simp [Value.oneCell']) rfl fun w a hk hs => ?_
      refine sa _ rfl hk rfl rfl rfl fun a hk => ?_
      show wpList _ _ _ [] _ _
      refine wpList_nil ?_
      refine hK44 _ _ ?_
      apply wp_seq_k; intro K56 hK56
      apply wp_region_lit
      refine sln [.slice A26 y24.1.Sure.length p27, .slice A30 y24.1.Unsure.length p31] rfl hk rfl rfl rfl ag67 sz67 (box_cells hs (k := 8) rfl) fun a hk => ?_
      refine sm _ rfl hk rfl rfl rfl fun a hk => ?_
      refine sm _ rfl hk rfl rfl rfl fun a hk => ?_
      refine sm _ rfl hk rfl rfl rfl fun a hk => ?_
      obtain ⟨y57, h58, H⟩ := bind_some H
      refine sc rfl en49 hk rfl rfl rfl (spec_FlipAt_t _ y24.1 A26 p27 _ o29.view (hs.hasG (k := 6) rfl) A30 p31 _ o33.view (hs.hasG (k := 7) rfl) y36 y42 (w64 (1 + y39)) _ h58) ?_
      rintro _ w ⟨A59, p60, k61, A63, p64, k65, rfl, o62, o66, hG⟩ a hk
      have hs := hs.call0k hG [12, 13] rfl
      refine sm _ rfl hk rfl rfl rfl fun a hk => ?_
      refine sv (.agg #[.slice A59 y57.1.Sure.length p60, .slice A63 y57.1.Unsure.length p64]) hk rfl rfl rfl fun a hk => ?_
      refine sv (.int .i64 y57.2) hk rfl rfl rfl fun a hk => ?_
      refine salx 14 hs rfl hk rfl rfl ze67 rfl fun b67 w a hk hs => ?_
      refine ssw 14 hs rfl rfl hk rfl rfl rfl rfl sz67 (by simp [Value.oneCell']) rfl fun w a hk hs => ?_
      refine sa _ rfl hk rfl rfl rfl fun a hk => ?_
      show wpList _ _ _ [] _ _
      refine wpList_nil ?_
      refine hK56 _ _ ?_
      apply wp_seq_k; intro K68 hK68
      apply wp_seq_k; intro K69 hK69
      obtain ⟨o72, h73, HL74⟩ := bind_some H
      clear H
      obtain ⟨R75, hR75⟩ : ∃ R : Act → World → Prop, R = fun a w => ∃ (u71 : Bool), u71 = o72 ∧ Kn [(5, (.pointer (some ⟨b34, 0, none⟩))), (7, (.int .i64 y36)), (8, (.int .i64 (w64 (1 + y39)))), (9, (.int .i64 y42)), (10, (.pointer (some ⟨b55, 0, none⟩))), (11, (.int .i64 y45.2)), (71, (.bool u71))] 107 a ∧ Sat [] w0 w [(1, k0_), (2, k1_)] [(8, [(b34, .cells #[.slice A26 y24.1.Sure.length p27, .slice A30 y24.1.Unsure.length p31] 67 (0, 0))]), (6, k28), (7, k32), (11, [(b55, .cells #[.slice A47 y45.1.Sure.length p48, .slice A51 y45.1.Unsure.length p52] 67 (0, 0))]), (9, k49), (10, k53)] := ⟨_, rfl⟩
      refine wp_cutq R75 ?_ ?_
      · have H := h73
        apply wp_region_lit
        refine sm _ rfl hk rfl rfl rfl fun a hk => ?_
        refine sv (.bool (y24.2 != 0)) hk rfl rfl rfl fun a hk => ?_
        refine sm _ rfl hk rfl rfl rfl fun a hk => ?_
        rcases cond_some H with ⟨c76, H⟩ | ⟨c76, H⟩
        · have hk := hk.lit 55 c76 rfl
          refine sk hk rfl rfl rfl fun a hk => ?_
          refine sk hk rfl rfl rfl fun a hk => ?_
          refine sk hk rfl rfl rfl fun a hk => ?_
          refine sv (.bool true) hk rfl rfl rfl fun a hk => ?_
          refine sm _ rfl hk rfl rfl rfl fun a hk => ?_
          refine sk hk rfl rfl rfl fun a hk => ?_
          refine sk hk rfl rfl rfl fun a hk => ?_
          refine sk hk rfl rfl rfl fun a hk => ?_
          refine sk hk rfl rfl rfl fun a hk => ?_
          refine sv (.bool true) hk rfl rfl rfl fun a hk => ?_
          refine sm _ rfl hk rfl rfl rfl fun a hk => ?_
          refine sk hk rfl rfl rfl fun a hk => ?_
          refine sk hk rfl rfl rfl fun a hk => ?_
          refine sk hk rfl rfl rfl fun a hk => ?_
          refine sk hk rfl rfl rfl fun a hk => ?_
          refine sv (.bool true) hk rfl rfl rfl fun a hk => ?_
          show wpList _ _ _ [] _ _
          refine wpList_nil ?_
          obtain rfl := Option.some.inj H
          show R75 _ _
          rw [hR75]
          exact ⟨true, rfl, (hk.c 5 rfl (hk.c 7 rfl (hk.c 8 rfl (hk.c 9 rfl (hk.c 10 rfl (hk.c 11 rfl (hk.c 71 rfl hk.k))))))), (hs.pick [(8, 8), (6, 6), (7, 7), (11, 11), (9, 9), (10, 10)] rfl)⟩
        · have hk := hk.lit 55 c76 rfl
          refine sm _ rfl hk rfl rfl rfl fun a hk => ?_
          refine sm _ rfl hk rfl rfl rfl fun a hk => ?_
          refine sv (.bool (y45.2 != y57.2)) hk rfl rfl rfl fun a hk => ?_
          refine sv (.bool (y45.2 != y57.2)) hk rfl rfl rfl fun a hk => ?_
          refine sm _ rfl hk rfl rfl rfl fun a hk => ?_
          rcases cond_some H with ⟨c77, H⟩ | ⟨c77, H⟩
          · have hk := hk.lit 60 c77 rfl
            refine sk hk rfl rfl rfl fun a hk => ?_
            refine sk hk rfl rfl rfl fun a hk => ?_
            refine sk hk rfl rfl rfl fun a hk => ?_
            refine sk hk rfl rfl rfl fun a hk => ?_
            refine sv (.bool true) hk rfl rfl rfl fun a hk => ?_
            refine sm _ rfl hk rfl rfl rfl fun a hk => ?_
            refine sk hk rfl rfl rfl fun a hk => ?_
            refine sk hk rfl rfl rfl fun a hk => ?_
            refine sk hk rfl rfl rfl fun a hk => ?_
            refine sk hk rfl rfl rfl fun a hk => ?_
            refine sv (.bool true) hk rfl rfl rfl fun a hk => ?_
            show wpList _ _ _ [] _ _
            refine wpList_nil ?_
            obtain rfl := Option.some.inj H
            show R75 _ _
            rw [hR75]
            exact ⟨true, rfl, (hk.c 5 rfl (hk.c 7 rfl (hk.c 8 rfl (hk.c 9 rfl (hk.c 10 rfl (hk.c 11 rfl (hk.c 71 rfl hk.k))))))), (hs.pick [(8, 8), (6, 6), (7, 7), (11, 11), (9, 9), (10, 10)] rfl)⟩
          · have hk := hk.lit 60 c77 rfl
            refine sln [.slice A47 y45.1.Sure.length p48, .slice A51 y45.1.Unsure.length p52] rfl hk rfl rfl rfl ag67 sz67 (box_cells hs (k := 11) rfl) fun a hk => ?_
            refine sln [.slice A59 y57.1.Sure.length p60, .slice A63 y57.1.Unsure.length p64] rfl hk rfl rfl rfl ag67 sz67 (box_cells hs (k := 14) rfl) fun a hk => ?_
            obtain ⟨y78, h79, H⟩ := bind_some H
            refine sc rfl en46 hk rfl rfl rfl (laws_sameDevice_t _ y45.1 A47 p48 _ o50.view (hs.hasG (k := 9) rfl) A51 p52 _ o54.view (hs.hasG (k := 10) rfl) y57.1 A59 p60 _ o62.view (hs.hasG (k := 12) rfl) A63 p64 _ o66.view (hs.hasG (k := 13) rfl) _ h79) ?_
            rintro _ w ⟨rfl, hG⟩ a hk
            have hs := hs.call0 hG
            refine sv (.bool (!y78)) hk rfl rfl rfl fun a hk => ?_
            refine sv (.bool (!y78)) hk rfl rfl rfl fun a hk => ?_
            refine sm _ rfl hk rfl rfl rfl fun a hk => ?_
            rcases cond_some H with ⟨c80, H⟩ | ⟨c80, H⟩
            · have hk := hk.lit 66 c80 rfl
              refine sk hk rfl rfl rfl fun a hk => ?_
              refine sk hk rfl rfl rfl fun a hk => ?_
              refine sk hk rfl rfl rfl fun a hk => ?_
              refine sk hk rfl rfl rfl fun a hk => ?_
              refine sv (.bool true) hk rfl rfl rfl fun a hk => ?_
              show wpList _ _ _ [] _ _
              refine wpList_nil ?_
              obtain rfl := Option.some.inj H
              show R75 _ _
              rw [hR75]
              exact ⟨true, rfl, (hk.c 5 rfl (hk.c 7 rfl (hk.c 8 rfl (hk.c 9 rfl (hk.c 10 rfl (hk.c 11 rfl (hk.c 71 rfl hk.k))))))), (hs.pick [(8, 8), (6, 6), (7, 7), (11, 11), (9, 9), (10, 10)] rfl)⟩
            · have hk := hk.lit 66 c80 rfl
              refine sf ⟨b34, 0, none⟩ rfl hk rfl rfl rfl fd67_0 rfl fun a hk => ?_
              refine sl rfl hk rfl rfl rfl ag64 (box_cell hs (k := 8) rfl rfl) fun a hk => ?_
              refine sle rfl hk rfl rfl rfl un64 fun a hk => ?_
              refine sv (.bool ((y24.1.Sure.length : Int) != 40)) hk rfl rfl rfl fun a hk => ?_
              refine sv (.bool ((y24.1.Sure.length : Int) != 40)) hk rfl rfl rfl fun a hk => ?_
              show wpList _ _ _ [] _ _
              refine wpList_nil ?_
              obtain rfl := Option.some.inj H
              show R75 _ _
              rw [hR75]
              exact ⟨((y24.1.Sure.length : Int) != 40), rfl, (hk.c 5 rfl (hk.c 7 rfl (hk.c 8 rfl (hk.c 9 rfl (hk.c 10 rfl (hk.c 11 rfl (hk.c 71 rfl hk.k))))))), (hs.pick [(8, 8), (6, 6), (7, 7), (11, 11), (9, 9), (10, 10)] rfl)⟩
      · intro a w hR0
        rw [hR75] at hR0
        obtain ⟨u71, rfl, hk, hs⟩ := hR0
        have H := HL74
        try dsimp only at H
        refine hK69 _ _ ?_
        rcases cond_some H with ⟨c81, H⟩ | ⟨c81, H⟩
        · have hk := hk.lit 71 c81 rfl
          refine cnd_true hk rfl rfl ?_
          apply wp_seq_k; intro K82 hK82
          apply wp_region_lit
          refine sa _ rfl hk rfl rfl rfl fun a hk => ?_
          show wpList _ _ _ [] _ _
          refine wpList_nil ?_
          refine hK82 _ _ ?_
          refine wp_ret ?_
          obtain rfl := Option.some.inj H
          exact fin hk _ [(.bool false)] rfl ⟨rfl, trivial⟩ ⟨rfl, (hs.pick [] rfl).dnil⟩
        · have hk := hk.lit 71 c81 rfl
          refine cnd_false hk rfl rfl ?_
          refine wp_skip ?_
          refine hK68 _ _ ?_
          apply wp_seq_k; intro K83 hK83
          apply wp_seq_k; intro K84 hK84
          apply wp_region_lit
          refine sm _ rfl hk rfl rfl rfl fun a hk => ?_
          refine sv (.bool (y45.2 != 0)) hk rfl rfl rfl fun a hk => ?_
          show wpList _ _ _ [] _ _
          refine wpList_nil ?_
          refine hK84 _ _ ?_
          rcases cond_some H with ⟨c85, H⟩ | ⟨c85, H⟩
          · have hk := hk.lit 73 c85 rfl
            refine cnd_true hk rfl rfl ?_
            apply wp_seq_k; intro K86 hK86
            obtain ⟨o89, h90, HL91⟩ := bind_some H
            clear H
            obtain ⟨R92, hR92⟩ : ∃ R : Act → World → Prop, R = fun a w => ∃ (u88 : Bool), u88 = o89 ∧ Kn [(4, (.bool u88))] 107 a ∧ Sat [] w0 w [(1, k0_), (2, k1_)] [] := ⟨_, rfl⟩
            refine wp_cutq R92 ?_ ?_
            · have H := h90
              apply wp_region_lit
              refine sm _ rfl hk rfl rfl rfl fun a hk => ?_
              refine sv (.bool (y45.2 == 5)) hk rfl rfl rfl fun a hk => ?_
              refine sm _ rfl hk rfl rfl rfl fun a hk => ?_
              rcases cond_some H with ⟨c93, H⟩ | ⟨c93, H⟩
              · have hk := hk.lit 76 c93 rfl
                refine sln [.slice A47 y45.1.Sure.length p48, .slice A51 y45.1.Unsure.length p52] rfl hk rfl rfl rfl ag67 sz67 (box_cells hs (k := 11) rfl) fun a hk => ?_
                refine sln [.slice A26 y24.1.Sure.length p27, .slice A30 y24.1.Unsure.length p31] rfl hk rfl rfl rfl ag67 sz67 (box_cells hs (k := 8) rfl) fun a hk => ?_
                obtain ⟨y94, h95, H⟩ := bind_some H
                refine sc rfl en46 hk rfl rfl rfl (laws_sameDevice_t _ y45.1 A47 p48 _ o50.view (hs.hasG (k := 9) rfl) A51 p52 _ o54.view (hs.hasG (k := 10) rfl) y24.1 A26 p27 _ o29.view (hs.hasG (k := 6) rfl) A30 p31 _ o33.view (hs.hasG (k := 7) rfl) _ h95) ?_
                rintro _ w ⟨rfl, hG⟩ a hk
                have hs := hs.call0 hG
                refine sv (.bool y94) hk rfl rfl rfl fun a hk => ?_
                refine sa _ rfl hk rfl rfl rfl fun a hk => ?_
                show wpList _ _ _ [] _ _
                refine wpList_nil ?_
                obtain rfl := Option.some.inj H
                show R92 _ _
                rw [hR92]
                exact ⟨y94, rfl, (hk.c 4 rfl hk.k), (hs.pick [] rfl)⟩
              · have hk := hk.lit 76 c93 rfl
                refine sk hk rfl rfl rfl fun a hk => ?_
                refine sk hk rfl rfl rfl fun a hk => ?_
                refine sk hk rfl rfl rfl fun a hk => ?_
                refine sv (.bool false) hk rfl rfl rfl fun a hk => ?_
                refine sa _ rfl hk rfl rfl rfl fun a hk => ?_
                show wpList _ _ _ [] _ _
                refine wpList_nil ?_
                obtain rfl := Option.some.inj H
                show R92 _ _
                rw [hR92]
                exact ⟨false, rfl, (hk.c 4 rfl hk.k), (hs.pick [] rfl)⟩
            · intro a w hR0
              rw [hR92] at hR0
              obtain ⟨u88, rfl, hk, hs⟩ := hR0
              have H := HL91
              try dsimp only at H
              refine hK86 _ _ ?_
              refine wp_ret ?_
              obtain rfl := Option.some.inj H
              exact fin hk _ [(.bool u88)] rfl ⟨rfl, trivial⟩ ⟨rfl, (hs.pick [] rfl).dnil⟩
          · have hk := hk.lit 73 c85 rfl
            refine cnd_false hk rfl rfl ?_
            refine wp_skip ?_
            refine hK83 _ _ ?_
            apply wp_seq_k; intro K96 hK96
            apply wp_region_lit
            refine sln [.slice A47 y45.1.Sure.length p48, .slice A51 y45.1.Unsure.length p52] rfl hk rfl rfl rfl ag67 sz67 (box_cells hs (k := 11) rfl) fun a hk => ?_
            refine sm _ rfl hk rfl rfl rfl fun a hk => ?_
            refine sm _ rfl hk rfl rfl rfl fun a hk => ?_
            refine sm _ rfl hk rfl rfl rfl fun a hk => ?_
            obtain ⟨y97, h98, H⟩ := bind_some H
            refine sc rfl en48 hk rfl rfl rfl (impl_FlipAt_t _ y45.1 A47 p48 _ o50.view (hs.hasG (k := 9) rfl) A51 p52 _ o54.view (hs.hasG (k := 10) rfl) y36 y42 (w64 (1 + y39)) _ h98) ?_
            rintro _ w ⟨A99, p100, k101, A103, p104, k105, rfl, o102, o106, hG⟩ a hk
            have hs := hs.call0k hG [17, 18] rfl
            refine sm _ rfl hk rfl rfl rfl fun a hk => ?_
            refine sv (.agg #[.slice A99 y97.1.Sure.length p100, .slice A103 y97.1.Unsure.length p104]) hk rfl rfl rfl fun a hk => ?_
            refine sv (.int .i64 y97.2) hk rfl rfl rfl fun a hk => ?_
            refine salx 19 hs rfl hk rfl rfl ze67 rfl fun b107 w a hk hs => ?_
            refine ssw 19 hs rfl rfl hk rfl rfl rfl rfl sz67 (by simp [Value.oneCell']) rfl fun w a hk hs => ?_
            refine sa _ rfl hk rfl rfl rfl fun a hk => ?_
            show wpList _ _ _ [] _ _
            refine wpList_nil ?_
            refine hK96 _ _ ?_
            apply wp_seq_k; intro K108 hK108
            obtain ⟨o111, h112, HL113⟩ := bind_some H
            clear H
            obtain ⟨R114, hR114⟩ : ∃ R : Act → World → Prop, R = fun a w => ∃ (u110 : Bool), u110 = o111 ∧ Kn [(4, (.bool u110))] 107 a ∧ Sat [] w0 w [(1, k0_), (2, k1_)] [] := ⟨_, rfl⟩
            refine wp_cutq R114 ?_ ?_
            · have H := h112
              apply wp_region_lit
              refine sm _ rfl hk rfl rfl rfl fun a hk => ?_
              refine sv (.bool (y97.2 == 0)) hk rfl rfl rfl fun a hk => ?_
              refine sm _ rfl hk rfl rfl rfl fun a hk => ?_
              rcases cond_some H with ⟨c115, H⟩ | ⟨c115, H⟩
              · have hk := hk.lit 91 c115 rfl
                refine sln [.slice A99 y97.1.Sure.length p100, .slice A103 y97.1.Unsure.length p104] rfl hk rfl rfl rfl ag67 sz67 (box_cells hs (k := 19) rfl) fun a hk => ?_
                refine sln [.slice A26 y24.1.Sure.length p27, .slice A30 y24.1.Unsure.length p31] rfl hk rfl rfl rfl ag67 sz67 (box_cells hs (k := 8) rfl) fun a hk => ?_
                obtain ⟨y116, h117, H⟩ := bind_some H
                refine sc rfl en46 hk rfl rfl rfl (laws_sameDevice_t _ y97.1 A99 p100 _ o102.view (hs.hasG (k := 17) rfl) A103 p104 _ o106.view (hs.hasG (k := 18) rfl) y24.1 A26 p27 _ o29.view (hs.hasG (k := 6) rfl) A30 p31 _ o33.view (hs.hasG (k := 7) rfl) _ h117) ?_
                rintro _ w ⟨rfl, hG⟩ a hk
                have hs := hs.call0 hG
                refine sv (.bool y116) hk rfl rfl rfl fun a hk => ?_
                refine sm _ rfl hk rfl rfl rfl fun a hk => ?_
                rcases cond_some H with ⟨c118, H⟩ | ⟨c118, H⟩
                · have hk := hk.lit 96 c118 rfl
                  refine sln [.slice A47 y45.1.Sure.length p48, .slice A51 y45.1.Unsure.length p52] rfl hk rfl rfl rfl ag67 sz67 (box_cells hs (k := 11) rfl) fun a hk => ?_
                  refine sln [.slice A26 y24.1.Sure.length p27, .slice A30 y24.1.Unsure.length p31] rfl hk rfl rfl rfl ag67 sz67 (box_cells hs (k := 8) rfl) fun a hk => ?_
                  obtain ⟨y119, h120, H⟩ := bind_some H
                  refine sc rfl en50 hk rfl rfl rfl (impl_SameDevice_t _ y45.1 A47 p48 _ o50.view (hs.hasG (k := 9) rfl) A51 p52 _ o54.view (hs.hasG (k := 10) rfl) y24.1 A26 p27 _ o29.view (hs.hasG (k := 6) rfl) A30 p31 _ o33.view (hs.hasG (k := 7) rfl) _ h120) ?_
                  rintro _ w ⟨rfl, hG⟩ a hk
                  have hs := hs.call0 hG
                  refine sv (.bool (!y119)) hk rfl rfl rfl fun a hk => ?_
                  refine sv (.bool (!y119)) hk rfl rfl rfl fun a hk => ?_
                  refine sm _ rfl hk rfl rfl rfl fun a hk => ?_
                  rcases cond_some H with ⟨c121, H⟩ | ⟨c121, H⟩
                  · have hk := hk.lit 102 c121 rfl
                    refine sln [.slice A99 y97.1.Sure.length p100, .slice A103 y97.1.Unsure.length p104] rfl hk rfl rfl rfl ag67 sz67 (box_cells hs (k := 19) rfl) fun a hk => ?_
                    refine sln [.slice A26 y24.1.Sure.length p27, .slice A30 y24.1.Unsure.length p31] rfl hk rfl rfl rfl ag67 sz67 (box_cells hs (k := 8) rfl) fun a hk => ?_
                    obtain ⟨y122, h123, H⟩ := bind_some H
                    refine sc rfl en50 hk rfl rfl rfl (impl_SameDevice_t _ y97.1 A99 p100 _ o102.view (hs.hasG (k := 17) rfl) A103 p104 _ o106.view (hs.hasG (k := 18) rfl) y24.1 A26 p27 _ o29.view (hs.hasG (k := 6) rfl) A30 p31 _ o33.view (hs.hasG (k := 7) rfl) _ h123) ?_
                    rintro _ w ⟨rfl, hG⟩ a hk
                    have hs := hs.call0 hG
                    refine sv (.bool y122) hk rfl rfl rfl fun a hk => ?_
                    refine sa _ rfl hk rfl rfl rfl fun a hk => ?_
                    show wpList _ _ _ [] _ _
                    refine wpList_nil ?_
                    obtain rfl := Option.some.inj H
                    show R114 _ _
                    rw [hR114]
                    exact ⟨y122, rfl, (hk.c 4 rfl hk.k), (hs.pick [] rfl)⟩
                  · have hk := hk.lit 102 c121 rfl
                    refine sk hk rfl rfl rfl fun a hk => ?_
                    refine sk hk rfl rfl rfl fun a hk => ?_
                    refine sk hk rfl rfl rfl fun a hk => ?_
                    refine sv (.bool false) hk rfl rfl rfl fun a hk => ?_
                    refine sa _ rfl hk rfl rfl rfl fun a hk => ?_
                    show wpList _ _ _ [] _ _
                    refine wpList_nil ?_
                    obtain rfl := Option.some.inj H
                    show R114 _ _
                    rw [hR114]
                    exact ⟨false, rfl, (hk.c 4 rfl hk.k), (hs.pick [] rfl)⟩
                · have hk := hk.lit 96 c118 rfl
                  refine sk hk rfl rfl rfl fun a hk => ?_
                  refine sk hk rfl rfl rfl fun a hk => ?_
                  refine sk hk rfl rfl rfl fun a hk => ?_
                  refine sk hk rfl rfl rfl fun a hk => ?_
                  refine sv (.bool false) hk rfl rfl rfl fun a hk => ?_
                  refine sm _ rfl hk rfl rfl rfl fun a hk => ?_
                  refine sk hk rfl rfl rfl fun a hk => ?_
                  refine sk hk rfl rfl rfl fun a hk => ?_
                  refine sk hk rfl rfl rfl fun a hk => ?_
                  refine sv (.bool false) hk rfl rfl rfl fun a hk => ?_
                  refine sa _ rfl hk rfl rfl rfl fun a hk => ?_
                  show wpList _ _ _ [] _ _
                  refine wpList_nil ?_
                  obtain rfl := Option.some.inj H
                  show R114 _ _
                  rw [hR114]
                  exact ⟨false, rfl, (hk.c 4 rfl hk.k), (hs.pick [] rfl)⟩
              · have hk := hk.lit 91 c115 rfl
                refine sk hk rfl rfl rfl fun a hk => ?_
                refine sk hk rfl rfl rfl fun a hk => ?_
                refine sk hk rfl rfl rfl fun a hk => ?_
                refine sv (.bool false) hk rfl rfl rfl fun a hk => ?_
                refine sm _ rfl hk rfl rfl rfl fun a hk => ?_
                refine sk hk rfl rfl rfl fun a hk => ?_
                refine sk hk rfl rfl rfl fun a hk => ?_
                refine sk hk rfl rfl rfl fun a hk => ?_
                refine sk hk rfl rfl rfl fun a hk => ?_
                refine sv (.bool false) hk rfl rfl rfl fun a hk => ?_
                refine sm _ rfl hk rfl rfl rfl fun a hk => ?_
                refine sk hk rfl rfl rfl fun a hk => ?_
                refine sk hk rfl rfl rfl fun a hk => ?_
                refine sk hk rfl rfl rfl fun a hk => ?_
                refine sv (.bool false) hk rfl rfl rfl fun a hk => ?_
                refine sa _ rfl hk rfl rfl rfl fun a hk => ?_
                show wpList _ _ _ [] _ _
                refine wpList_nil ?_
                obtain rfl := Option.some.inj H
                show R114 _ _
                rw [hR114]
                exact ⟨false, rfl, (hk.c 4 rfl hk.k), (hs.pick [] rfl)⟩
            · intro a w hR0
              rw [hR114] at hR0
              obtain ⟨u110, rfl, hk, hs⟩ := hR0
              have H := HL113
              try dsimp only at H
              refine hK108 _ _ ?_
              refine wp_ret ?_
              obtain rfl := Option.some.inj H
              exact fin hk _ [(.bool u110)] rfl ⟨rfl, trivial⟩ ⟨rfl, (hs.pick [] rfl).dnil⟩

end Go.Proofs.Ytlbbkehdfgjneaa
