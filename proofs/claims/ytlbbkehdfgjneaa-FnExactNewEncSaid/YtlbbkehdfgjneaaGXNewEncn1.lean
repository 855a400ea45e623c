/- Further functions. -/
import Derived.Test.YtlbbkehdfgjneaaGXNewEnc
namespace Go.Proofs.Ytlbbkehdfgjneaa
open Go Go.Z Go.Proofs Go.MuLone Go.ChangeShapes Go.WideShapes Go.ChangeAt Go.RowKit
set_option linter.unusedVariables false
set_option linter.unusedSimpArgs false
noncomputable def laws_FnExactNewEnc.f (l0 : List Int) : Option (Bool) :=
  (bif (decide ((l0.length : Int) > 1048576)) then (some true) else ((laws_toIntS.f l0).bind fun y7 => ((spec_NewEnc.f y7).bind fun y13 => ((laws_toIntS.f l0).bind fun y33 => ((impl_NewEnc.f y33).bind fun y40 => ((((laws_eqEnc.f y40.1 y13.1).bind fun y67 => (bif (!y67) then (some true) else (some (y40.2 != y13.2)))) : Option (Bool)).bind fun u62 => (bif u62 then (some false) else ((laws_toIntS.f l0).bind fun y74 => ((laws_eqIntS.f y33 y74).bind fun y80 => (bif (!y80) then (some false) else ((laws_markIntS.f y33 1).bind fun y86 => (((bif (decide (y86.1 < 0)) then (some true) else ((laws_eqEnc.f y40.1 y13.1).bind fun y101 => (bif (!y101) then (some true) else (some (y40.2 != y13.2))))) : Option (Bool)).bind fun u95 => (bif u95 then (some false) else ((laws_markEnc.f y40.1 1).bind fun y108 => ((laws_heldEnc.f (⟨y108.2.1, (⟨y108.2.2.1, y108.2.2.2.1, y108.2.2.2.2⟩ : S_Oram)⟩ : S_Enc) 1).bind fun y128 => (bif (decide (y128 < 0)) then (some false) else (bif (y128 != y108.1) then (some false) else ((laws_toIntS.f l0).bind fun y139 => ((impl_NewEnc.f y139).bind fun y145 => ((((laws_eqEnc.f y145.1 y13.1).bind fun y172 => (bif (!y172) then (some true) else (some (y145.2 != y13.2)))) : Option (Bool)).bind fun u167 => (bif u167 then (some false) else ((laws_heldEnc.f (⟨y108.2.1, (⟨y108.2.2.1, y108.2.2.2.1, y108.2.2.2.2⟩ : S_Oram)⟩ : S_Enc) 1).bind fun y179 => (bif (decide (y179 < 0)) then (some false) else (bif (y179 != y108.1) then (some false) else (some true)))))))))))))))))))))))))
set_option maxRecDepth 100000 in
set_option maxHeartbeats 0 in
theorem laws_FnExactNewEnc_t (w0 : World) (A0_ : Option Addr) (p0_ : Nat) (l0 : List Int) (k0_ : Chunk) (v0_ : View (Lay.int .i64) A0_ p0_ l0 k0_) (w0_ : Has w0 k0_) (r : Bool) (H : laws_FnExactNewEnc.f l0 = some r) :
    Calls Try.prog 10 #[.slice A0_ l0.length p0_] w0 (Ret (fun v w => v = .bool r ∧ Sat [] w0 w [] [])) := by
  have hs : Sat [] w0 w0 [(1, k0_)] [] := Sat.init w0 [(1, k0_)] [] (by simp only [List.mem_cons, List.not_mem_nil, or_false]; rintro x (rfl) <;> assumption) (by simp) List.nodup_nil (by simp [blks])
  unfold laws_FnExactNewEnc.f at H
  refine enter Try.func10 rfl Try.ntmps10 rfl fun a hk => ?_
  apply wp_seq_k; intro K1 hK1
  apply wp_region_lit
  refine sa _ rfl hk rfl rfl rfl fun a hk => ?_
  show wpList _ _ _ [] _ _
  refine wpList_nil ?_
  refine hK1 _ _ ?_
  apply wp_seq_k; intro K2 hK2
  apply wp_seq_k; intro K3 hK3
  apply wp_region_lit
  refine sm _ rfl hk rfl rfl rfl fun a hk => ?_
  refine sle rfl hk rfl rfl rfl un27 fun a hk => ?_
  refine sv (.bool (decide ((l0.length : Int) > 1048576))) hk rfl rfl rfl fun a hk => ?_
  show wpList _ _ _ [] _ _
  refine wpList_nil ?_
  refine hK3 _ _ ?_
  rcases cond_some H with ⟨c4, H⟩ | ⟨c4, H⟩
  · have hk := hk.lit 15 c4 rfl
    refine cnd_true hk rfl rfl ?_
    apply wp_seq_k; intro K5 hK5
    apply wp_region_lit
    refine sa _ rfl hk rfl rfl rfl fun a hk => ?_
    show wpList _ _ _ [] _ _
    refine wpList_nil ?_
    refine hK5 _ _ ?_
    refine wp_ret ?_
    obtain rfl := Option.some.inj H
    exact fin hk _ [(.bool true)] rfl ⟨rfl, trivial⟩ ⟨rfl, (hs.pick [] rfl).dnil⟩
  · have hk := hk.lit 15 c4 rfl
    refine cnd_false hk rfl rfl ?_
    refine wp_skip ?_
    refine hK2 _ _ ?_
    apply wp_seq_k; intro K6 hK6
    apply wp_region_lit
    refine sm _ rfl hk rfl rfl rfl fun a hk => ?_
    obtain ⟨y7, h8, H⟩ := bind_some H
    refine sc rfl en58 hk rfl rfl rfl (laws_toIntS_t _ A0_ p0_ l0 _ v0_ (hs.hasD (k := 1) rfl) _ h8) ?_
    rintro _ w ⟨A9, p10, k11, rfl, o12, hG⟩ a hk
    have hs := hs.call0k hG [2] rfl
    obtain ⟨y13, h14, H⟩ := bind_some H
    refine sc rfl en57 hk rfl rfl rfl (spec_NewEnc_t _ A9 p10 y7 _ o12.view (hs.hasG (k := 2) rfl) _ h14) ?_
    rintro _ w ⟨A15, p16, k17, A19, p20, k21, A23, p24, k25, A27, p28, k29, rfl, o18, o22, o26, o30, hG⟩ a hk
    have hs := hs.call0k hG [3, 4, 5, 6] rfl
    refine sm _ rfl hk rfl rfl rfl fun a hk => ?_
    refine sv (.agg #[.slice A15 y13.1.Keys.length p16, .slice A19 y13.1.Oram.Pos.length p20, .slice A23 y13.1.Oram.Stash.length p24, .slice A27 y13.1.Oram.Buckets.length p28]) hk rfl rfl rfl fun a hk => ?_
    refine sv (.int .i64 y13.2) hk rfl rfl rfl fun a hk => ?_
    refine salx 7 hs rfl hk rfl rfl ze95 rfl fun b31 w a hk hs => ?_
    refine ssw 7 hs rfl rfl hk rfl rfl rfl rfl sz95 (by simp [Value.oneCell']) rfl fun w a hk hs => ?_
    refine sa _ rfl hk rfl rfl rfl fun a hk => ?_
    show wpList _ _ _ [] _ _
    refine wpList_nil ?_
    refine hK6 _ _ ?_
    apply wp_seq_k; intro K32 hK32
    apply wp_region_lit
    refine sm _ rfl hk rfl rfl rfl fun a hk => ?_
    obtain ⟨y33, h34, H⟩ := bind_some H
    refine sc rfl en58 hk rfl rfl rfl (laws_toIntS_t _ A0_ p0_ l0 _ v0_ (hs.hasD (k := 1) rfl) _ h34) ?_
    rintro _ w ⟨A35, p36, k37, rfl, o38, hG⟩ a hk
    have hs := hs.call0k hG [8] rfl
    refine sa _ rfl hk rfl rfl rfl fun a hk => ?_
    show wpList _ _ _ [] _ _
    refine wpList_nil ?_
    refine hK32 _ _ ?_
    apply wp_seq_k; intro K39 hK39
    apply wp_region_lit
    refine sm _ rfl hk rfl rfl rfl fun a hk => ?_
    obtain ⟨y40, h41, H⟩ := bind_some H
    refine sc rfl en59 hk rfl rfl rfl (impl_NewEnc_t _ A35 p36 y33 _ o38.view (hs.hasG (k := 8) rfl) _ h41) ?_
    rintro _ w ⟨A42, p43, k44, A46, p47, k48, A50, p51, k52, A54, p55, k56, rfl, o45, o49, o53, o57, hG⟩ a hk
    have hs := hs.call0k hG [9, 10, 11, 12] rfl
    refine sm _ rfl hk rfl rfl rfl fun a hk => ?_
    refine sv (.agg #[.slice A42 y40.1.Keys.length p43, .slice A46 y40.1.Oram.Pos.length p47, .slice A50 y40.1.Oram.Stash.length p51, .slice A54 y40.1.Oram.Buckets.length p55]) hk rfl rfl rfl fun a hk => ?_
    refine sv (.int .i64 y40.2) hk rfl rfl rfl fun a hk => ?_
    refine salx 13 hs rfl hk rfl rfl ze95 rfl fun b58 w a hk hs => ?_
    refine ssw 13 hs rfl rfl hk rfl rfl rfl rfl sz95 (by simp [Value.oneCell']) rfl fun w a hk hs => ?_
    refine sa _ rfl hk rfl rfl rfl fun a hk => ?_
    show wpList _ _ _ [] _ _
    refine wpList_nil ?_
    refine hK39 _ _ ?_
    apply wp_seq_k; intro K59 hK59
    apply wp_seq_k; intro K60 hK60
    obtain ⟨o63, h64, HL65⟩ := bind_some H
    clear H
    obtain ⟨R66, hR66⟩ : ∃ R : Act → World → Prop, R = fun a w => ∃ (u62 : Bool), u62 = o63 ∧ Kn [(0, (.slice A0_ l0.length p0_)), (3, (.pointer (some ⟨b31, 0, none⟩))), (4, (.int .i64 y13.2)), (5, (.slice A35 y33.length p36)), (6, (.pointer (some ⟨b58, 0, none⟩))), (7, (.int .i64 y40.2)), (37, (.bool u62))] 93 a ∧ Sat [] w0 w [(1, k0_)] [(8, k37), (7, [(b31, .cells #[.slice A15 y13.1.Keys.length p16, .slice A19 y13.1.Oram.Pos.length p20, .slice A23 y13.1.Oram.Stash.length p24, .slice A27 y13.1.Oram.Buckets.length p28] 95 (0, 0))]), (3, k17), (4, k21), (5, k25), (6, k29), (13, [(b58, .cells #[.slice A42 y40.1.Keys.length p43, .slice A46 y40.1.Oram.Pos.length p47, .slice A50 y40.1.Oram.Stash.length p51, .slice A54 y40.1.Oram.Buckets.length p55] 95 (0, 0))]), (9, k44), (10, k48), (11, k52), (12, k56)] := ⟨_, rfl⟩
    refine wp_cutq R66 ?_ ?_
    · have H := h64
      apply wp_region_lit
      refine sln [.slice A42 y40.1.Keys.length p43, .slice A46 y40.1.Oram.Pos.length p47, .slice A50 y40.1.Oram.Stash.length p51, .slice A54 y40.1.Oram.Buckets.length p55] rfl hk rfl rfl rfl ag95 sz95 (box_cells hs (k := 13) rfl) fun a hk => ?_
      refine sln [.slice A15 y13.1.Keys.length p16, .slice A19 y13.1.Oram.Pos.length p20, .slice A23 y13.1.Oram.Stash.length p24, .slice A27 y13.1.Oram.Buckets.length p28] rfl hk rfl rfl rfl ag95 sz95 (box_cells hs (k := 7) rfl) fun a hk => ?_
      obtain ⟨y67, h68, H⟩ := bind_some H
      refine sc rfl en60 hk rfl rfl rfl (laws_eqEnc_t _ y40.1 A42 p43 _ o45.view (hs.hasG (k := 9) rfl) A46 p47 _ o49.view (hs.hasG (k := 10) rfl) A50 p51 _ o53.view (hs.hasG (k := 11) rfl) A54 p55 _ o57.view (hs.hasG (k := 12) rfl) y13.1 A15 p16 _ o18.view (hs.hasG (k := 3) rfl) A19 p20 _ o22.view (hs.hasG (k := 4) rfl) A23 p24 _ o26.view (hs.hasG (k := 5) rfl) A27 p28 _ o30.view (hs.hasG (k := 6) rfl) _ h68) ?_
      rintro _ w ⟨rfl, hG⟩ a hk
      have hs := hs.call0 hG
      refine sv (.bool (!y67)) hk rfl rfl rfl fun a hk => ?_
      refine sm _ rfl hk rfl rfl rfl fun a hk => ?_
      rcases cond_some H with ⟨c69, H⟩ | ⟨c69, H⟩
      · have hk := hk.lit 33 c69 rfl
        refine sk hk rfl rfl rfl fun a hk => ?_
        refine sk hk rfl rfl rfl fun a hk => ?_
        refine sk hk rfl rfl rfl fun a hk => ?_
        refine sv (.bool true) hk rfl rfl rfl fun a hk => ?_
        show wpList _ _ _ [] _ _
        refine wpList_nil ?_
        obtain rfl := Option.some.inj H
        show R66 _ _
        rw [hR66]
        exact ⟨true, rfl, (hk.c 0 rfl (hk.c 3 rfl (hk.c 4 rfl (hk.c 5 rfl (hk.c 6 rfl (hk.c 7 rfl (hk.c 37 rfl hk.k))))))), (hs.pick [(8, 8), (7, 7), (3, 3), (4, 4), (5, 5), (6, 6), (13, 13), (9, 9), (10, 10), (11, 11), (12, 12)] rfl)⟩
      · have hk := hk.lit 33 c69 rfl
        refine sm _ rfl hk rfl rfl rfl fun a hk => ?_
        refine sm _ rfl hk rfl rfl rfl fun a hk => ?_
        refine sv (.bool (y40.2 != y13.2)) hk rfl rfl rfl fun a hk => ?_
        refine sv (.bool (y40.2 != y13.2)) hk rfl rfl rfl fun a hk => ?_
        show wpList _ _ _ [] _ _
        refine wpList_nil ?_
        obtain rfl := Option.some.inj H
        show R66 _ _
        rw [hR66]
        exact ⟨(y40.2 != y13.2), rfl, (hk.c 0 rfl (hk.c 3 rfl (hk.c 4 rfl (hk.c 5 rfl (hk.c 6 rfl (hk.c 7 rfl (hk.c 37 rfl hk.k))))))), (hs.pick [(8, 8), (7, 7), (3, 3), (4, 4), (5, 5), (6, 6), (13, 13), (9, 9), (10, 10), (11, 11), (12, 12)] rfl)⟩
    · intro a w hR0
      rw [hR66] at hR0
      obtain ⟨u62, rfl, hk, hs⟩ := hR0
      have H := HL65
      try dsimp only at H
      refine hK60 _ _ ?_
      rcases cond_some H with ⟨c70, H⟩ | ⟨c70, H⟩
      · have hk := hk.lit 37 c70 rfl
        refine cnd_true hk rfl rfl ?_
        apply wp_seq_k; intro K71 hK71
        apply wp_region_lit
        refine sa _ rfl hk rfl rfl rfl fun a hk => ?_
        show wpList _ _ _ [] _ _
        refine wpList_nil ?_
        refine hK71 _ _ ?_
        refine wp_ret ?_
        obtain rfl := Option.some.inj H
        exact fin hk _ [(.bool false)] rfl ⟨rfl, trivial⟩ ⟨rfl, (hs.pick [] rfl).dnil⟩
      · have hk := hk.lit 37 c70 rfl
        refine cnd_false hk rfl rfl ?_
        refine wp_skip ?_
        refine hK59 _ _ ?_
        apply wp_seq_k; intro K72 hK72
        apply wp_seq_k; intro K73 hK73
        apply wp_region_lit
        refine sm _ rfl hk rfl rfl rfl fun a hk => ?_
        refine sm _ rfl hk rfl rfl rfl fun a hk => ?_
        obtain ⟨y74, h75, H⟩ := bind_some H
        refine sc rfl en58 hk rfl rfl rfl (laws_toIntS_t _ A0_ p0_ l0 _ v0_ (hs.hasD (k := 1) rfl) _ h75) ?_
        rintro _ w ⟨A76, p77, k78, rfl, o79, hG⟩ a hk
        have hs := hs.call0k hG [15] rfl
        obtain ⟨y80, h81, H⟩ := bind_some H
        refine sc rfl en17 hk rfl rfl rfl (laws_eqIntS_t _ A35 p36 y33 _ o38.view (hs.hasG (k := 8) rfl) A76 p77 y74 _ o79.view (hs.hasG (k := 15) rfl) _ h81) ?_
        rintro _ w ⟨rfl, hG⟩ a hk
        have hs := hs.call0 hG
        refine sv (.bool (!y80)) hk rfl rfl rfl fun a hk => ?_
        show wpList _ _ _ [] _ _
        refine wpList_nil ?_
        refine hK73 _ _ ?_
        rcases cond_some H with ⟨c82, H⟩ | ⟨c82, H⟩
        · have hk := hk.lit 42 c82 rfl
          refine cnd_true hk rfl rfl ?_
          apply wp_seq_k; intro K83 hK83
          apply wp_region_lit
          refine sa _ rfl hk rfl rfl rfl fun a hk => ?_
          show wpList _ _ _ [] _ _
          refine wpList_nil ?_
          refine hK83 _ _ ?_
          refine wp_ret ?_
          obtain rfl := Option.some.inj H
          exact fin hk _ [(.bool false)] rfl ⟨rfl, trivial⟩ ⟨rfl, (hs.pick [] rfl).dnil⟩
        · have hk := hk.lit 42 c82 rfl
          refine cnd_false hk rfl rfl ?_
          refine wp_skip ?_
          refine hK72 _ _ ?_
          apply wp_seq_k; intro K84 hK84
          apply wp_region_lit
          refine sa _ rfl hk rfl rfl rfl fun a hk => ?_
          show wpList _ _ _ [] _ _
          refine wpList_nil ?_
          refine hK84 _ _ ?_
          apply wp_seq_k; intro K85 hK85
          apply wp_region_lit
          refine sm _ rfl hk rfl rfl rfl fun a hk => ?_
          refine sm _ rfl hk rfl rfl rfl fun a hk => ?_
          obtain ⟨y86, h87, H⟩ := bind_some H
          refine sc rfl en19 hk rfl rfl rfl (laws_markIntS_t _ A35 p36 y33 _ o38 1 ((hs.hand [(1, 8)] rfl).dpick [] rfl) _ h87) ?_
          rintro _ w ⟨k88, rfl, ⟨o89, lh90⟩, hG⟩ a hk
          have hs := hs.back [(1, 8)] rfl hG [8] rfl
          have lh91 : y86.2.length = y33.length := lh90
          refine sa _ rfl hk rfl rfl rfl fun a hk => ?_
          show wpList _ _ _ [] _ _
          refine wpList_nil ?_
          refine hK85 _ _ ?_
          apply wp_seq_k; intro K92 hK92
          apply wp_seq_k; intro K93 hK93
          obtain ⟨o96, h97, HL98⟩ := bind_some H
          clear H
          obtain ⟨R99, hR99⟩ : ∃ R : Act → World → Prop, R = fun a w => ∃ (u95 : Bool), u95 = o96 ∧ Kn [(0, (.slice A0_ l0.length p0_)), (3, (.pointer (some ⟨b31, 0, none⟩))), (4, (.int .i64 y13.2)), (6, (.pointer (some ⟨b58, 0, none⟩))), (58, (.bool u95))] 93 a ∧ Sat [] w0 w [(1, k0_)] [(7, [(b31, .cells #[.slice A15 y13.1.Keys.length p16, .slice A19 y13.1.Oram.Pos.length p20, .slice A23 y13.1.Oram.Stash.length p24, .slice A27 y13.1.Oram.Buckets.length p28] 95 (0, 0))]), (3, k17), (4, k21), (5, k25), (6, k29), (13, [(b58, .cells #[.slice A42 y40.1.Keys.length p43, .slice A46 y40.1.Oram.Pos.length p47, .slice A50 y40.1.Oram.Stash.length p51, .slice A54 y40.1.Oram.Buckets.length p55] 95 (0, 0))]), (9, k44), (10, k48), (11, k52), (12, k56)] := ⟨_, rfl⟩
          refine wp_cutq R99 ?_ ?_
          · have H := h97
            apply wp_region_lit
            refine sm _ rfl hk rfl rfl rfl fun a hk => ?_
            refine sv (.bool (decide (y86.1 < 0))) hk rfl rfl rfl fun a hk => ?_
            refine sm _ rfl hk rfl rfl rfl fun a hk => ?_
            rcases cond_some H with ⟨c100, H⟩ | ⟨c100, H⟩
            · have hk := hk.lit 48 c100 rfl
              refine sk hk rfl rfl rfl fun a hk => ?_
              refine sk hk rfl rfl rfl fun a hk => ?_
              refine sk hk rfl rfl rfl fun a hk => ?_
              refine sk hk rfl rfl rfl fun a hk => ?_
              refine sv (.bool true) hk rfl rfl rfl fun a hk => ?_
              refine sm _ rfl hk rfl rfl rfl fun a hk => ?_
              refine sk hk rfl rfl rfl fun a hk => ?_
              refine sk hk rfl rfl rfl fun a hk => ?_
              refine sk hk rfl rfl rfl fun a hk => ?_
              refine sv (.bool true) hk rfl rfl rfl fun a hk => ?_
              show wpList _ _ _ [] _ _
              refine wpList_nil ?_
              obtain rfl := Option.some.inj H
              show R99 _ _
              rw [hR99]
              exact ⟨true, rfl, (hk.c 0 rfl (hk.c 3 rfl (hk.c 4 rfl (hk.c 6 rfl (hk.c 58 rfl hk.k))))), (hs.pick [(7, 7), (3, 3), (4, 4), (5, 5), (6, 6), (13, 13), (9, 9), (10, 10), (11, 11), (12, 12)] rfl)⟩
            · have hk := hk.lit 48 c100 rfl
              refine sln [.slice A42 y40.1.Keys.length p43, .slice A46 y40.1.Oram.Pos.length p47, .slice A50 y40.1.Oram.Stash.length p51, .slice A54 y40.1.Oram.Buckets.length p55] rfl hk rfl rfl rfl ag95 sz95 (box_cells hs (k := 13) rfl) fun a hk => ?_
              refine sln [.slice A15 y13.1.Keys.length p16, .slice A19 y13.1.Oram.Pos.length p20, .slice A23 y13.1.Oram.Stash.length p24, .slice A27 y13.1.Oram.Buckets.length p28] rfl hk rfl rfl rfl ag95 sz95 (box_cells hs (k := 7) rfl) fun a hk => ?_
              obtain ⟨y101, h102, H⟩ := bind_some H
              refine sc rfl en60 hk rfl rfl rfl (laws_eqEnc_t _ y40.1 A42 p43 _ o45.view (hs.hasG (k := 9) rfl) A46 p47 _ o49.view (hs.hasG (k := 10) rfl) A50 p51 _ o53.view (hs.hasG (k := 11) rfl) A54 p55 _ o57.view (hs.hasG (k := 12) rfl) y13.1 A15 p16 _ o18.view (hs.hasG (k := 3) rfl) A19 p20 _ o22.view (hs.hasG (k := 4) rfl) A23 p24 _ o26.view (hs.hasG (k := 5) rfl) A27 p28 _ o30.view (hs.hasG (k := 6) rfl) _ h102) ?_
              rintro _ w ⟨rfl, hG⟩ a hk
              have hs := hs.call0 hG
              refine sv (.bool (!y101)) hk rfl rfl rfl fun a hk => ?_
              refine sv (.bool (!y101)) hk rfl rfl rfl fun a hk => ?_
              refine sm _ rfl hk rfl rfl rfl fun a hk => ?_
              rcases cond_some H with ⟨c103, H⟩ | ⟨c103, H⟩
              · have hk := hk.lit 54 c103 rfl
                refine sk hk rfl rfl rfl fun a hk => ?_
                refine sk hk rfl rfl rfl fun a hk => ?_
                refine sk hk rfl rfl rfl fun a hk => ?_
                refine sv (.bool true) hk rfl rfl rfl fun a hk => ?_
                show wpList _ _ _ [] _ _
                refine wpList_nil ?_
                obtain rfl := Option.some.inj H
                show R99 _ _
                rw [hR99]
                exact ⟨true, rfl, (hk.c 0 rfl (hk.c 3 rfl (hk.c 4 rfl (hk.c 6 rfl (hk.c 58 rfl hk.k))))), (hs.pick [(7, 7), (3, 3), (4, 4), (5, 5), (6, 6), (13, 13), (9, 9), (10, 10), (11, 11), (12, 12)] rfl)⟩
              · have hk := hk.lit 54 c103 rfl
                refine sm _ rfl hk rfl rfl rfl fun a hk => ?_
                refine sm _ rfl hk rfl rfl rfl fun a hk => ?_
                refine sv (.bool (y40.2 != y13.2)) hk rfl rfl rfl fun a hk => ?_
                refine sv (.bool (y40.2 != y13.2)) hk rfl rfl rfl fun a hk => ?_
                show wpList _ _ _ [] _ _
                refine wpList_nil ?_
                obtain rfl := Option.some.inj H
                show R99 _ _
                rw [hR99]
                exact ⟨(y40.2 != y13.2), rfl, (hk.c 0 rfl (hk.c 3 rfl (hk.c 4 rfl (hk.c 6 rfl (hk.c 58 rfl hk.k))))), (hs.pick [(7, 7), (3, 3), (4, 4), (5, 5), (6, 6), (13, 13), (9, 9), (10, 10), (11, 11), (12, 12)] rfl)⟩
          · intro a w hR0
            rw [hR99] at hR0
            obtain ⟨u95, rfl, hk, hs⟩ := hR0
            have H := HL98
            try dsimp only at H
            refine hK93 _ _ ?_
            rcases cond_some H with ⟨c104, H⟩ | ⟨c104, H⟩
            · have hk := hk.lit 58 c104 rfl
              refine cnd_true hk rfl rfl ?_
              apply wp_seq_k; intro K105 hK105
              apply wp_region_lit
              refine sa _ rfl hk rfl rfl rfl fun a hk => ?_
              show wpList _ _ _ [] _ _
              refine wpList_nil ?_
              refine hK105 _ _ ?_
              refine wp_ret ?_
              obtain rfl := Option.some.inj H
              exact fin hk _ [(.bool false)] rfl ⟨rfl, trivial⟩ ⟨rfl, (hs.pick [] rfl).dnil⟩
            · have hk := hk.lit 58 c104 rfl
              refine cnd_false hk rfl rfl ?_
              refine wp_skip ?_
              refine hK92 _ _ ?_
              apply wp_seq_k; intro K106 hK106
              apply wp_region_lit
              refine sa _ rfl hk rfl rfl rfl fun a hk => ?_
              show wpList _ _ _ [] _ _
              refine wpList_nil ?_
              refine hK106 _ _ ?_
              apply wp_seq_k; intro K107 hK107
              apply wp_region_lit
              refine sln [.slice A42 y40.1.Keys.length p43, .slice A46 y40.1.Oram.Pos.length p47, .slice A50 y40.1.Oram.Stash.length p51, .slice A54 y40.1.Oram.Buckets.length p55] rfl hk rfl rfl rfl ag95 sz95 (box_cells hs (k := 13) rfl) fun a hk => ?_
              refine sm _ rfl hk rfl rfl rfl fun a hk => ?_
              obtain ⟨y108, h109, H⟩ := bind_some H
              refine sc rfl en61 hk rfl rfl rfl (laws_markEnc_t _ y40.1 A42 p43 _ o45 A46 p47 _ o49 A50 p51 _ o53 A54 p55 _ o57 1 ((hs.hand [(1, 9), (2, 10), (3, 11), (4, 12)] rfl).dpick [] rfl) _ h109) ?_
              rintro _ w ⟨k110, k113, k116, k119, rfl, ⟨o111, lh112⟩, ⟨o114, lh115⟩, ⟨o117, lh118⟩, ⟨o120, lh121⟩, hG⟩ a hk
              have hs := hs.back [(1, 9), (2, 10), (3, 11), (4, 12)] rfl hG [9, 10, 11, 12] rfl
              have lh122 : y108.2.1.length = y40.1.Keys.length := lh112
              have lh123 : y108.2.2.1.length = y40.1.Oram.Pos.length := lh115
              have lh124 : y108.2.2.2.1.length = y40.1.Oram.Stash.length := lh118
              have lh125 : y108.2.2.2.2.length = y40.1.Oram.Buckets.length := lh121
              refine sa _ rfl hk rfl rfl rfl fun a hk => ?_
              show wpList _ _ _ [] _ _
              refine wpList_nil ?_
              refine hK107 _ _ ?_
              apply wp_seq_k; intro K126 hK126
              apply wp_region_lit
              refine sa _ rfl hk rfl rfl rfl fun a hk => ?_
              show wpList _ _ _ [] _ _
              refine wpList_nil ?_
              refine hK126 _ _ ?_
              apply wp_seq_k; intro K127 hK127
              apply wp_region_lit
              refine sln [.slice A42 y40.1.Keys.length p43, .slice A46 y40.1.Oram.Pos.length p47, .slice A50 y40.1.Oram.Stash.length p51, .slice A54 y40.1.Oram.Buckets.length p55] rfl hk rfl rfl rfl ag95 sz95 (box_cells hs (k := 13) rfl) fun a hk => ?_
              refine sm _ rfl hk rfl rfl rfl fun a hk => ?_
              have hk := hk.re 62 (v' := (.agg #[.slice A42 y108.2.1.length p43, .slice A46 y108.2.2.1.length p47, .slice A50 y108.2.2.2.1.length p51, .slice A54 y108.2.2.2.2.length p55])) rfl (by rw [lh122, lh123, lh124, lh125])
              obtain ⟨y128, h129, H⟩ := bind_some H
              refine sc rfl en62 hk rfl rfl rfl (laws_heldEnc_t _ (⟨y108.2.1, (⟨y108.2.2.1, y108.2.2.2.1, y108.2.2.2.2⟩ : S_Oram)⟩ : S_Enc) A42 p43 _ o111.view (hs.hasG (k := 9) rfl) A46 p47 _ o114.view (hs.hasG (k := 10) rfl) A50 p51 _ o117.view (hs.hasG (k := 11) rfl) A54 p55 _ o120.view (hs.hasG (k := 12) rfl) 1 _ h129) ?_
              rintro _ w ⟨rfl, hG⟩ a hk
              have hs := hs.call0 hG
              refine sa _ rfl hk rfl rfl rfl fun a hk => ?_
              show wpList _ _ _ [] _ _
              refine wpList_nil ?_
              refine hK127 _ _ ?_
              apply wp_seq_k; intro K130 hK130
              apply wp_seq_k; intro K131 hK131
              apply wp_region_lit
              refine sm _ rfl hk rfl rfl rfl fun a hk => ?_
              refine sv (.bool (decide (y128 < 0))) hk rfl rfl rfl fun a hk => ?_
              show wpList _ _ _ [] _ _
              refine wpList_nil ?_
              refine hK131 _ _ ?_
              rcases cond_some H with ⟨c132, H⟩ | ⟨c132, H⟩
              · have hk := hk.lit 66 c132 rfl
                refine cnd_true hk rfl rfl ?_
                apply wp_seq_k; intro K133 hK133
                apply wp_region_lit
                refine sa _ rfl hk rfl rfl rfl fun a hk => ?_
                show wpList _ _ _ [] _ _
                refine wpList_nil ?_
                refine hK133 _ _ ?_
                refine wp_ret ?_
                obtain rfl := Option.some.inj H
                exact fin hk _ [(.bool false)] rfl ⟨rfl, trivial⟩ ⟨rfl, (hs.pick [] rfl).dnil⟩
              · have hk := hk.lit 66 c132 rfl
                refine cnd_false hk rfl rfl ?_
                refine wp_skip ?_
                refine hK130 _ _ ?_
                apply wp_seq_k; intro K134 hK134
                apply wp_seq_k; intro K135 hK135
                apply wp_region_lit
                refine sm _ rfl hk rfl rfl rfl fun a hk => ?_
                refine sm _ rfl hk rfl rfl rfl fun a hk => ?_
                refine sv (.bool (y128 != y108.1)) hk rfl rfl rfl fun a hk => ?_
                show wpList _ _ _ [] _ _
                refine wpList_nil ?_
                refine hK135 _ _ ?_
                rcases cond_some H with ⟨c136, H⟩ | ⟨c136, H⟩
                · have hk := hk.lit 69 c136 rfl
                  refine cnd_true hk rfl rfl ?_
                  apply wp_seq_k; intro K137 hK137
                  apply wp_region_lit
                  refine sa _ rfl hk rfl rfl rfl fun a hk => ?_
                  show wpList _ _ _ [] _ _
                  refine wpList_nil ?_
                  refine hK137 _ _ ?_
                  refine wp_ret ?_
                  obtain rfl := Option.some.inj H
                  exact fin hk _ [(.bool false)] rfl ⟨rfl, trivial⟩ ⟨rfl, (hs.pick [] rfl).dnil⟩
                · have hk := hk.lit 69 c136 rfl
                  refine cnd_false hk rfl rfl ?_
                  refine wp_skip ?_
                  refine hK134 _ _ ?_
                  apply wp_seq_k; intro K138 hK138
                  apply wp_region_lit
                  refine sm _ rfl hk rfl rfl rfl fun a hk => ?_
                  obtain ⟨y139, h140, H⟩ := bind_some H
                  refine sc rfl en58 hk rfl rfl rfl (laws_toIntS_t _ A0_ p0_ l0 _ v0_ (hs.hasD (k := 1) rfl) _ h140) ?_
                  rintro _ w ⟨A141, p142, k143, rfl, o144, hG⟩ a hk
                  have hs := hs.call0k hG [17] rfl
                  obtain ⟨y145, h146, H⟩ := bind_some H
                  refine sc rfl en59 hk rfl rfl rfl (impl_NewEnc_t _ A141 p142 y139 _ o144.view (hs.hasG (k := 17) rfl) _ h146) ?_
                  rintro _ w ⟨A147, p148, k149, A151, p152, k153, A155, p156, k157, A159, p160, k161, rfl, o150, o154, o158, o162, hG⟩ a hk
                  have hs := hs.call0k hG [18, 19, 20, 21] rfl
                  refine sm _ rfl hk rfl rfl rfl fun a hk => ?_
                  refine sv (.agg #[.slice A147 y145.1.Keys.length p148, .slice A151 y145.1.Oram.Pos.length p152, .slice A155 y145.1.Oram.Stash.length p156, .slice A159 y145.1.Oram.Buckets.length p160]) hk rfl rfl rfl fun a hk => ?_
                  refine sv (.int .i64 y145.2) hk rfl rfl rfl fun a hk => ?_
                  refine salx 22 hs rfl hk rfl rfl ze95 rfl fun b163 w a hk hs => ?_
                  refine ssw 22 hs rfl rfl hk rfl rfl rfl rfl sz95 (by simp [Value.oneCell']) rfl fun w a hk hs => ?_
                  refine sa _ rfl hk rfl rfl rfl fun a hk => ?_
                  show wpList _ _ _ [] _ _
                  refine wpList_nil ?_
                  refine hK138 _ _ ?_
                  apply wp_seq_k; intro K164 hK164
                  apply wp_seq_k; intro K165 hK165
                  obtain ⟨o168, h169, HL170⟩ := bind_some H
                  clear H
                  obtain ⟨R171, hR171⟩ : ∃ R : Act → World → Prop, R = fun a w => ∃ (u167 : Bool), u167 = o168 ∧ Kn [(6, (.pointer (some ⟨b58, 0, none⟩))), (9, (.int .i64 y108.1)), (84, (.bool u167))] 93 a ∧ Sat [] w0 w [(1, k0_)] [(13, [(b58, .cells #[.slice A42 y40.1.Keys.length p43, .slice A46 y40.1.Oram.Pos.length p47, .slice A50 y40.1.Oram.Stash.length p51, .slice A54 y40.1.Oram.Buckets.length p55] 95 (0, 0))]), (9, k110), (10, k113), (11, k116), (12, k119)] := ⟨_, rfl⟩
                  refine wp_cutq R171 ?_ ?_
                  · have H := h169
                    apply wp_region_lit
                    refine sln [.slice A147 y145.1.Keys.length p148, .slice A151 y145.1.Oram.Pos.length p152, .slice A155 y145.1.Oram.Stash.length p156, .slice A159 y145.1.Oram.Buckets.length p160] rfl hk rfl rfl rfl ag95 sz95 (box_cells hs (k := 22) rfl) fun a hk => ?_
                    refine sln [.slice A15 y13.1.Keys.length p16, .slice A19 y13.1.Oram.Pos.length p20, .slice A23 y13.1.Oram.Stash.length p24, .slice A27 y13.1.Oram.Buckets.length p28] rfl hk rfl rfl rfl ag95 sz95 (box_cells hs (k := 7) rfl) fun a hk => ?_
                    obtain ⟨y172, h173, H⟩ := bind_some H
                    refine sc rfl en60 hk rfl rfl rfl (laws_eqEnc_t _ y145.1 A147 p148 _ o150.view (hs.hasG (k := 18) rfl) A151 p152 _ o154.view (hs.hasG (k := 19) rfl) A155 p156 _ o158.view (hs.hasG (k := 20) rfl) A159 p160 _ o162.view (hs.hasG (k := 21) rfl) y13.1 A15 p16 _ o18.view (hs.hasG (k := 3) rfl) A19 p20 _ o22.view (hs.hasG (k := 4) rfl) A23 p24 _ o26.view (hs.hasG (k := 5) rfl) A27 p28 _ o30.view (hs.hasG (k := 6) rfl) _ h173) ?_
                    rintro _ w ⟨rfl, hG⟩ a hk
                    have hs := hs.call0 hG
                    refine sv (.bool (!y172)) hk rfl rfl rfl fun a hk => ?_
                    refine sm _ rfl hk rfl rfl rfl fun a hk => ?_
                    rcases cond_some H with ⟨c174, H⟩ | ⟨c174, H⟩
                    · have hk := hk.lit 80 c174 rfl
                      refine sk hk rfl rfl rfl fun a hk => ?_
                      refine sk hk rfl rfl rfl fun a hk => ?_
                      refine sk hk rfl rfl rfl fun a hk => ?_
                      refine sv (.bool true) hk rfl rfl rfl fun a hk => ?_
                      show wpList _ _ _ [] _ _
                      refine wpList_nil ?_
                      obtain rfl := Option.some.inj H
                      show R171 _ _
                      rw [hR171]
                      exact ⟨true, rfl, (hk.c 6 rfl (hk.c 9 rfl (hk.c 84 rfl hk.k))), (hs.pick [(13, 13), (9, 9), (10, 10), (11, 11), (12, 12)] rfl)⟩
                    · have hk := hk.lit 80 c174 rfl
                      refine sm _ rfl hk rfl rfl rfl fun a hk => ?_
                      refine sm _ rfl hk rfl rfl rfl fun a hk => ?_
                      refine sv (.bool (y145.2 != y13.2)) hk rfl rfl rfl fun a hk => ?_
                      refine sv (.bool (y145.2 != y13.2)) hk rfl rfl rfl fun a hk => ?_
                      show wpList _ _ _ [] _ _
                      refine wpList_nil ?_
                      obtain rfl := Option.some.inj H
                      show R171 _ _
                      rw [hR171]
                      exact ⟨(y145.2 != y13.2), rfl, (hk.c 6 rfl (hk.c 9 rfl (hk.c 84 rfl hk.k))), (hs.pick [(13, 13), (9, 9), (10, 10), (11, 11), (12, 12)] rfl)⟩
                  · intro a w hR0
                    rw [hR171] at hR0
                    obtain ⟨u167, rfl, hk, hs⟩ := hR0
                    have H := HL170
                    try dsimp only at H
                    refine hK165 _ _ ?_
                    rcases cond_some H with ⟨c175, H⟩ | ⟨c175, H⟩
                    · have hk := hk.lit 84 c175 rfl
                      refine cnd_true hk rfl rfl ?_
                      apply wp_seq_k; intro K176 hK176
                      apply wp_region_lit
                      refine sa _ rfl hk rfl rfl rfl fun a hk => ?_
                      show wpList _ _ _ [] _ _
                      refine wpList_nil ?_
                      refine hK176 _ _ ?_
                      refine wp_ret ?_
                      obtain rfl := Option.some.inj H
                      exact fin hk _ [(.bool false)] rfl ⟨rfl, trivial⟩ ⟨rfl, (hs.pick [] rfl).dnil⟩
                    · have hk := hk.lit 84 c175 rfl
                      refine cnd_false hk rfl rfl ?_
                      refine wp_skip ?_
                      refine hK164 _ _ ?_
                      apply wp_seq_k; intro K177 hK177
                      apply wp_region_lit
                      refine sa _ rfl hk rfl rfl rfl fun a hk => ?_
                      show wpList _ _ _ [] _ _
                      refine wpList_nil ?_
                      refine hK177 _ _ ?_
                      apply wp_seq_k; intro K178 hK178
                      apply wp_region_lit
                      refine sln [.slice A42 y40.1.Keys.length p43, .slice A46 y40.1.Oram.Pos.length p47, .slice A50 y40.1.Oram.Stash.length p51, .slice A54 y40.1.Oram.Buckets.length p55] rfl hk rfl rfl rfl ag95 sz95 (box_cells hs (k := 13) rfl) fun a hk => ?_
                      refine sm _ rfl hk rfl rfl rfl fun a hk => ?_
                      have hk := hk.re 85 (v' := (.agg #[.slice A42 y108.2.1.length p43, .slice A46 y108.2.2.1.length p47, .slice A50 y108.2.2.2.1.length p51, .slice A54 y108.2.2.2.2.length p55])) rfl (by rw [lh122, lh123, lh124, lh125])
                      obtain ⟨y179, h180, H⟩ := bind_some H
                      refine sc rfl en62 hk rfl rfl rfl (laws_heldEnc_t _ (⟨y108.2.1, (⟨y108.2.2.1, y108.2.2.2.1, y108.2.2.2.2⟩ : S_Oram)⟩ : S_Enc) A42 p43 _ o111.view (hs.hasG (k := 9) rfl) A46 p47 _ o114.view (hs.hasG (k := 10) rfl) A50 p51 _ o117.view (hs.hasG (k := 11) rfl) A54 p55 _ o120.view (hs.hasG (k := 12) rfl) 1 _ h180) ?_
                      rintro _ w ⟨rfl, hG⟩ a hk
                      have hs := hs.call0 hG
                      refine sa _ rfl hk rfl rfl rfl fun a hk => ?_
                      show wpList _ _ _ [] _ _
                      refine wpList_nil ?_
                      refine hK178 _ _ ?_
                      apply wp_seq_k; intro K181 hK181
                      apply wp_seq_k; intro K182 hK182
                      apply wp_region_lit
                      refine sm _ rfl hk rfl rfl rfl fun a hk => ?_
                      refine sv (.bool (decide (y179 < 0))) hk rfl rfl rfl fun a hk => ?_
                      show wpList _ _ _ [] _ _
                      refine wpList_nil ?_
                      refine hK182 _ _ ?_
                      rcases cond_some H with ⟨c183, H⟩ | ⟨c183, H⟩
                      · have hk := hk.lit 89 c183 rfl
                        refine cnd_true hk rfl rfl ?_
                        apply wp_seq_k; intro K184 hK184
                        apply wp_region_lit
                        refine sa _ rfl hk rfl rfl rfl fun a hk => ?_
                        show wpList _ _ _ [] _ _
                        refine wpList_nil ?_
                        refine hK184 _ _ ?_
                        refine wp_ret ?_
                        obtain rfl := Option.some.inj H
                        exact fin hk _ [(.bool false)] rfl ⟨rfl, trivial⟩ ⟨rfl, (hs.pick [] rfl).dnil⟩
                      · have hk := hk.lit 89 c183 rfl
                        refine cnd_false hk rfl rfl ?_
                        refine wp_skip ?_
                        refine hK181 _ _ ?_
                        apply wp_seq_k; intro K185 hK185
                        apply wp_seq_k; intro K186 hK186
                        apply wp_region_lit
                        refine sm _ rfl hk rfl rfl rfl fun a hk => ?_
                        refine sm _ rfl hk rfl rfl rfl fun a hk => ?_
                        refine sv (.bool (y179 != y108.1)) hk rfl rfl rfl fun a hk => ?_
                        show wpList _ _ _ [] _ _
                        refine wpList_nil ?_
                        refine hK186 _ _ ?_
                        rcases cond_some H with ⟨c187, H⟩ | ⟨c187, H⟩
                        · have hk := hk.lit 92 c187 rfl
                          refine cnd_true hk rfl rfl ?_
                          apply wp_seq_k; intro K188 hK188
                          apply wp_region_lit
                          refine sa _ rfl hk rfl rfl rfl fun a hk => ?_
                          show wpList _ _ _ [] _ _
                          refine wpList_nil ?_
                          refine hK188 _ _ ?_
                          refine wp_ret ?_
                          obtain rfl := Option.some.inj H
                          exact fin hk _ [(.bool false)] rfl ⟨rfl, trivial⟩ ⟨rfl, (hs.pick [] rfl).dnil⟩
                        · have hk := hk.lit 92 c187 rfl
                          refine cnd_false hk rfl rfl ?_
                          refine wp_skip ?_
                          refine hK185 _ _ ?_
                          apply wp_seq_k; intro K189 hK189
                          apply wp_region_lit
                          refine sa _ rfl hk rfl rfl rfl fun a hk => ?_
                          show wpList _ _ _ [] _ _
                          refine wpList_nil ?_
                          refine hK189 _ _ ?_
                          refine wp_ret ?_
                          obtain rfl := Option.some.inj H
                          exact fin hk _ [(.bool true)] rfl ⟨rfl, trivial⟩ ⟨rfl, (hs.pick [] rfl).dnil⟩

end Go.Proofs.Ytlbbkehdfgjneaa
