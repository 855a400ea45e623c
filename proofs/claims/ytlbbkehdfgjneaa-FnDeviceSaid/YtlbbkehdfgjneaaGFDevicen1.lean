/- Further functions. -/
import Derived.Test.YtlbbkehdfgjneaaGFDevice
namespace Go.Proofs.Ytlbbkehdfgjneaa
open Go Go.Z Go.Proofs Go.MuLone Go.ChangeShapes Go.WideShapes Go.ChangeAt Go.RowKit
set_option linter.unusedVariables false
set_option linter.unusedSimpArgs false
noncomputable def impl_Device_crash.s0 (x0 : S_Device) (l1 : List Int) (y5 : (List ByteArray)) (u16 : Int) (u17 : List ByteArray) : Option ((Int × (List ByteArray)) ⊕ Ex ((List ByteArray)) (S_Device)) :=
  (bif (decide (u16 < (x0.Unsure.length : Int))) then (if 0 ≤ u16 ∧ u16 < (x0.Unsure.length : Int) then (((bif (decide ((l1.length : Int) > 0)) then (if (l1.length : Int) = 0 then none else (if 0 ≤ (Int.tmod u16 (l1.length : Int)) ∧ (Int.tmod u16 (l1.length : Int)) < (l1.length : Int) then (some (l1.getD (Int.tmod u16 (l1.length : Int)).toNat 0)) else none)) else (some 0)) : Option (Int)).bind fun u47 => (((bif (u47 == 1) then (if 0 ≤ ((x0.Unsure.getD u16.toNat z_Io).At) ∧ ((x0.Unsure.getD u16.toNat z_Io).At) < (y5.length : Int) then (some (u17.set ((x0.Unsure.getD u16.toNat z_Io).At).toNat ((x0.Unsure.getD u16.toNat z_Io).Data))) else none) else (((bif (u47 == 2) then (if 0 ≤ ((x0.Unsure.getD u16.toNat z_Io).At) ∧ ((x0.Unsure.getD u16.toNat z_Io).At) < (y5.length : Int) then (if 0 ≤ (IntKind.wrap .i64 (Int.tdiv (((x0.Unsure.getD u16.toNat z_Io).Data).size : Int) 2)) ∧ (IntKind.wrap .i64 (Int.tdiv (((x0.Unsure.getD u16.toNat z_Io).Data).size : Int) 2)) ≤ (((x0.Unsure.getD u16.toNat z_Io).Data).size : Int) then (if 0 ≤ (if ((u17.getD ((x0.Unsure.getD u16.toNat z_Io).At).toNat ByteArray.empty).size : Int) < (IntKind.wrap .i64 (Int.tdiv (((x0.Unsure.getD u16.toNat z_Io).Data).size : Int) 2)) then ((u17.getD ((x0.Unsure.getD u16.toNat z_Io).At).toNat ByteArray.empty).size : Int) else (IntKind.wrap .i64 (Int.tdiv (((x0.Unsure.getD u16.toNat z_Io).Data).size : Int) 2))) ∧ (if ((u17.getD ((x0.Unsure.getD u16.toNat z_Io).At).toNat ByteArray.empty).size : Int) < (IntKind.wrap .i64 (Int.tdiv (((x0.Unsure.getD u16.toNat z_Io).Data).size : Int) 2)) then ((u17.getD ((x0.Unsure.getD u16.toNat z_Io).At).toNat ByteArray.empty).size : Int) else (IntKind.wrap .i64 (Int.tdiv (((x0.Unsure.getD u16.toNat z_Io).Data).size : Int) 2))) ≤ ((u17.getD ((x0.Unsure.getD u16.toNat z_Io).At).toNat ByteArray.empty).size : Int) then (if (((x0.Unsure.getD u16.toNat z_Io).Data).extract 0 (IntKind.wrap .i64 (Int.tdiv (((x0.Unsure.getD u16.toNat z_Io).Data).size : Int) 2)).toNat).size + ((u17.getD ((x0.Unsure.getD u16.toNat z_Io).At).toNat ByteArray.empty).extract (if ((u17.getD ((x0.Unsure.getD u16.toNat z_Io).At).toNat ByteArray.empty).size : Int) < (IntKind.wrap .i64 (Int.tdiv (((x0.Unsure.getD u16.toNat z_Io).Data).size : Int) 2)) then ((u17.getD ((x0.Unsure.getD u16.toNat z_Io).At).toNat ByteArray.empty).size : Int) else (IntKind.wrap .i64 (Int.tdiv (((x0.Unsure.getD u16.toNat z_Io).Data).size : Int) 2))).toNat (u17.getD ((x0.Unsure.getD u16.toNat z_Io).At).toNat ByteArray.empty).size).size ≤ 1152921504606846976 then (if 0 ≤ ((x0.Unsure.getD u16.toNat z_Io).At) ∧ ((x0.Unsure.getD u16.toNat z_Io).At) < (y5.length : Int) then (some (u17.set ((x0.Unsure.getD u16.toNat z_Io).At).toNat ((((x0.Unsure.getD u16.toNat z_Io).Data).extract 0 (IntKind.wrap .i64 (Int.tdiv (((x0.Unsure.getD u16.toNat z_Io).Data).size : Int) 2)).toNat) ++ ((u17.getD ((x0.Unsure.getD u16.toNat z_Io).At).toNat ByteArray.empty).extract (if ((u17.getD ((x0.Unsure.getD u16.toNat z_Io).At).toNat ByteArray.empty).size : Int) < (IntKind.wrap .i64 (Int.tdiv (((x0.Unsure.getD u16.toNat z_Io).Data).size : Int) 2)) then ((u17.getD ((x0.Unsure.getD u16.toNat z_Io).At).toNat ByteArray.empty).size : Int) else (IntKind.wrap .i64 (Int.tdiv (((x0.Unsure.getD u16.toNat z_Io).Data).size : Int) 2))).toNat (u17.getD ((x0.Unsure.getD u16.toNat z_Io).At).toNat ByteArray.empty).size)))) else none) else none) else none) else none) else none) else (some u17)) : Option ((List ByteArray))).bind fun u78 => (some u78))) : Option ((List ByteArray))).bind fun u61 => (some (.inl ((w64 (u16 + 1)), u61))))) else none) else (some (.inr (.out u17))))
noncomputable def impl_Device_crash.f (x0 : S_Device) (l1 : List Int) : Option (S_Device) :=
  ((slices_Clone_string_string.f x0.Sure).bind fun y5 => ((loopO (fun s => impl_Device_crash.s0 x0 l1 y5 s.1 s.2) (0, y5)).bind fun o => match o with | .out u21 => (some (⟨u21, ([] : List S_Io)⟩ : S_Device)) | .ret r => (some r)))
set_option maxRecDepth 100000 in
set_option maxHeartbeats 0 in
theorem impl_Device_crash_t (w0 : World) (x0 : S_Device) (A0_0 : Option Addr) (p0_0 : Nat) (k0_0 : Chunk) (v0_0 : View Lay.str A0_0 p0_0 x0.Sure k0_0) (w0_0 : Has w0 k0_0) (A0_1 : Option Addr) (p0_1 : Nat) (k0_1 : Chunk) (v0_1 : View L_Io A0_1 p0_1 x0.Unsure k0_1) (w0_1 : Has w0 k0_1) (A1_ : Option Addr) (p1_ : Nat) (l1 : List Int) (k1_ : Chunk) (v1_ : View (Lay.int .i64) A1_ p1_ l1 k1_) (w1_ : Has w0 k1_) (r : S_Device) (H : impl_Device_crash.f x0 l1 = some r) :
    Calls Try.prog 94 #[.agg #[.slice A0_0 x0.Sure.length p0_0, .slice A0_1 x0.Unsure.length p0_1], .slice A1_ l1.length p1_] w0 (Ret (fun v w => ∃ (A0 : Option Addr) (p0 : Nat) (k0 : Chunk), ∃ (A1 : Option Addr) (p1 : Nat) (k1 : Chunk), v = .agg #[.slice A0 r.Sure.length p0, .slice A1 r.Unsure.length p1] ∧ Own Lay.str 9 A0 p0 r.Sure k0 ∧ Own L_Io 129 A1 p1 r.Unsure k1 ∧ Sat [] w0 w [] [(0, k0), (1, k1)])) := by
  have hs : Sat [] w0 w0 [(1, k0_0), (2, k0_1), (3, k1_)] [] := Sat.init w0 [(1, k0_0), (2, k0_1), (3, k1_)] [] (by simp only [List.mem_cons, List.not_mem_nil, or_false]; rintro x (rfl | rfl | rfl) <;> assumption) (by simp) List.nodup_nil (by simp [blks])
  unfold impl_Device_crash.f at H
  refine enter Try.func94 rfl Try.ntmps94 rfl fun a hk => ?_
  apply wp_seq_k; intro K1 hK1
  apply wp_region_lit
  refine sbx 4 hs rfl hk rfl rfl rfl rfl fun b2 w a hk hs => ?_
  refine salx 5 hs rfl hk rfl rfl ze67 rfl fun b3 w a hk hs => ?_
  show wpList _ _ _ [] _ _
  refine wpList_nil ?_
  refine hK1 _ _ ?_
  apply wp_seq_k; intro K4 hK4
  apply wp_region_lit
  refine sf ⟨b2, 0, none⟩ rfl hk rfl rfl rfl fd67_0 rfl fun a hk => ?_
  refine sl rfl hk rfl rfl rfl ag64 (box_cell hs (k := 4) rfl rfl) fun a hk => ?_
  obtain ⟨y5, h6, H⟩ := bind_some H
  refine sc rfl en144 hk rfl rfl rfl (slices_Clone_string_string_t _ A0_0 p0_0 x0.Sure _ v0_0 (hs.hasD (k := 1) rfl) _ h6) ?_
  rintro _ w ⟨A7, p8, k9, rfl, o10, hG⟩ a hk
  have hs := hs.call0k hG [6] rfl
  refine sbd (pv := [(0, (.slice A7 y5.length p8))]) rfl hk rfl rfl rfl (bd67_7 A7 y5.length p8) fun a hk => ?_
  refine salx 7 hs rfl hk rfl rfl ze67 rfl fun b11 w a hk hs => ?_
  refine ssw 7 hs rfl rfl hk rfl rfl rfl rfl sz67 (by simp [Value.oneCell']) rfl fun w a hk hs => ?_
  show wpList _ _ _ [] _ _
  refine wpList_nil ?_
  refine hK4 _ _ ?_
  apply wp_seq_k; intro K12 hK12
  apply wp_seq_k; intro K13 hK13
  apply wp_region_lit
  refine sf ⟨b2, 1, none⟩ rfl hk rfl rfl rfl fd67_1 rfl fun a hk => ?_
  refine sl rfl hk rfl rfl rfl ag65 (box_cell hs (k := 4) rfl rfl) fun a hk => ?_
  refine sle rfl hk rfl rfl rfl un65 fun a hk => ?_
  refine sm _ rfl hk rfl rfl rfl fun a hk => ?_
  show wpList _ _ _ [] _ _
  refine wpList_nil ?_
  refine hK13 _ _ ?_
  obtain ⟨o25, h26, HL27⟩ := bind_some H
  clear H
  obtain ⟨R28, hR28⟩ : ∃ R : Act → World → Prop, R = fun a w => ∃ (u21 : List ByteArray) (k22 : Chunk), o25 = .out u21 ∧ Kn [(4, (.pointer (some ⟨b3, 0, none⟩))), (5, (.pointer (some ⟨b11, 0, none⟩)))] 73 a ∧ Sat [] w0 w [(1, k0_0), (2, k0_1), (3, k1_)] [(5, [(b3, .cells #[.slice none 0 0, .slice none 0 0] 67 (0, 0))]), (7, [(b11, .cells #[.slice A7 y5.length p8, .slice none 0 0] 67 (0, 0))]), (6, k22)] ∧ Own Lay.str 9 A7 p8 u21 k22 ∧ u21.length = y5.length := ⟨_, rfl⟩
  refine wp_cutq R28 ?_ ?_
  ·refine wp_block ?_
   obtain ⟨fu30, h26⟩ := loopO_some h26
   obtain ⟨I29, hI29⟩ : ∃ I : Nat → Act → World → Prop, I = fun fu a w => ∃ (u16 : Int) (u17 : List ByteArray) (k18 : Chunk), loopN (fun s => impl_Device_crash.s0 x0 l1 y5 s.1 s.2) fu (u16, u17) = some o25 ∧ Kn [(1, (.slice A1_ l1.length p1_)), (4, (.pointer (some ⟨b3, 0, none⟩))), (5, (.pointer (some ⟨b11, 0, none⟩))), (16, (.slice A0_1 x0.Unsure.length p0_1)), (17, (.int .i64 (x0.Unsure.length : Int))), (18, (.int .i64 u16))] 73 a ∧ Sat [] w0 w [(1, k0_0), (2, k0_1), (3, k1_)] [(5, [(b3, .cells #[.slice none 0 0, .slice none 0 0] 67 (0, 0))]), (7, [(b11, .cells #[.slice A7 y5.length p8, .slice none 0 0] 67 (0, 0))]), (6, k18)] ∧ Own Lay.str 9 A7 p8 u17 k18 ∧ u17.length = y5.length := ⟨_, rfl⟩
   refine wp_loop_ghost I29 fu30 ?_ ?_
   ·rw [hI29]
    exact ⟨0, y5, _, h26, (hk.c 1 rfl (hk.c 4 rfl (hk.c 5 rfl (hk.c 16 rfl (hk.c 17 rfl (hk.c 18 rfl hk.k)))))), (hs.pick [(5, 5), (7, 7), (6, 6)] rfl), o10, rfl⟩
   ·clear h26 hk hs
    intro fu30 a w hI0
    rw [hI29] at hI0
    obtain ⟨u16, u17, k18, hi, hk, hs, o19, lh20⟩ := hI0
    obtain ⟨x31, H, h32⟩ := loop_round hi
    try dsimp only at H
    unfold impl_Device_crash.s0 at H
    apply wp_seq_k; intro K33 hK33
    apply wp_region_lit
    refine sv (.bool (decide (u16 < (x0.Unsure.length : Int)))) hk rfl rfl rfl fun a hk => ?_
    show wpList _ _ _ [] _ _
    refine wpList_nil ?_
    refine hK33 _ _ ?_
    have hs := hs.pick [(5, 5), (7, 7), (6, 6)] rfl
    apply wp_seq_k; intro K34 hK34
    rcases cond_some H with ⟨c35, H⟩ | ⟨c35, H⟩
    ·have hk := hk.lit 19 c35 rfl
     refine cnd_true hk rfl rfl ?_
     refine wp_skip ?_
     refine hK34 _ _ ?_
     apply wp_seq_k; intro K36 hK36
     refine wp_block ?_
     apply wp_seq_k; intro K37 hK37
     apply wp_region_lit
     refine sm _ rfl hk rfl rfl rfl fun a hk => ?_
     rcases ite_some H with ⟨c38, H⟩ | ⟨_, H⟩
     rotate_left
     ·cases H
     obtain ⟨b39, q40, hAc38⟩ := (v0_1).some_ u16 c38.1 c38.2
     refine si rfl hk rfl rfl rfl rfl un65 sz129 c38.1 c38.2 hAc38 fun a hk => ?_
     obtain ⟨_, rfl, e41⟩ := (v0_1).at_ z_Io u16 c38.1 c38.2
     refine sln [.int .i64 ((x0.Unsure.getD u16.toNat z_Io).At), .string ((x0.Unsure.getD u16.toNat z_Io).Data)] rfl hk rfl rfl rfl ag129 sz129 (cells_at e41 (hs.hasD (k := 2) rfl)) fun a hk => ?_
     refine salx 9 hs rfl hk rfl rfl ze129 rfl fun b42 w a hk hs => ?_
     refine sa _ rfl hk rfl rfl rfl fun a hk => ?_
     refine ssw 9 hs rfl rfl hk rfl rfl rfl rfl sz129 (by simp [Value.oneCell']) rfl fun w a hk hs => ?_
     show wpList _ _ _ [] _ _
     refine wpList_nil ?_
     refine hK37 _ _ ?_
     apply wp_seq_k; intro K43 hK43
     apply wp_region_lit
     refine sa _ rfl hk rfl rfl rfl fun a hk => ?_
     show wpList _ _ _ [] _ _
     refine wpList_nil ?_
     refine hK43 _ _ ?_
     apply wp_seq_k; intro K44 hK44
     apply wp_seq_k; intro K45 hK45
     apply wp_region_lit
     refine sm _ rfl hk rfl rfl rfl fun a hk => ?_
     refine sle rfl hk rfl rfl rfl un27 fun a hk => ?_
     refine sv (.bool (decide ((l1.length : Int) > 0))) hk rfl rfl rfl fun a hk => ?_
     show wpList _ _ _ [] _ _
     refine wpList_nil ?_
     refine hK45 _ _ ?_
     have hs := hs.pick [(5, 5), (7, 7), (6, 6), (9, 9)] rfl
     obtain ⟨o48, h49, HL50⟩ := bind_some H
     clear H
     obtain ⟨R51, hR51⟩ : ∃ R : Act → World → Prop, R = fun a w => ∃ (u47 : Int), u47 = o48 ∧ Kn [(1, (.slice A1_ l1.length p1_)), (4, (.pointer (some ⟨b3, 0, none⟩))), (5, (.pointer (some ⟨b11, 0, none⟩))), (7, (.pointer (some ⟨b42, 0, none⟩))), (8, (.int .i64 u47)), (16, (.slice A0_1 x0.Unsure.length p0_1)), (17, (.int .i64 (x0.Unsure.length : Int))), (18, (.int .i64 u16))] 73 a ∧ Sat [] w0 w [(1, k0_0), (2, k0_1), (3, k1_)] [(5, [(b3, .cells #[.slice none 0 0, .slice none 0 0] 67 (0, 0))]), (7, [(b11, .cells #[.slice A7 y5.length p8, .slice none 0 0] 67 (0, 0))]), (6, k18), (9, [(b42, .cells #[.int .i64 ((x0.Unsure.getD u16.toNat z_Io).At), .string ((x0.Unsure.getD u16.toNat z_Io).Data)] 129 (0, 0))])] := ⟨_, rfl⟩
     refine wp_cutq R51 ?_ ?_
     ·have H := h49
      rcases cond_some H with ⟨c52, H⟩ | ⟨c52, H⟩
      ·have hk := hk.lit 25 c52 rfl
       refine cnd_true hk rfl rfl ?_
       apply wp_region_lit
       refine sm _ rfl hk rfl rfl rfl fun a hk => ?_
       refine sm _ rfl hk rfl rfl rfl fun a hk => ?_
       refine sm _ rfl hk rfl rfl rfl fun a hk => ?_
       refine sle rfl hk rfl rfl rfl un27 fun a hk => ?_
       rcases ite_some H with ⟨_, H⟩ | ⟨c53, H⟩
       ·cases H
       refine srm rfl hk rfl rfl rfl rfl c53 fun a hk => ?_
       rcases ite_some H with ⟨c54, H⟩ | ⟨_, H⟩
       rotate_left
       ·cases H
       obtain ⟨b55, q56, hAc54⟩ := (v1_).some_ (Int.tmod u16 (l1.length : Int)) c54.1 c54.2
       refine si rfl hk rfl rfl rfl rfl un27 sz3 c54.1 c54.2 hAc54 fun a hk => ?_
       obtain ⟨_, rfl, e57⟩ := (v1_).at_ 0 (Int.tmod u16 (l1.length : Int)) c54.1 c54.2
       refine sl (v := (.int .i64 (l1.getD (Int.tmod u16 (l1.length : Int)).toNat 0))) rfl hk rfl rfl rfl ag3 ((e57 0 _ rfl).cell (hs.hasD (k := 3) rfl)) fun a hk => ?_
       refine sa _ rfl hk rfl rfl rfl fun a hk => ?_
       show wpList _ _ _ [] _ _
       refine wpList_nil ?_
       obtain rfl := Option.some.inj H
       show R51 _ _
       rw [hR51]
       exact ⟨(l1.getD (Int.tmod u16 (l1.length : Int)).toNat 0), rfl, (hk.c 1 rfl (hk.c 4 rfl (hk.c 5 rfl (hk.c 7 rfl (hk.c 8 rfl (hk.c 16 rfl (hk.c 17 rfl (hk.c 18 rfl hk.k)))))))), (hs.pick [(5, 5), (7, 7), (6, 6), (9, 9)] rfl)⟩
      ·have hk := hk.lit 25 c52 rfl
       refine cnd_false hk rfl rfl ?_
       refine wp_skip ?_
       obtain rfl := Option.some.inj H
       show R51 _ _
       rw [hR51]
       exact ⟨0, rfl, (hk.c 1 rfl (hk.c 4 rfl (hk.c 5 rfl (hk.c 7 rfl (hk.c 8 rfl (hk.c 16 rfl (hk.c 17 rfl (hk.c 18 rfl hk.k)))))))), (hs.pick [(5, 5), (7, 7), (6, 6), (9, 9)] rfl)⟩
     ·intro a w hR0
      rw [hR51] at hR0
      obtain ⟨u47, rfl, hk, hs⟩ := hR0
      have H := HL50
      try dsimp only at H
      refine hK44 _ _ ?_
      apply wp_seq_k; intro K58 hK58
      apply wp_region_lit
      refine sm _ rfl hk rfl rfl rfl fun a hk => ?_
      show wpList _ _ _ [] _ _
      refine wpList_nil ?_
      refine hK58 _ _ ?_
      refine wp_block ?_
      apply wp_seq_k; intro K59 hK59
      apply wp_region_lit
      refine sv (.bool (u47 == 1)) hk rfl rfl rfl fun a hk => ?_
      refine sa _ rfl hk rfl rfl rfl fun a hk => ?_
      show wpList _ _ _ [] _ _
      refine wpList_nil ?_
      refine hK59 _ _ ?_
      obtain ⟨o65, h66, HL67⟩ := bind_some H
      clear H
      obtain ⟨R68, hR68⟩ : ∃ R : Act → World → Prop, R = fun a w => ∃ (u61 : List ByteArray) (k62 : Chunk), u61 = o65 ∧ Kn [(1, (.slice A1_ l1.length p1_)), (4, (.pointer (some ⟨b3, 0, none⟩))), (5, (.pointer (some ⟨b11, 0, none⟩))), (16, (.slice A0_1 x0.Unsure.length p0_1)), (17, (.int .i64 (x0.Unsure.length : Int))), (18, (.int .i64 u16))] 73 a ∧ Sat [] w0 w [(1, k0_0), (2, k0_1), (3, k1_)] [(5, [(b3, .cells #[.slice none 0 0, .slice none 0 0] 67 (0, 0))]), (7, [(b11, .cells #[.slice A7 y5.length p8, .slice none 0 0] 67 (0, 0))]), (6, k62)] ∧ Own Lay.str 9 A7 p8 u61 k62 ∧ u61.length = y5.length := ⟨_, rfl⟩
      refine wp_cutq R68 ?_ ?_
      ·have H := h66
       rcases cond_some H with ⟨c69, H⟩ | ⟨c69, H⟩
       ·have hk := hk.lit 34 c69 rfl
        refine cnd_true hk rfl rfl ?_
        apply wp_region_lit
        refine sf ⟨b11, 0, none⟩ rfl hk rfl rfl rfl fd67_0 rfl fun a hk => ?_
        refine sl rfl hk rfl rfl rfl ag64 (box_cell hs (k := 7) rfl rfl) fun a hk => ?_
        refine sf ⟨b42, 0, none⟩ rfl hk rfl rfl rfl fd129_0 rfl fun a hk => ?_
        refine sl rfl hk rfl rfl rfl ag3 (box_cell hs (k := 9) rfl rfl) fun a hk => ?_
        refine sf ⟨b42, 1, none⟩ rfl hk rfl rfl rfl fd129_1 rfl fun a hk => ?_
        refine sl rfl hk rfl rfl rfl ag9 (box_cell hs (k := 9) rfl rfl) fun a hk => ?_
        rcases ite_some H with ⟨c70, H⟩ | ⟨_, H⟩
        rotate_left
        ·cases H
        obtain ⟨b71, q72, hAc70⟩ := (o19.view).some_ ((x0.Unsure.getD u16.toNat z_Io).At) c70.1 (by rw [lh20]; exact c70.2)
        refine si rfl hk rfl rfl rfl rfl un64 sz9 c70.1 c70.2 hAc70 fun a hk => ?_
        refine so (j := 0) 6 ByteArray.empty ((x0.Unsure.getD u16.toNat z_Io).Data) hs rfl o19 c70.1 (by rw [lh20]; exact c70.2) rfl hk rfl rfl rfl rfl rfl sz9 (by simp [Value.cells, Value.oneCell']) (Nat.le_of_ble_eq_true rfl) (fun _ _ h => ⟨by rw [h.1]; rfl, h.2⟩) fun k73 w a hk o74 hs => ?_
        have lh75 : (u17.set ((x0.Unsure.getD u16.toNat z_Io).At).toNat ((x0.Unsure.getD u16.toNat z_Io).Data)).length = y5.length := by rw [List.length_set]; exact lh20
        show wpList _ _ _ [] _ _
        refine wpList_nil ?_
        obtain rfl := Option.some.inj H
        show R68 _ _
        rw [hR68]
        exact ⟨(u17.set ((x0.Unsure.getD u16.toNat z_Io).At).toNat ((x0.Unsure.getD u16.toNat z_Io).Data)), _, rfl, (hk.c 1 rfl (hk.c 4 rfl (hk.c 5 rfl (hk.c 16 rfl (hk.c 17 rfl (hk.c 18 rfl hk.k)))))), (hs.pick [(5, 5), (7, 7), (6, 6)] rfl), o74, lh75⟩
       ·have hk := hk.lit 34 c69 rfl
        refine cnd_false hk rfl rfl ?_
        apply wp_seq_k; intro K76 hK76
        apply wp_region_lit
        refine sv (.bool (u47 == 2)) hk rfl rfl rfl fun a hk => ?_
        refine sa _ rfl hk rfl rfl rfl fun a hk => ?_
        show wpList _ _ _ [] _ _
        refine wpList_nil ?_
        refine hK76 _ _ ?_
        have hs := hs.pick [(5, 5), (7, 7), (6, 6), (9, 9)] rfl
        obtain ⟨o82, h83, HL84⟩ := bind_some H
        clear H
        obtain ⟨R85, hR85⟩ : ∃ R : Act → World → Prop, R = fun a w => ∃ (u78 : List ByteArray) (k79 : Chunk), u78 = o82 ∧ Kn [(1, (.slice A1_ l1.length p1_)), (4, (.pointer (some ⟨b3, 0, none⟩))), (5, (.pointer (some ⟨b11, 0, none⟩))), (16, (.slice A0_1 x0.Unsure.length p0_1)), (17, (.int .i64 (x0.Unsure.length : Int))), (18, (.int .i64 u16))] 73 a ∧ Sat [] w0 w [(1, k0_0), (2, k0_1), (3, k1_)] [(5, [(b3, .cells #[.slice none 0 0, .slice none 0 0] 67 (0, 0))]), (7, [(b11, .cells #[.slice A7 y5.length p8, .slice none 0 0] 67 (0, 0))]), (6, k79)] ∧ Own Lay.str 9 A7 p8 u78 k79 ∧ u78.length = y5.length := ⟨_, rfl⟩
        refine wp_cutq R85 ?_ ?_
        ·have H := h83
         rcases cond_some H with ⟨c86, H⟩ | ⟨c86, H⟩
         ·have hk := hk.lit 43 c86 rfl
          refine cnd_true hk rfl rfl ?_
          apply wp_seq_k; intro K87 hK87
          apply wp_region_lit
          refine sf ⟨b42, 1, none⟩ rfl hk rfl rfl rfl fd129_1 rfl fun a hk => ?_
          refine sl rfl hk rfl rfl rfl ag9 (box_cell hs (k := 9) rfl rfl) fun a hk => ?_
          refine sles rfl hk rfl rfl rfl un9 fun a hk => ?_
          refine sv (.int .i64 (IntKind.wrap .i64 (Int.tdiv (((x0.Unsure.getD u16.toNat z_Io).Data).size : Int) 2))) hk rfl rfl rfl fun a hk => ?_
          refine sa _ rfl hk rfl rfl rfl fun a hk => ?_
          show wpList _ _ _ [] _ _
          refine wpList_nil ?_
          refine hK87 _ _ ?_
          apply wp_seq_k; intro K88 hK88
          apply wp_region_lit
          refine sf ⟨b11, 0, none⟩ rfl hk rfl rfl rfl fd67_0 rfl fun a hk => ?_
          refine sl rfl hk rfl rfl rfl ag64 (box_cell hs (k := 7) rfl rfl) fun a hk => ?_
          refine sf ⟨b42, 0, none⟩ rfl hk rfl rfl rfl fd129_0 rfl fun a hk => ?_
          refine sl rfl hk rfl rfl rfl ag3 (box_cell hs (k := 9) rfl rfl) fun a hk => ?_
          rcases ite_some H with ⟨c89, H⟩ | ⟨_, H⟩
          rotate_left
          ·cases H
          obtain ⟨b90, q91, hAc89⟩ := (o19.view).some_ ((x0.Unsure.getD u16.toNat z_Io).At) c89.1 (by rw [lh20]; exact c89.2)
          refine si rfl hk rfl rfl rfl rfl un64 sz9 c89.1 c89.2 hAc89 fun a hk => ?_
          obtain ⟨_, rfl, e92⟩ := (o19.view).at_ ByteArray.empty ((x0.Unsure.getD u16.toNat z_Io).At) c89.1 (by rw [lh20]; exact c89.2)
          refine sl (v := (.string (u17.getD ((x0.Unsure.getD u16.toNat z_Io).At).toNat ByteArray.empty))) rfl hk rfl rfl rfl ag9 ((e92 0 _ rfl).cell (hs.hasG (k := 6) rfl)) fun a hk => ?_
          refine sa _ rfl hk rfl rfl rfl fun a hk => ?_
          show wpList _ _ _ [] _ _
          refine wpList_nil ?_
          refine hK88 _ _ ?_
          refine wp_region_tree (.q 0 (.q 1 (.q 2 (.q 3 (.q 4 (.q 5 (.q 6 (.q 7 (.q 8 (.q 9 (.alt 10 (.alt 11 (.alt 12 (.alt 13 (.alt 14 (.alt 15 (.last 16) .stop) .stop) .stop) .stop) .stop) .stop))))))))))) mo (by kernel_rfl) (hs.pick [(5, 5), (7, 7), (6, 6), (9, 9)] rfl) fun _ => ?_
          have hs := hs.drew
          refine tqst (.pointer (some ⟨b11, 0, none⟩)) hk rfl rfl rfl rfl (fun w hs => sf ⟨b11, 0, none⟩ rfl hk rfl rfl rfl fd67_0 rfl fun a hk => qe hk) fun a hk => ?_
          refine tqst (.slice A7 y5.length p8) hk rfl rfl rfl rfl (fun w hs => sl rfl hk rfl rfl rfl ag64 (box_cell hs (k := 7) rfl rfl) fun a hk => qe hk) fun a hk => ?_
          refine tqst (.pointer (some ⟨b42, 0, none⟩)) hk rfl rfl rfl rfl (fun w hs => sf ⟨b42, 0, none⟩ rfl hk rfl rfl rfl fd129_0 rfl fun a hk => qe hk) fun a hk => ?_
          refine tqst (.int .i64 ((x0.Unsure.getD u16.toNat z_Io).At)) hk rfl rfl rfl rfl (fun w hs => sl rfl hk rfl rfl rfl ag3 (box_cell hs (k := 9) rfl rfl) fun a hk => qe hk) fun a hk => ?_
          refine tqst (.pointer (some ⟨b42, 1, none⟩)) hk rfl rfl rfl rfl (fun w hs => sf ⟨b42, 1, none⟩ rfl hk rfl rfl rfl fd129_1 rfl fun a hk => qe hk) fun a hk => ?_
          refine tqst (.string ((x0.Unsure.getD u16.toNat z_Io).Data)) hk rfl rfl rfl rfl (fun w hs => sl rfl hk rfl rfl rfl ag9 (box_cell hs (k := 9) rfl rfl) fun a hk => qe hk) fun a hk => ?_
          refine tqst (.int .i64 (IntKind.wrap .i64 (Int.tdiv (((x0.Unsure.getD u16.toNat z_Io).Data).size : Int) 2))) hk rfl rfl rfl rfl (fun w hs => sm _ rfl hk rfl rfl rfl fun a hk => qe hk) fun a hk => ?_
          rcases ite_some H with ⟨c94, H⟩ | ⟨_, H⟩
          rotate_left
          ·cases H
          refine tqst (.string (((x0.Unsure.getD u16.toNat z_Io).Data).extract 0 (IntKind.wrap .i64 (Int.tdiv (((x0.Unsure.getD u16.toNat z_Io).Data).size : Int) 2)).toNat)) hk rfl rfl rfl rfl (fun w hs => ssl_h rfl hk rfl rfl rfl rfl un9 c94.1 c94.2 fun a hk => qe hk) fun a hk => ?_
          refine tqst (.string (u17.getD ((x0.Unsure.getD u16.toNat z_Io).At).toNat ByteArray.empty)) hk rfl rfl rfl rfl (fun w hs => sm _ rfl hk rfl rfl rfl fun a hk => qe hk) fun a hk => ?_
          refine tqst (.int .i64 (IntKind.wrap .i64 (Int.tdiv (((x0.Unsure.getD u16.toNat z_Io).Data).size : Int) 2))) hk rfl rfl rfl rfl (fun w hs => sm _ rfl hk rfl rfl rfl fun a hk => qe hk) fun a hk => ?_
          refine tsst hk rfl rfl (fun K_r93_10 hK_r93_10 w hF => ?_) wt_stop
          have hs := hs.f hF
          refine sm _ rfl hk rfl rfl rfl fun a hk => ?_
          refine se (hs.pick [(5, 5), (7, 7), (6, 6), (9, 9)] rfl) hk (hK_r93_10 _ _ ?_)
          refine tsst hk rfl rfl (fun K_r93_11 hK_r93_11 w hF => ?_) wt_stop
          have hs := hs.f hF
          refine sles rfl hk rfl rfl rfl un9 fun a hk => ?_
          refine se (hs.pick [(5, 5), (7, 7), (6, 6), (9, 9)] rfl) hk (hK_r93_11 _ _ ?_)
          refine tsst hk rfl rfl (fun K_r93_12 hK_r93_12 w hF => ?_) wt_stop
          have hs := hs.f hF
          refine smn rfl hk rfl rfl rfl rfl fun a hk => ?_
          refine se (hs.pick [(5, 5), (7, 7), (6, 6), (9, 9)] rfl) hk (hK_r93_12 _ _ ?_)
          refine tsst hk rfl rfl (fun K_r93_13 hK_r93_13 w hF => ?_) wt_stop
          have hs := hs.f hF
          rcases ite_some H with ⟨c95, H⟩ | ⟨_, H⟩
          rotate_left
          ·cases H
          refine ssl_l rfl hk rfl rfl rfl rfl un9 c95.1 c95.2 fun a hk => ?_
          refine se (hs.pick [(5, 5), (7, 7), (6, 6), (9, 9)] rfl) hk (hK_r93_13 _ _ ?_)
          refine tsst hk rfl rfl (fun K_r93_14 hK_r93_14 w hF => ?_) wt_stop
          have hs := hs.f hF
          rcases ite_some H with ⟨c96, H⟩ | ⟨_, H⟩
          rotate_left
          ·cases H
          refine ssa rfl hk rfl rfl rfl rfl c96 fun a hk => ?_
          refine se (hs.pick [(5, 5), (7, 7), (6, 6), (9, 9)] rfl) hk (hK_r93_14 _ _ ?_)
          refine tsst hk rfl rfl (fun K_r93_15 hK_r93_15 w hF => ?_) wt_stop
          have hs := hs.f hF
          rcases ite_some H with ⟨c97, H⟩ | ⟨_, H⟩
          rotate_left
          ·cases H
          obtain ⟨b98, q99, hAc97⟩ := (o19.view).some_ ((x0.Unsure.getD u16.toNat z_Io).At) c97.1 (by rw [lh20]; exact c97.2)
          refine si rfl hk rfl rfl rfl rfl un64 sz9 c97.1 c97.2 hAc97 fun a hk => ?_
          refine se (hs.pick [(5, 5), (7, 7), (6, 6), (9, 9)] rfl) hk (hK_r93_15 _ _ ?_)
          refine tlst hk rfl rfl fun K_r93_16 hK_r93_16 w hF => ?_
          have hs := hs.f hF
          refine so (j := 0) 6 ByteArray.empty ((((x0.Unsure.getD u16.toNat z_Io).Data).extract 0 (IntKind.wrap .i64 (Int.tdiv (((x0.Unsure.getD u16.toNat z_Io).Data).size : Int) 2)).toNat) ++ ((u17.getD ((x0.Unsure.getD u16.toNat z_Io).At).toNat ByteArray.empty).extract (if ((u17.getD ((x0.Unsure.getD u16.toNat z_Io).At).toNat ByteArray.empty).size : Int) < (IntKind.wrap .i64 (Int.tdiv (((x0.Unsure.getD u16.toNat z_Io).Data).size : Int) 2)) then ((u17.getD ((x0.Unsure.getD u16.toNat z_Io).At).toNat ByteArray.empty).size : Int) else (IntKind.wrap .i64 (Int.tdiv (((x0.Unsure.getD u16.toNat z_Io).Data).size : Int) 2))).toNat (u17.getD ((x0.Unsure.getD u16.toNat z_Io).At).toNat ByteArray.empty).size)) hs rfl o19 c97.1 (by rw [lh20]; exact c97.2) rfl hk rfl rfl rfl rfl rfl sz9 (by simp [Value.cells, Value.oneCell']) (Nat.le_of_ble_eq_true rfl) (fun _ _ h => ⟨by rw [h.1]; rfl, h.2⟩) fun k100 w a hk o101 hs => ?_
          have lh102 : (u17.set ((x0.Unsure.getD u16.toNat z_Io).At).toNat ((((x0.Unsure.getD u16.toNat z_Io).Data).extract 0 (IntKind.wrap .i64 (Int.tdiv (((x0.Unsure.getD u16.toNat z_Io).Data).size : Int) 2)).toNat) ++ ((u17.getD ((x0.Unsure.getD u16.toNat z_Io).At).toNat ByteArray.empty).extract (if ((u17.getD ((x0.Unsure.getD u16.toNat z_Io).At).toNat ByteArray.empty).size : Int) < (IntKind.wrap .i64 (Int.tdiv (((x0.Unsure.getD u16.toNat z_Io).Data).size : Int) 2)) then ((u17.getD ((x0.Unsure.getD u16.toNat z_Io).At).toNat ByteArray.empty).size : Int) else (IntKind.wrap .i64 (Int.tdiv (((x0.Unsure.getD u16.toNat z_Io).Data).size : Int) 2))).toNat (u17.getD ((x0.Unsure.getD u16.toNat z_Io).At).toNat ByteArray.empty).size))).length = y5.length := by rw [List.length_set]; exact lh20
          refine se trivial hk (hK_r93_16 _ _ fun w hF => ?_)
          have hs := hs.f hF
          obtain rfl := Option.some.inj H
          show R85 _ _
          rw [hR85]
          exact ⟨(u17.set ((x0.Unsure.getD u16.toNat z_Io).At).toNat ((((x0.Unsure.getD u16.toNat z_Io).Data).extract 0 (IntKind.wrap .i64 (Int.tdiv (((x0.Unsure.getD u16.toNat z_Io).Data).size : Int) 2)).toNat) ++ ((u17.getD ((x0.Unsure.getD u16.toNat z_Io).At).toNat ByteArray.empty).extract (if ((u17.getD ((x0.Unsure.getD u16.toNat z_Io).At).toNat ByteArray.empty).size : Int) < (IntKind.wrap .i64 (Int.tdiv (((x0.Unsure.getD u16.toNat z_Io).Data).size : Int) 2)) then ((u17.getD ((x0.Unsure.getD u16.toNat z_Io).At).toNat ByteArray.empty).size : Int) else (IntKind.wrap .i64 (Int.tdiv (((x0.Unsure.getD u16.toNat z_Io).Data).size : Int) 2))).toNat (u17.getD ((x0.Unsure.getD u16.toNat z_Io).At).toNat ByteArray.empty).size))), _, rfl, (hk.c 1 rfl (hk.c 4 rfl (hk.c 5 rfl (hk.c 16 rfl (hk.c 17 rfl (hk.c 18 rfl hk.k)))))), (hs.pick [(5, 5), (7, 7), (6, 6)] rfl), o101, lh102⟩
         ·have hk := hk.lit 43 c86 rfl
          refine cnd_false hk rfl rfl ?_
          refine wp_skip ?_
          obtain rfl := Option.some.inj H
          show R85 _ _
          rw [hR85]
          exact ⟨u17, _, rfl, (hk.c 1 rfl (hk.c 4 rfl (hk.c 5 rfl (hk.c 16 rfl (hk.c 17 rfl (hk.c 18 rfl hk.k)))))), (hs.pick [(5, 5), (7, 7), (6, 6)] rfl), o19, lh20⟩
        ·intro a w hR0
         rw [hR85] at hR0
         obtain ⟨u78, k79, rfl, hk, hs, o80, lh81⟩ := hR0
         have H := HL84
         try dsimp only at H
         obtain rfl := Option.some.inj H
         show R68 _ _
         rw [hR68]
         exact ⟨u78, _, rfl, (hk.c 1 rfl (hk.c 4 rfl (hk.c 5 rfl (hk.c 16 rfl (hk.c 17 rfl (hk.c 18 rfl hk.k)))))), (hs.pick [(5, 5), (7, 7), (6, 6)] rfl), o80, lh81⟩
      ·intro a w hR0
       rw [hR68] at hR0
       obtain ⟨u61, k62, rfl, hk, hs, o63, lh64⟩ := hR0
       have H := HL67
       try dsimp only at H
       refine hK36 _ _ ?_
       have hs := hs.pick [(5, 5), (7, 7), (6, 6)] rfl
       apply wp_region_lit
       refine sv (.int .i64 (w64 (u16 + 1))) hk rfl rfl rfl fun a hk => ?_
       refine sm _ rfl hk rfl rfl rfl fun a hk => ?_
       show wpList _ _ _ [] _ _
       refine wpList_nil ?_
       obtain rfl := Option.some.inj H
       obtain ⟨m103, hmm103, h32⟩ := h32
       show ∃ n', n' < _ ∧ I29 n' _ _
       refine ⟨m103, hmm103, ?_⟩
       rw [hI29]
       exact ⟨(w64 (u16 + 1)), u61, _, h32, (hk.c 1 rfl (hk.c 4 rfl (hk.c 5 rfl (hk.c 16 rfl (hk.c 17 rfl (hk.c 18 rfl hk.k)))))), (hs.pick [(5, 5), (7, 7), (6, 6)] rfl), o63, lh64⟩
    ·have hk := hk.lit 19 c35 rfl
     refine cnd_false hk rfl rfl ?_
     refine wp_exit ?_
     obtain rfl := Option.some.inj H
     show R28 _ _
     rw [hR28]
     exact ⟨u17, _, h32.symm, (hk.c 4 rfl (hk.c 5 rfl hk.k)), (hs.pick [(5, 5), (7, 7), (6, 6)] rfl), o19, lh20⟩
  ·intro a w hR0
   rw [hR28] at hR0
   obtain ⟨u21, k22, rfl, hk, hs, o23, lh24⟩ := hR0
   have H := HL27
   try dsimp only at H
   refine hK12 _ _ ?_
   have hs := hs.pick [(5, 5), (7, 7), (6, 6)] rfl
   apply wp_seq_k; intro K104 hK104
   apply wp_region_lit
   refine sln [.slice A7 y5.length p8, .slice none 0 0] rfl hk rfl rfl rfl ag67 sz67 (box_cells hs (k := 7) rfl) fun a hk => ?_
   refine ssw 5 hs rfl rfl hk rfl rfl rfl rfl sz67 (by simp [Value.oneCell']) rfl fun w a hk hs => ?_
   show wpList _ _ _ [] _ _
   refine wpList_nil ?_
   refine hK104 _ _ ?_
   refine wp_ret ?_
   obtain rfl := Option.some.inj H
   have hs := hs.addNil 14
   exact fin hk _ [(.agg #[.slice A7 y5.length p8, .slice none 0 0])] rfl ⟨⟨_, rfl, run_loadN ag67 sz67 (box_cells hs (k := 5) rfl)⟩, trivial⟩ ⟨A7, p8, _, none, 0, [], (by first | (rw [lh24]; done) | (rw [lh24]; rfl)), o23, Own.nil _ _, (hs.pick [(0, 6), (1, 14)] rfl).dnil⟩

noncomputable def impl_Device_sync.f (x0 : S_Device) : Option (S_Device) :=
  ((impl_Device_crash.f x0 ([1])).bind fun y8 => (some y8))
set_option maxRecDepth 100000 in
set_option maxHeartbeats 0 in
theorem impl_Device_sync_t (w0 : World) (x0 : S_Device) (A0_0 : Option Addr) (p0_0 : Nat) (k0_0 : Chunk) (v0_0 : View Lay.str A0_0 p0_0 x0.Sure k0_0) (w0_0 : Has w0 k0_0) (A0_1 : Option Addr) (p0_1 : Nat) (k0_1 : Chunk) (v0_1 : View L_Io A0_1 p0_1 x0.Unsure k0_1) (w0_1 : Has w0 k0_1) (r : S_Device) (H : impl_Device_sync.f x0 = some r) :
    Calls Try.prog 92 #[.agg #[.slice A0_0 x0.Sure.length p0_0, .slice A0_1 x0.Unsure.length p0_1]] w0 (Ret (fun v w => ∃ (A0 : Option Addr) (p0 : Nat) (k0 : Chunk), ∃ (A1 : Option Addr) (p1 : Nat) (k1 : Chunk), v = .agg #[.slice A0 r.Sure.length p0, .slice A1 r.Unsure.length p1] ∧ Own Lay.str 9 A0 p0 r.Sure k0 ∧ Own L_Io 129 A1 p1 r.Unsure k1 ∧ Sat [] w0 w [] [(0, k0), (1, k1)])) := by
  have hs : Sat [] w0 w0 [(1, k0_0), (2, k0_1)] [] := Sat.init w0 [(1, k0_0), (2, k0_1)] [] (by simp only [List.mem_cons, List.not_mem_nil, or_false]; rintro x (rfl | rfl) <;> assumption) (by simp) List.nodup_nil (by simp [blks])
  unfold impl_Device_sync.f at H
  refine enter Try.func92 rfl Try.ntmps92 rfl fun a hk => ?_
  apply wp_seq_k; intro K1 hK1
  apply wp_region_lit
  refine sbx 3 hs rfl hk rfl rfl rfl rfl fun b2 w a hk hs => ?_
  refine salx 4 hs rfl hk rfl rfl ze67 rfl fun b3 w a hk hs => ?_
  show wpList _ _ _ [] _ _
  refine wpList_nil ?_
  refine hK1 _ _ ?_
  apply wp_seq_k; intro K4 hK4
  apply wp_region_lit
  refine sln [.slice A0_0 x0.Sure.length p0_0, .slice A0_1 x0.Unsure.length p0_1] rfl hk rfl rfl rfl ag67 sz67 (box_cells hs (k := 3) rfl) fun a hk => ?_
  refine sbs (L := (Lay.int .i64)) (pv := [(0, (.int .i64 1))]) (xs := [1]) (ess := [[.int .i64 1]]) 5 hs rfl hk rfl rfl rfl un27 (bs3_8 1) (AllOwn.cons0 ⟨rfl, rfl⟩ AllOwn.nil) rfl rfl rfl fun b5 k6 w a hk o7 hs => ?_
  obtain ⟨y8, h9, H⟩ := bind_some H
  refine sc rfl en94 hk rfl rfl rfl (impl_Device_crash_t _ x0 A0_0 p0_0 _ v0_0 (hs.hasD (k := 1) rfl) A0_1 p0_1 _ v0_1 (hs.hasD (k := 2) rfl) (some ⟨b5, 0, none⟩) 1 ([1]) _ o7.view (hs.hasG (k := 5) rfl) _ h9) ?_
  rintro _ w ⟨A10, p11, k12, A14, p15, k16, rfl, o13, o17, hG⟩ a hk
  have hs := hs.call0k hG [6, 7] rfl
  refine ssw 4 hs rfl rfl hk rfl rfl rfl rfl sz67 (by simp [Value.oneCell']) rfl fun w a hk hs => ?_
  show wpList _ _ _ [] _ _
  refine wpList_nil ?_
  refine hK4 _ _ ?_
  refine wp_ret ?_
  obtain rfl := Option.some.inj H
  exact fin hk _ [(.agg #[.slice A10 y8.Sure.length p11, .slice A14 y8.Unsure.length p15])] rfl ⟨⟨_, rfl, run_loadN ag67 sz67 (box_cells hs (k := 4) rfl)⟩, trivial⟩ ⟨A10, p11, _, A14, p15, _, rfl, o13, o17, (hs.pick [(0, 6), (1, 7)] rfl).dnil⟩

noncomputable def impl_SyncAll.f (x0 : S_Device) : Option (S_Device × Int) :=
  ((impl_DeviceOK.f x0).bind fun y6 => (bif (!y6) then (some ((⟨([] : List ByteArray), ([] : List S_Io)⟩ : S_Device), 1)) else ((impl_Device_sync.f x0).bind fun y11 => (some (y11, 0)))))
set_option maxRecDepth 100000 in
set_option maxHeartbeats 0 in
theorem impl_SyncAll_t (w0 : World) (x0 : S_Device) (A0_0 : Option Addr) (p0_0 : Nat) (k0_0 : Chunk) (v0_0 : View Lay.str A0_0 p0_0 x0.Sure k0_0) (w0_0 : Has w0 k0_0) (A0_1 : Option Addr) (p0_1 : Nat) (k0_1 : Chunk) (v0_1 : View L_Io A0_1 p0_1 x0.Unsure k0_1) (w0_1 : Has w0 k0_1) (r : S_Device × Int) (H : impl_SyncAll.f x0 = some r) :
    Calls Try.prog 41 #[.agg #[.slice A0_0 x0.Sure.length p0_0, .slice A0_1 x0.Unsure.length p0_1]] w0 (Ret (fun v w => ∃ (A0 : Option Addr) (p0 : Nat) (k0 : Chunk), ∃ (A1 : Option Addr) (p1 : Nat) (k1 : Chunk), v = .tuple #[.agg #[.slice A0 r.1.Sure.length p0, .slice A1 r.1.Unsure.length p1], .int .i64 r.2] ∧ Own Lay.str 9 A0 p0 r.1.Sure k0 ∧ Own L_Io 129 A1 p1 r.1.Unsure k1 ∧ Sat [] w0 w [] [(0, k0), (1, k1)])) := by
  have hs : Sat [] w0 w0 [(1, k0_0), (2, k0_1)] [] := Sat.init w0 [(1, k0_0), (2, k0_1)] [] (by simp only [List.mem_cons, List.not_mem_nil, or_false]; rintro x (rfl | rfl) <;> assumption) (by simp) List.nodup_nil (by simp [blks])
  unfold impl_SyncAll.f at H
  refine enter Try.func41 rfl Try.ntmps41 rfl fun a hk => ?_
  apply wp_seq_k; intro K1 hK1
  apply wp_region_lit
  refine sbx 3 hs rfl hk rfl rfl rfl rfl fun b2 w a hk hs => ?_
  refine salx 4 hs rfl hk rfl rfl ze67 rfl fun b3 w a hk hs => ?_
  refine sa _ rfl hk rfl rfl rfl fun a hk => ?_
  show wpList _ _ _ [] _ _
  refine wpList_nil ?_
  refine hK1 _ _ ?_
  apply wp_seq_k; intro K4 hK4
  apply wp_seq_k; intro K5 hK5
  apply wp_region_lit
  refine sln [.slice A0_0 x0.Sure.length p0_0, .slice A0_1 x0.Unsure.length p0_1] rfl hk rfl rfl rfl ag67 sz67 (box_cells hs (k := 3) rfl) fun a hk => ?_
  obtain ⟨y6, h7, H⟩ := bind_some H
  refine sc rfl en47 hk rfl rfl rfl (impl_DeviceOK_t _ x0 A0_0 p0_0 _ v0_0 (hs.hasD (k := 1) rfl) A0_1 p0_1 _ v0_1 (hs.hasD (k := 2) rfl) _ h7) ?_
  rintro _ w ⟨rfl, hG⟩ a hk
  have hs := hs.call0 hG
  refine sv (.bool (!y6)) hk rfl rfl rfl fun a hk => ?_
  show wpList _ _ _ [] _ _
  refine wpList_nil ?_
  refine hK5 _ _ ?_
  rcases cond_some H with ⟨c8, H⟩ | ⟨c8, H⟩
  ·have hk := hk.lit 6 c8 rfl
   refine cnd_true hk rfl rfl ?_
   apply wp_seq_k; intro K9 hK9
   apply wp_region_lit
   refine sbd (pv := []) rfl hk rfl rfl rfl bd67_6 fun a hk => ?_
   refine ssw 4 hs rfl rfl hk rfl rfl rfl rfl sz67 (by simp [Value.oneCell']) rfl fun w a hk hs => ?_
   refine sa _ rfl hk rfl rfl rfl fun a hk => ?_
   show wpList _ _ _ [] _ _
   refine wpList_nil ?_
   refine hK9 _ _ ?_
   refine wp_ret ?_
   obtain rfl := Option.some.inj H
   have hs := hs.addNil 5
   have hs := hs.addNil 6
   exact fin hk _ [(.agg #[.slice none 0 0, .slice none 0 0]), (.int .i64 1)] rfl ⟨⟨_, rfl, run_loadN ag67 sz67 (box_cells hs (k := 4) rfl)⟩, ⟨rfl, trivial⟩⟩ ⟨none, 0, [], none, 0, [], rfl, Own.nil _ _, Own.nil _ _, (hs.pick [(0, 5), (1, 6)] rfl).dnil⟩
  ·have hk := hk.lit 6 c8 rfl
   refine cnd_false hk rfl rfl ?_
   refine wp_skip ?_
   refine hK4 _ _ ?_
   apply wp_seq_k; intro K10 hK10
   apply wp_region_lit
   refine sln [.slice A0_0 x0.Sure.length p0_0, .slice A0_1 x0.Unsure.length p0_1] rfl hk rfl rfl rfl ag67 sz67 (box_cells hs (k := 3) rfl) fun a hk => ?_
   obtain ⟨y11, h12, H⟩ := bind_some H
   refine sc rfl en92 hk rfl rfl rfl (impl_Device_sync_t _ x0 A0_0 p0_0 _ v0_0 (hs.hasD (k := 1) rfl) A0_1 p0_1 _ v0_1 (hs.hasD (k := 2) rfl) _ h12) ?_
   rintro _ w ⟨A13, p14, k15, A17, p18, k19, rfl, o16, o20, hG⟩ a hk
   have hs := hs.call0k hG [7, 8] rfl
   refine ssw 4 hs rfl rfl hk rfl rfl rfl rfl sz67 (by simp [Value.oneCell']) rfl fun w a hk hs => ?_
   refine sa _ rfl hk rfl rfl rfl fun a hk => ?_
   show wpList _ _ _ [] _ _
   refine wpList_nil ?_
   refine hK10 _ _ ?_
   have hs := hs.pick [(4, 4), (7, 7), (8, 8)] rfl
   refine wp_ret ?_
   obtain rfl := Option.some.inj H
   exact fin hk _ [(.agg #[.slice A13 y11.Sure.length p14, .slice A17 y11.Unsure.length p18]), (.int .i64 0)] rfl ⟨⟨_, rfl, run_loadN ag67 sz67 (box_cells hs (k := 4) rfl)⟩, ⟨rfl, trivial⟩⟩ ⟨A13, p14, _, A17, p18, _, rfl, o16, o20, (hs.pick [(0, 7), (1, 8)] rfl).dnil⟩

noncomputable def slices_IndexFunc_int_int.s0 (l0 : List Int) (q1 : Int → Option (Bool)) (u6 : Int) : Option ((Int) ⊕ Ex (Unit) (Int)) :=
  (bif (decide (u6 < (l0.length : Int))) then (if 0 ≤ u6 ∧ u6 < (l0.length : Int) then ((q1 (l0.getD u6.toNat 0)).bind fun y25 => (bif y25 then (some (.inr (.ret u6))) else (some (.inl (w64 (u6 + 1)))))) else none) else (some (.inr (.out ()))))
noncomputable def slices_IndexFunc_int_int.f (l0 : List Int) (q1 : Int → Option (Bool)) : Option (Int) :=
  ((loopO (fun s => slices_IndexFunc_int_int.s0 l0 q1 s) 0).bind fun o => match o with | .out _ => (some (-1)) | .ret r => (some r))
set_option maxRecDepth 100000 in
set_option maxHeartbeats 0 in
theorem slices_IndexFunc_int_int_t (w0 : World) (A0_ : Option Addr) (p0_ : Nat) (l0 : List Int) (k0_ : Chunk) (v0_ : View (Lay.int .i64) A0_ p0_ l0 k0_) (w0_ : Has w0 k0_) (f1_ : FuncId) (c1_ : List Value) (e1_ : Enters Try.prog f1_) (q1 : Int → Option (Bool)) (k1_ : Chunk) (t1_ : ∀ w, Has w k1_ → ∀ (z0 : Int) (r : Bool), q1 z0 = some r → Calls Try.prog f1_ (([.int .i64 z0] : List Value) ++ c1_).toArray w (Ret (fun v w2 => v = .bool r ∧ Sat [] w w2 [] []))) (w1_ : Has w0 k1_) (r : Int) (H : slices_IndexFunc_int_int.f l0 q1 = some r) :
    Calls Try.prog 185 #[.slice A0_ l0.length p0_, .func (.func f1_) #[] c1_.toArray] w0 (Ret (fun v w => v = .int .i64 r ∧ Sat [] w0 w [] [])) := by
  have hs : Sat [] w0 w0 [(1, k0_), (2, k1_)] [] := Sat.init w0 [(1, k0_), (2, k1_)] [] (by simp only [List.mem_cons, List.not_mem_nil, or_false]; rintro x (rfl | rfl) <;> assumption) (by simp) List.nodup_nil (by simp [blks])
  unfold slices_IndexFunc_int_int.f at H
  refine enter Try.func185 rfl Try.ntmps185 rfl fun a hk => ?_
  apply wp_seq_k; intro K1 hK1
  apply wp_region_lit
  refine sa _ rfl hk rfl rfl rfl fun a hk => ?_
  show wpList _ _ _ [] _ _
  refine wpList_nil ?_
  refine hK1 _ _ ?_
  apply wp_seq_k; intro K2 hK2
  apply wp_seq_k; intro K3 hK3
  apply wp_region_lit
  refine sm _ rfl hk rfl rfl rfl fun a hk => ?_
  refine sle rfl hk rfl rfl rfl un27 fun a hk => ?_
  refine sm _ rfl hk rfl rfl rfl fun a hk => ?_
  show wpList _ _ _ [] _ _
  refine wpList_nil ?_
  refine hK3 _ _ ?_
  obtain ⟨o7, h8, HL9⟩ := bind_some H
  clear H
  obtain ⟨R10, hR10⟩ : ∃ R : Act → World → Prop, R = fun a w => o7 = .out () ∧ Kn [] 19 a ∧ Sat [] w0 w [(1, k0_), (2, k1_)] [] := ⟨_, rfl⟩
  refine wp_cutq R10 ?_ ?_
  ·refine wp_block ?_
   obtain ⟨fu12, h8⟩ := loopO_some h8
   obtain ⟨I11, hI11⟩ : ∃ I : Nat → Act → World → Prop, I = fun fu a w => ∃ (u6 : Int), loopN (fun s => slices_IndexFunc_int_int.s0 l0 q1 s) fu u6 = some o7 ∧ Kn [(0, (.slice A0_ l0.length p0_)), (1, (.func (.func f1_) #[] c1_.toArray)), (7, (.int .i64 (l0.length : Int))), (8, (.int .i64 u6))] 19 a ∧ Sat [] w0 w [(1, k0_), (2, k1_)] [] := ⟨_, rfl⟩
   refine wp_loop_ghost I11 fu12 ?_ ?_
   ·rw [hI11]
    exact ⟨0, h8, (hk.c 0 rfl (hk.c 1 rfl (hk.c 7 rfl (hk.c 8 rfl hk.k)))), (hs.pick [] rfl)⟩
   ·clear h8 hk hs
    intro fu12 a w hI0
    rw [hI11] at hI0
    obtain ⟨u6, hi, hk, hs⟩ := hI0
    obtain ⟨x13, H, h14⟩ := loop_round hi
    try dsimp only at H
    unfold slices_IndexFunc_int_int.s0 at H
    apply wp_seq_k; intro K15 hK15
    apply wp_region_lit
    refine sv (.bool (decide (u6 < (l0.length : Int)))) hk rfl rfl rfl fun a hk => ?_
    show wpList _ _ _ [] _ _
    refine wpList_nil ?_
    refine hK15 _ _ ?_
    apply wp_seq_k; intro K16 hK16
    rcases cond_some H with ⟨c17, H⟩ | ⟨c17, H⟩
    ·have hk := hk.lit 9 c17 rfl
     refine cnd_true hk rfl rfl ?_
     refine wp_skip ?_
     refine hK16 _ _ ?_
     have hs := hs.pick [] rfl
     apply wp_seq_k; intro K18 hK18
     refine wp_block ?_
     apply wp_seq_k; intro K19 hK19
     apply wp_region_lit
     refine sm _ rfl hk rfl rfl rfl fun a hk => ?_
     refine sa _ rfl hk rfl rfl rfl fun a hk => ?_
     show wpList _ _ _ [] _ _
     refine wpList_nil ?_
     refine hK19 _ _ ?_
     apply wp_seq_k; intro K20 hK20
     apply wp_region_lit
     refine sm _ rfl hk rfl rfl rfl fun a hk => ?_
     refine sm _ rfl hk rfl rfl rfl fun a hk => ?_
     refine sm _ rfl hk rfl rfl rfl fun a hk => ?_
     rcases ite_some H with ⟨c21, H⟩ | ⟨_, H⟩
     rotate_left
     ·cases H
     obtain ⟨b22, q23, hAc21⟩ := (v0_).some_ u6 c21.1 c21.2
     refine si rfl hk rfl rfl rfl rfl un27 sz3 c21.1 c21.2 hAc21 fun a hk => ?_
     obtain ⟨_, rfl, e24⟩ := (v0_).at_ 0 u6 c21.1 c21.2
     refine sl (v := (.int .i64 (l0.getD u6.toNat 0))) rfl hk rfl rfl rfl ag3 ((e24 0 _ rfl).cell (hs.hasD (k := 1) rfl)) fun a hk => ?_
     obtain ⟨y25, h26, H⟩ := bind_some H
     refine scv (vs := ([(.int .i64 (l0.getD u6.toNat 0))] : List Value) ++ c1_) rfl rfl e1_ hk rfl rfl rfl (t1_ _ (hs.hasD (k := 2) rfl) (l0.getD u6.toNat 0) _ h26) ?_
     rintro _ w ⟨rfl, hG⟩ a hk
     have hs := hs.call0 hG
     show wpList _ _ _ [] _ _
     refine wpList_nil ?_
     refine hK20 _ _ ?_
     rcases cond_some H with ⟨c27, H⟩ | ⟨c27, H⟩
     ·have hk := hk.lit 16 c27 rfl
      refine cnd_true hk rfl rfl ?_
      apply wp_seq_k; intro K28 hK28
      apply wp_region_lit
      refine sm _ rfl hk rfl rfl rfl fun a hk => ?_
      refine sa _ rfl hk rfl rfl rfl fun a hk => ?_
      show wpList _ _ _ [] _ _
      refine wpList_nil ?_
      refine hK28 _ _ ?_
      refine wp_ret ?_
      obtain rfl := Option.some.inj H
      have ho7 := h14
      try dsimp only at ho7
      subst ho7
      have H := HL9
      try dsimp only at H
      obtain rfl := Option.some.inj H
      exact fin hk _ [(.int .i64 u6)] rfl ⟨rfl, trivial⟩ ⟨rfl, (hs.pick [] rfl).dnil⟩
     ·have hk := hk.lit 16 c27 rfl
      refine cnd_false hk rfl rfl ?_
      refine wp_skip ?_
      refine hK18 _ _ ?_
      apply wp_region_lit
      refine sv (.int .i64 (w64 (u6 + 1))) hk rfl rfl rfl fun a hk => ?_
      refine sm _ rfl hk rfl rfl rfl fun a hk => ?_
      show wpList _ _ _ [] _ _
      refine wpList_nil ?_
      obtain rfl := Option.some.inj H
      obtain ⟨m29, hmm29, h14⟩ := h14
      show ∃ n', n' < _ ∧ I11 n' _ _
      refine ⟨m29, hmm29, ?_⟩
      rw [hI11]
      exact ⟨(w64 (u6 + 1)), h14, (hk.c 0 rfl (hk.c 1 rfl (hk.c 7 rfl (hk.c 8 rfl hk.k)))), (hs.pick [] rfl)⟩
    ·have hk := hk.lit 9 c17 rfl
     refine cnd_false hk rfl rfl ?_
     refine wp_exit ?_
     obtain rfl := Option.some.inj H
     show R10 _ _
     rw [hR10]
     exact ⟨h14.symm, hk.k, (hs.pick [] rfl)⟩
  ·intro a w hR0
   rw [hR10] at hR0
   obtain ⟨rfl, hk, hs⟩ := hR0
   have H := HL9
   try dsimp only at H
   refine hK2 _ _ ?_
   apply wp_seq_k; intro K30 hK30
   apply wp_region_lit
   refine sa _ rfl hk rfl rfl rfl fun a hk => ?_
   show wpList _ _ _ [] _ _
   refine wpList_nil ?_
   refine hK30 _ _ ?_
   have hs := hs.pick [] rfl
   refine wp_ret ?_
   obtain rfl := Option.some.inj H
   exact fin hk _ [(.int .i64 (-1))] rfl ⟨rfl, trivial⟩ ⟨rfl, (hs.pick [] rfl).dnil⟩

noncomputable def slices_ContainsFunc_int_int.f (l0 : List Int) (q1 : Int → Option (Bool)) : Option (Bool) :=
  ((slices_IndexFunc_int_int.f l0 q1).bind fun y3 => (some (decide (y3 ≥ 0))))
set_option maxRecDepth 100000 in
set_option maxHeartbeats 0 in
theorem slices_ContainsFunc_int_int_t (w0 : World) (A0_ : Option Addr) (p0_ : Nat) (l0 : List Int) (k0_ : Chunk) (v0_ : View (Lay.int .i64) A0_ p0_ l0 k0_) (w0_ : Has w0 k0_) (f1_ : FuncId) (c1_ : List Value) (e1_ : Enters Try.prog f1_) (q1 : Int → Option (Bool)) (k1_ : Chunk) (t1_ : ∀ w, Has w k1_ → ∀ (z0 : Int) (r : Bool), q1 z0 = some r → Calls Try.prog f1_ (([.int .i64 z0] : List Value) ++ c1_).toArray w (Ret (fun v w2 => v = .bool r ∧ Sat [] w w2 [] []))) (w1_ : Has w0 k1_) (r : Bool) (H : slices_ContainsFunc_int_int.f l0 q1 = some r) :
    Calls Try.prog 172 #[.slice A0_ l0.length p0_, .func (.func f1_) #[] c1_.toArray] w0 (Ret (fun v w => v = .bool r ∧ Sat [] w0 w [] [])) := by
  have hs : Sat [] w0 w0 [(1, k0_), (2, k1_)] [] := Sat.init w0 [(1, k0_), (2, k1_)] [] (by simp only [List.mem_cons, List.not_mem_nil, or_false]; rintro x (rfl | rfl) <;> assumption) (by simp) List.nodup_nil (by simp [blks])
  unfold slices_ContainsFunc_int_int.f at H
  refine enter Try.func172 rfl Try.ntmps172 rfl fun a hk => ?_
  apply wp_seq_k; intro K1 hK1
  apply wp_region_lit
  refine sa _ rfl hk rfl rfl rfl fun a hk => ?_
  show wpList _ _ _ [] _ _
  refine wpList_nil ?_
  refine hK1 _ _ ?_
  apply wp_seq_k; intro K2 hK2
  apply wp_region_lit
  refine sm _ rfl hk rfl rfl rfl fun a hk => ?_
  refine sm _ rfl hk rfl rfl rfl fun a hk => ?_
  obtain ⟨y3, h4, H⟩ := bind_some H
  refine sc rfl en185 hk rfl rfl rfl (slices_IndexFunc_int_int_t _ A0_ p0_ l0 _ v0_ (hs.hasD (k := 1) rfl) f1_ c1_ e1_ q1 k1_ t1_ (hs.hasD (k := 2) rfl) _ h4) ?_
  rintro _ w ⟨rfl, hG⟩ a hk
  have hs := hs.call0 hG
  refine sv (.bool (decide (y3 ≥ 0))) hk rfl rfl rfl fun a hk => ?_
  refine sa _ rfl hk rfl rfl rfl fun a hk => ?_
  show wpList _ _ _ [] _ _
  refine wpList_nil ?_
  refine hK2 _ _ ?_
  refine wp_ret ?_
  obtain rfl := Option.some.inj H
  exact fin hk _ [(.bool (decide (y3 ≥ 0)))] rfl ⟨rfl, trivial⟩ ⟨rfl, (hs.pick [] rfl).dnil⟩

noncomputable def impl_areAll_int__c1.f (x0 : Int) (q1 : Int → Option (Bool)) : Option (Bool) :=
  ((q1 x0).bind fun y3 => (some (!y3)))
set_option maxRecDepth 100000 in
set_option maxHeartbeats 0 in
theorem impl_areAll_int__c1_t (w0 : World) (x0 : Int) (b1_ : Nat) (f1_ : FuncId) (c1_ : List Value) (e1_ : Enters Try.prog f1_) (q1 : Int → Option (Bool)) (k1_ : Chunk) (t1_ : ∀ w, Has w k1_ → ∀ (z0 : Int) (r : Bool), q1 z0 = some r → Calls Try.prog f1_ (([.int .i64 z0] : List Value) ++ c1_).toArray w (Ret (fun v w2 => v = .bool r ∧ Sat [] w w2 [] []))) (w1_ : Has w0 k1_) (h1_ : Has w0 [(b1_, .cells #[.func (.func f1_) #[] c1_.toArray] 117 (0, 0))]) (r : Bool) (H : impl_areAll_int__c1.f x0 q1 = some r) :
    Calls Try.prog 173 #[.int .i64 x0, .pointer (some ⟨b1_, 0, none⟩)] w0 (Ret (fun v w => v = .bool r ∧ Sat [] w0 w [] [])) := by
  have hs : Sat [] w0 w0 [(2, k1_), (1, [(b1_, .cells #[.func (.func f1_) #[] c1_.toArray] 117 (0, 0))])] [] := Sat.init w0 [(2, k1_), (1, [(b1_, .cells #[.func (.func f1_) #[] c1_.toArray] 117 (0, 0))])] [] (by simp only [List.mem_cons, List.not_mem_nil, or_false]; rintro x (rfl | rfl) <;> assumption) (by simp) List.nodup_nil (by simp [blks])
  unfold impl_areAll_int__c1.f at H
  refine enter Try.func173 rfl Try.ntmps173 rfl fun a hk => ?_
  apply wp_seq_k; intro K1 hK1
  apply wp_region_lit
  refine sa _ rfl hk rfl rfl rfl fun a hk => ?_
  show wpList _ _ _ [] _ _
  refine wpList_nil ?_
  refine hK1 _ _ ?_
  apply wp_seq_k; intro K2 hK2
  apply wp_region_lit
  refine sl rfl hk rfl rfl rfl ag117 (box_cellD hs (k := 1) rfl rfl) fun a hk => ?_
  refine sm _ rfl hk rfl rfl rfl fun a hk => ?_
  obtain ⟨y3, h4, H⟩ := bind_some H
  refine scv (vs := ([(.int .i64 x0)] : List Value) ++ c1_) rfl rfl e1_ hk rfl rfl rfl (t1_ _ (hs.hasD (k := 2) rfl) x0 _ h4) ?_
  rintro _ w ⟨rfl, hG⟩ a hk
  have hs := hs.call0 hG
  refine sv (.bool (!y3)) hk rfl rfl rfl fun a hk => ?_
  refine sa _ rfl hk rfl rfl rfl fun a hk => ?_
  show wpList _ _ _ [] _ _
  refine wpList_nil ?_
  refine hK2 _ _ ?_
  refine wp_ret ?_
  obtain rfl := Option.some.inj H
  exact fin hk _ [(.bool (!y3))] rfl ⟨rfl, trivial⟩ ⟨rfl, (hs.pick [] rfl).dnil⟩

noncomputable def impl_areAll_int.f (l0 : List Int) (q1 : Int → Option (Bool)) : Option (Bool) :=
  ((slices_ContainsFunc_int_int.f l0 (fun z0 => impl_areAll_int__c1.f z0 q1)).bind fun y4 => (some (!y4)))
set_option maxRecDepth 100000 in
set_option maxHeartbeats 0 in
theorem impl_areAll_int_t (w0 : World) (A0_ : Option Addr) (p0_ : Nat) (l0 : List Int) (k0_ : Chunk) (v0_ : View (Lay.int .i64) A0_ p0_ l0 k0_) (w0_ : Has w0 k0_) (f1_ : FuncId) (c1_ : List Value) (e1_ : Enters Try.prog f1_) (q1 : Int → Option (Bool)) (k1_ : Chunk) (t1_ : ∀ w, Has w k1_ → ∀ (z0 : Int) (r : Bool), q1 z0 = some r → Calls Try.prog f1_ (([.int .i64 z0] : List Value) ++ c1_).toArray w (Ret (fun v w2 => v = .bool r ∧ Sat [] w w2 [] []))) (w1_ : Has w0 k1_) (r : Bool) (H : impl_areAll_int.f l0 q1 = some r) :
    Calls Try.prog 147 #[.slice A0_ l0.length p0_, .func (.func f1_) #[] c1_.toArray] w0 (Ret (fun v w => v = .bool r ∧ Sat [] w0 w [] [])) := by
  have hs : Sat [] w0 w0 [(1, k0_), (2, k1_)] [] := Sat.init w0 [(1, k0_), (2, k1_)] [] (by simp only [List.mem_cons, List.not_mem_nil, or_false]; rintro x (rfl | rfl) <;> assumption) (by simp) List.nodup_nil (by simp [blks])
  unfold impl_areAll_int.f at H
  refine enter Try.func147 rfl Try.ntmps147 rfl fun a hk => ?_
  apply wp_seq_k; intro K1 hK1
  apply wp_region_lit
  refine sbx 3 hs rfl hk rfl rfl rfl rfl fun b2 w a hk hs => ?_
  refine sa _ rfl hk rfl rfl rfl fun a hk => ?_
  show wpList _ _ _ [] _ _
  refine wpList_nil ?_
  refine hK1 _ _ ?_
  apply wp_seq_k; intro K3 hK3
  apply wp_region_lit
  refine sm _ rfl hk rfl rfl rfl fun a hk => ?_
  refine smf (cs := [.pointer (some ⟨b2, 0, none⟩)]) rfl hk rfl rfl rfl fun a hk => ?_
  obtain ⟨y4, h5, H⟩ := bind_some H
  refine sc rfl en172 hk rfl rfl rfl (slices_ContainsFunc_int_int_t _ A0_ p0_ l0 _ v0_ (hs.hasD (k := 1) rfl) 173 [.pointer (some ⟨b2, 0, none⟩)] en173 (fun z0 => impl_areAll_int__c1.f z0 q1) ([(b2, .cells #[.func (.func f1_) #[] c1_.toArray] 117 (0, 0))] ++ k1_) (fun w hz z0 r h => impl_areAll_int__c1_t w z0 _ f1_ c1_ e1_ q1 k1_ t1_ (Has.right hz) (Has.left hz) r h) (Has.app (hs.hasG (k := 3) rfl) (hs.hasD (k := 2) rfl)) _ h5) ?_
  rintro _ w ⟨rfl, hG⟩ a hk
  have hs := hs.call0 hG
  refine sv (.bool (!y4)) hk rfl rfl rfl fun a hk => ?_
  refine sa _ rfl hk rfl rfl rfl fun a hk => ?_
  show wpList _ _ _ [] _ _
  refine wpList_nil ?_
  refine hK3 _ _ ?_
  refine wp_ret ?_
  obtain rfl := Option.some.inj H
  exact fin hk _ [(.bool (!y4))] rfl ⟨rfl, trivial⟩ ⟨rfl, (hs.pick [] rfl).dnil⟩

noncomputable def impl_areFates_c1.f (x0 : Int) : Option (Bool) :=
  ((impl_within.f x0 0 2).bind fun y3 => (some y3))
set_option maxRecDepth 100000 in
set_option maxHeartbeats 0 in
theorem impl_areFates_c1_t (w0 : World) (x0 : Int) (r : Bool) (H : impl_areFates_c1.f x0 = some r) :
    Calls Try.prog 148 #[.int .i64 x0] w0 (Ret (fun v w => v = .bool r ∧ Sat [] w0 w [] [])) := by
  have hs : Sat [] w0 w0 [] [] := Sat.init w0 [] [] (by simp) (by simp) List.nodup_nil (by simp [blks])
  unfold impl_areFates_c1.f at H
  refine enter Try.func148 rfl Try.ntmps148 rfl fun a hk => ?_
  apply wp_seq_k; intro K1 hK1
  apply wp_region_lit
  refine sa _ rfl hk rfl rfl rfl fun a hk => ?_
  show wpList _ _ _ [] _ _
  refine wpList_nil ?_
  refine hK1 _ _ ?_
  apply wp_seq_k; intro K2 hK2
  apply wp_region_lit
  refine sm _ rfl hk rfl rfl rfl fun a hk => ?_
  obtain ⟨y3, h4, H⟩ := bind_some H
  refine sc rfl en102 hk rfl rfl rfl (impl_within_t _ x0 0 2 _ h4) ?_
  rintro _ w ⟨rfl, hG⟩ a hk
  have hs := hs.call0 hG
  refine sa _ rfl hk rfl rfl rfl fun a hk => ?_
  show wpList _ _ _ [] _ _
  refine wpList_nil ?_
  refine hK2 _ _ ?_
  refine wp_ret ?_
  obtain rfl := Option.some.inj H
  exact fin hk _ [(.bool y3)] rfl ⟨rfl, trivial⟩ ⟨rfl, (hs.pick [] rfl).dnil⟩

noncomputable def impl_areFates.f (l0 : List Int) : Option (Bool) :=
  ((impl_areAll_int.f l0 impl_areFates_c1.f).bind fun y3 => (some y3))
set_option maxRecDepth 100000 in
set_option maxHeartbeats 0 in
theorem impl_areFates_t (w0 : World) (A0_ : Option Addr) (p0_ : Nat) (l0 : List Int) (k0_ : Chunk) (v0_ : View (Lay.int .i64) A0_ p0_ l0 k0_) (w0_ : Has w0 k0_) (r : Bool) (H : impl_areFates.f l0 = some r) :
    Calls Try.prog 93 #[.slice A0_ l0.length p0_] w0 (Ret (fun v w => v = .bool r ∧ Sat [] w0 w [] [])) := by
  have hs : Sat [] w0 w0 [(1, k0_)] [] := Sat.init w0 [(1, k0_)] [] (by simp only [List.mem_cons, List.not_mem_nil, or_false]; rintro x (rfl) <;> assumption) (by simp) List.nodup_nil (by simp [blks])
  unfold impl_areFates.f at H
  refine enter Try.func93 rfl Try.ntmps93 rfl fun a hk => ?_
  apply wp_seq_k; intro K1 hK1
  apply wp_region_lit
  refine sa _ rfl hk rfl rfl rfl fun a hk => ?_
  show wpList _ _ _ [] _ _
  refine wpList_nil ?_
  refine hK1 _ _ ?_
  apply wp_seq_k; intro K2 hK2
  apply wp_region_lit
  refine sm _ rfl hk rfl rfl rfl fun a hk => ?_
  obtain ⟨y3, h4, H⟩ := bind_some H
  refine sc rfl en147 hk rfl rfl rfl (impl_areAll_int_t _ A0_ p0_ l0 _ v0_ (hs.hasD (k := 1) rfl) 148 [] en148 impl_areFates_c1.f [] (fun w _ z0 r h => impl_areFates_c1_t w z0 r h) (Has.nil _) _ h4) ?_
  rintro _ w ⟨rfl, hG⟩ a hk
  have hs := hs.call0 hG
  refine sa _ rfl hk rfl rfl rfl fun a hk => ?_
  show wpList _ _ _ [] _ _
  refine wpList_nil ?_
  refine hK2 _ _ ?_
  refine wp_ret ?_
  obtain rfl := Option.some.inj H
  exact fin hk _ [(.bool y3)] rfl ⟨rfl, trivial⟩ ⟨rfl, (hs.pick [] rfl).dnil⟩

noncomputable def impl_CrashWith.f (x0 : S_Device) (l1 : List Int) : Option (S_Device × Int) :=
  (bif (decide ((l1.length : Int) > 4096)) then (some ((⟨([] : List ByteArray), ([] : List S_Io)⟩ : S_Device), 2)) else ((impl_DeviceOK.f x0).bind fun y9 => (bif (!y9) then (some ((⟨([] : List ByteArray), ([] : List S_Io)⟩ : S_Device), 1)) else ((impl_areFates.f l1).bind fun y14 => (bif (!y14) then (some ((⟨([] : List ByteArray), ([] : List S_Io)⟩ : S_Device), 4)) else ((impl_Device_crash.f x0 l1).bind fun y19 => (some (y19, 0))))))))
set_option maxRecDepth 100000 in
set_option maxHeartbeats 0 in
theorem impl_CrashWith_t (w0 : World) (x0 : S_Device) (A0_0 : Option Addr) (p0_0 : Nat) (k0_0 : Chunk) (v0_0 : View Lay.str A0_0 p0_0 x0.Sure k0_0) (w0_0 : Has w0 k0_0) (A0_1 : Option Addr) (p0_1 : Nat) (k0_1 : Chunk) (v0_1 : View L_Io A0_1 p0_1 x0.Unsure k0_1) (w0_1 : Has w0 k0_1) (A1_ : Option Addr) (p1_ : Nat) (l1 : List Int) (k1_ : Chunk) (v1_ : View (Lay.int .i64) A1_ p1_ l1 k1_) (w1_ : Has w0 k1_) (r : S_Device × Int) (H : impl_CrashWith.f x0 l1 = some r) :
    Calls Try.prog 42 #[.agg #[.slice A0_0 x0.Sure.length p0_0, .slice A0_1 x0.Unsure.length p0_1], .slice A1_ l1.length p1_] w0 (Ret (fun v w => ∃ (A0 : Option Addr) (p0 : Nat) (k0 : Chunk), ∃ (A1 : Option Addr) (p1 : Nat) (k1 : Chunk), v = .tuple #[.agg #[.slice A0 r.1.Sure.length p0, .slice A1 r.1.Unsure.length p1], .int .i64 r.2] ∧ Own Lay.str 9 A0 p0 r.1.Sure k0 ∧ Own L_Io 129 A1 p1 r.1.Unsure k1 ∧ Sat [] w0 w [] [(0, k0), (1, k1)])) := by
  have hs : Sat [] w0 w0 [(1, k0_0), (2, k0_1), (3, k1_)] [] := Sat.init w0 [(1, k0_0), (2, k0_1), (3, k1_)] [] (by simp only [List.mem_cons, List.not_mem_nil, or_false]; rintro x (rfl | rfl | rfl) <;> assumption) (by simp) List.nodup_nil (by simp [blks])
  unfold impl_CrashWith.f at H
  refine enter Try.func42 rfl Try.ntmps42 rfl fun a hk => ?_
  apply wp_seq_k; intro K1 hK1
  apply wp_region_lit
  refine sbx 4 hs rfl hk rfl rfl rfl rfl fun b2 w a hk hs => ?_
  refine salx 5 hs rfl hk rfl rfl ze67 rfl fun b3 w a hk hs => ?_
  refine sa _ rfl hk rfl rfl rfl fun a hk => ?_
  show wpList _ _ _ [] _ _
  refine wpList_nil ?_
  refine hK1 _ _ ?_
  apply wp_seq_k; intro K4 hK4
  refine wp_block ?_
  apply wp_seq_k; intro K5 hK5
  apply wp_region_lit
  refine sm _ rfl hk rfl rfl rfl fun a hk => ?_
  refine sle rfl hk rfl rfl rfl un27 fun a hk => ?_
  refine sv (.bool (decide ((l1.length : Int) > 4096))) hk rfl rfl rfl fun a hk => ?_
  refine sa _ rfl hk rfl rfl rfl fun a hk => ?_
  show wpList _ _ _ [] _ _
  refine wpList_nil ?_
  refine hK5 _ _ ?_
  rcases cond_some H with ⟨c6, H⟩ | ⟨c6, H⟩
  ·have hk := hk.lit 6 c6 rfl
   refine cnd_true hk rfl rfl ?_
   apply wp_seq_k; intro K7 hK7
   apply wp_region_lit
   refine sbd (pv := []) rfl hk rfl rfl rfl bd67_6 fun a hk => ?_
   refine ssw 5 hs rfl rfl hk rfl rfl rfl rfl sz67 (by simp [Value.oneCell']) rfl fun w a hk hs => ?_
   refine sa _ rfl hk rfl rfl rfl fun a hk => ?_
   show wpList _ _ _ [] _ _
   refine wpList_nil ?_
   refine hK7 _ _ ?_
   refine wp_ret ?_
   obtain rfl := Option.some.inj H
   have hs := hs.addNil 6
   have hs := hs.addNil 7
   exact fin hk _ [(.agg #[.slice none 0 0, .slice none 0 0]), (.int .i64 2)] rfl ⟨⟨_, rfl, run_loadN ag67 sz67 (box_cells hs (k := 5) rfl)⟩, ⟨rfl, trivial⟩⟩ ⟨none, 0, [], none, 0, [], rfl, Own.nil _ _, Own.nil _ _, (hs.pick [(0, 6), (1, 7)] rfl).dnil⟩
  ·have hk := hk.lit 6 c6 rfl
   refine cnd_false hk rfl rfl ?_
   apply wp_seq_k; intro K8 hK8
   apply wp_region_lit
   refine sln [.slice A0_0 x0.Sure.length p0_0, .slice A0_1 x0.Unsure.length p0_1] rfl hk rfl rfl rfl ag67 sz67 (box_cells hs (k := 4) rfl) fun a hk => ?_
   obtain ⟨y9, h10, H⟩ := bind_some H
   refine sc rfl en47 hk rfl rfl rfl (impl_DeviceOK_t _ x0 A0_0 p0_0 _ v0_0 (hs.hasD (k := 1) rfl) A0_1 p0_1 _ v0_1 (hs.hasD (k := 2) rfl) _ h10) ?_
   rintro _ w ⟨rfl, hG⟩ a hk
   have hs := hs.call0 hG
   refine sv (.bool (!y9)) hk rfl rfl rfl fun a hk => ?_
   refine sa _ rfl hk rfl rfl rfl fun a hk => ?_
   show wpList _ _ _ [] _ _
   refine wpList_nil ?_
   refine hK8 _ _ ?_
   rcases cond_some H with ⟨c11, H⟩ | ⟨c11, H⟩
   ·have hk := hk.lit 11 c11 rfl
    refine cnd_true hk rfl rfl ?_
    apply wp_seq_k; intro K12 hK12
    apply wp_region_lit
    refine sbd (pv := []) rfl hk rfl rfl rfl bd67_6 fun a hk => ?_
    refine ssw 5 hs rfl rfl hk rfl rfl rfl rfl sz67 (by simp [Value.oneCell']) rfl fun w a hk hs => ?_
    refine sa _ rfl hk rfl rfl rfl fun a hk => ?_
    show wpList _ _ _ [] _ _
    refine wpList_nil ?_
    refine hK12 _ _ ?_
    have hs := hs.pick [(5, 5)] rfl
    refine wp_ret ?_
    obtain rfl := Option.some.inj H
    have hs := hs.addNil 8
    have hs := hs.addNil 9
    exact fin hk _ [(.agg #[.slice none 0 0, .slice none 0 0]), (.int .i64 1)] rfl ⟨⟨_, rfl, run_loadN ag67 sz67 (box_cells hs (k := 5) rfl)⟩, ⟨rfl, trivial⟩⟩ ⟨none, 0, [], none, 0, [], rfl, Own.nil _ _, Own.nil _ _, (hs.pick [(0, 8), (1, 9)] rfl).dnil⟩
   ·have hk := hk.lit 11 c11 rfl
    refine cnd_false hk rfl rfl ?_
    apply wp_seq_k; intro K13 hK13
    apply wp_region_lit
    refine sm _ rfl hk rfl rfl rfl fun a hk => ?_
    obtain ⟨y14, h15, H⟩ := bind_some H
    refine sc rfl en93 hk rfl rfl rfl (impl_areFates_t _ A1_ p1_ l1 _ v1_ (hs.hasD (k := 3) rfl) _ h15) ?_
    rintro _ w ⟨rfl, hG⟩ a hk
    have hs := hs.call0 hG
    refine sv (.bool (!y14)) hk rfl rfl rfl fun a hk => ?_
    refine sa _ rfl hk rfl rfl rfl fun a hk => ?_
    show wpList _ _ _ [] _ _
    refine wpList_nil ?_
    refine hK13 _ _ ?_
    have hs := hs.pick [(4, 4), (5, 5)] rfl
    rcases cond_some H with ⟨c16, H⟩ | ⟨c16, H⟩
    ·have hk := hk.lit 16 c16 rfl
     refine cnd_true hk rfl rfl ?_
     apply wp_seq_k; intro K17 hK17
     apply wp_region_lit
     refine sbd (pv := []) rfl hk rfl rfl rfl bd67_6 fun a hk => ?_
     refine ssw 5 hs rfl rfl hk rfl rfl rfl rfl sz67 (by simp [Value.oneCell']) rfl fun w a hk hs => ?_
     refine sa _ rfl hk rfl rfl rfl fun a hk => ?_
     show wpList _ _ _ [] _ _
     refine wpList_nil ?_
     refine hK17 _ _ ?_
     refine wp_ret ?_
     obtain rfl := Option.some.inj H
     have hs := hs.addNil 10
     have hs := hs.addNil 11
     exact fin hk _ [(.agg #[.slice none 0 0, .slice none 0 0]), (.int .i64 4)] rfl ⟨⟨_, rfl, run_loadN ag67 sz67 (box_cells hs (k := 5) rfl)⟩, ⟨rfl, trivial⟩⟩ ⟨none, 0, [], none, 0, [], rfl, Own.nil _ _, Own.nil _ _, (hs.pick [(0, 10), (1, 11)] rfl).dnil⟩
    ·have hk := hk.lit 16 c16 rfl
     refine cnd_false hk rfl rfl ?_
     refine wp_skip ?_
     refine hK4 _ _ ?_
     apply wp_seq_k; intro K18 hK18
     apply wp_region_lit
     refine sln [.slice A0_0 x0.Sure.length p0_0, .slice A0_1 x0.Unsure.length p0_1] rfl hk rfl rfl rfl ag67 sz67 (box_cells hs (k := 4) rfl) fun a hk => ?_
     refine sm _ rfl hk rfl rfl rfl fun a hk => ?_
     obtain ⟨y19, h20, H⟩ := bind_some H
     refine sc rfl en94 hk rfl rfl rfl (impl_Device_crash_t _ x0 A0_0 p0_0 _ v0_0 (hs.hasD (k := 1) rfl) A0_1 p0_1 _ v0_1 (hs.hasD (k := 2) rfl) A1_ p1_ l1 _ v1_ (hs.hasD (k := 3) rfl) _ h20) ?_
     rintro _ w ⟨A21, p22, k23, A25, p26, k27, rfl, o24, o28, hG⟩ a hk
     have hs := hs.call0k hG [12, 13] rfl
     refine ssw 5 hs rfl rfl hk rfl rfl rfl rfl sz67 (by simp [Value.oneCell']) rfl fun w a hk hs => ?_
     refine sa _ rfl hk rfl rfl rfl fun a hk => ?_
     show wpList _ _ _ [] _ _
     refine wpList_nil ?_
     refine hK18 _ _ ?_
     refine wp_ret ?_
     obtain rfl := Option.some.inj H
     exact fin hk _ [(.agg #[.slice A21 y19.Sure.length p22, .slice A25 y19.Unsure.length p26]), (.int .i64 0)] rfl ⟨⟨_, rfl, run_loadN ag67 sz67 (box_cells hs (k := 5) rfl)⟩, ⟨rfl, trivial⟩⟩ ⟨A21, p22, _, A25, p26, _, rfl, o24, o28, (hs.pick [(0, 12), (1, 13)] rfl).dnil⟩

noncomputable def spec_l00Src_fates.s0 (x0 : S_l00Src) (u19 : List Int) (u16 : Int) (u17 : Int) (u18 : Int) : Option (((List Int) × Int × Int × Int) ⊕ Ex ((List Int) × Int × Int) ((List Int) × Int × Int)) :=
  (bif (decide (u16 > 0)) then ((spec_l00Src_next.f (⟨x0.code, u17, u18⟩ : S_l00Src) 3).bind fun y43 => (if u19.length + ([y43.1]).length ≤ 1073741824 then (some (.inl ((u19 ++ ([y43.1])), (w64 (u16 - 1)), y43.2.1, y43.2.2))) else none)) else (some (.inr (.out (u19, u17, u18)))))
noncomputable def spec_l00Src_fates.f (x0 : S_l00Src) : Option ((List Int) × Int × Int) :=
  ((spec_l00Src_next.f x0 4).bind fun y8 => ((loopO (fun s => spec_l00Src_fates.s0 x0 s.1 s.2.1 s.2.2.1 s.2.2.2) (([] : List Int), y8.1, y8.2.1, y8.2.2)).bind fun o => match o with | .out (u24, u29, u30) => (some (u24, u29, u30)) | .ret r => (some r)))
set_option maxRecDepth 100000 in
set_option maxHeartbeats 0 in
theorem spec_l00Src_fates_t (w0 : World) (b0_ : Nat) (x0 : S_l00Src) (A0_0 : Option Addr) (p0_0 : Nat) (k0_0 : Chunk) (v0_0 : View (Lay.int .u8) A0_0 p0_0 x0.code k0_0) (w0_0 : Has w0 k0_0) (hs0 : Sat (blks [(1, [(b0_, .cells #[.slice A0_0 x0.code.length p0_0, .int .i64 x0.at_, .int .i64 x0.seed] 159 (0, 0))])]) w0 w0 [(2, k0_0)] [(1, [(b0_, .cells #[.slice A0_0 x0.code.length p0_0, .int .i64 x0.at_, .int .i64 x0.seed] 159 (0, 0))])]) (r : (List Int) × Int × Int) (H : spec_l00Src_fates.f x0 = some r) :
    Calls Try.prog 95 #[.pointer (some ⟨b0_, 0, none⟩)] w0 (Ret (fun v w => ∃ (A0 : Option Addr) (p0 : Nat) (k0 : Chunk), v = .slice A0 r.1.length p0 ∧ Own (Lay.int .i64) 3 A0 p0 r.1 k0 ∧ Sat (blks [(1, [(b0_, .cells #[.slice A0_0 x0.code.length p0_0, .int .i64 x0.at_, .int .i64 x0.seed] 159 (0, 0))])]) w0 w [] [(0, k0), (1, [(b0_, .cells #[.slice A0_0 x0.code.length p0_0, .int .i64 r.2.1, .int .i64 r.2.2] 159 (0, 0))])])) := by
  have hs := hs0
  unfold spec_l00Src_fates.f at H
  refine enter Try.func95 rfl Try.ntmps95 rfl fun a hk => ?_
  apply wp_seq_k; intro K1 hK1
  apply wp_region_lit
  refine sa _ rfl hk rfl rfl rfl fun a hk => ?_
  show wpList _ _ _ [] _ _
  refine wpList_nil ?_
  refine hK1 _ _ ?_
  apply wp_seq_k; intro K2 hK2
  apply wp_region_lit
  refine sbs0 3 (Lay.int .i64) hs rfl hk rfl rfl un27 sz3 fun b3 k4 w a hk o5 hs => ?_
  refine sa _ rfl hk rfl rfl rfl fun a hk => ?_
  show wpList _ _ _ [] _ _
  refine wpList_nil ?_
  refine hK2 _ _ ?_
  apply wp_seq_k; intro K6 hK6
  apply wp_seq_k; intro K7 hK7
  apply wp_region_lit
  refine sm _ rfl hk rfl rfl rfl fun a hk => ?_
  obtain ⟨y8, h9, H⟩ := bind_some H
  refine sc rfl en134 hk rfl rfl rfl (spec_l00Src_next_t _ b0_ x0 A0_0 p0_0 _ v0_0 (hs.hasD (k := 2) rfl) 4 ((hs.hand [(1, 1)] rfl).dpick [(2, 2)] rfl) _ h9) ?_
  rintro _ w ⟨rfl, hG⟩ a hk
  have hs := hs.back [(1, 1)] rfl hG [1] rfl
  refine sa _ rfl hk rfl rfl rfl fun a hk => ?_
  show wpList _ _ _ [] _ _
  refine wpList_nil ?_
  refine hK7 _ _ ?_
  obtain ⟨o31, h32, HL33⟩ := bind_some H
  clear H
  obtain ⟨R34, hR34⟩ : ∃ R : Act → World → Prop, R = fun a w => ∃ (u24 : List Int) (u29 : Int) (u30 : Int) (A27 : Option Addr) (p28 : Nat) (k25 : Chunk), o31 = .out (u24, u29, u30) ∧ Kn [(0, (.pointer (some ⟨b0_, 0, none⟩))), (3, (.slice A27 u24.length p28))] 18 a ∧ Sat (blks [(1, [(b0_, .cells #[.slice A0_0 x0.code.length p0_0, .int .i64 x0.at_, .int .i64 x0.seed] 159 (0, 0))])]) w0 w [(2, k0_0)] [(3, k25), (1, [(b0_, .cells #[.slice A0_0 x0.code.length p0_0, .int .i64 u29, .int .i64 u30] 159 (0, 0))])] ∧ Own (Lay.int .i64) 3 A27 p28 u24 k25 := ⟨_, rfl⟩
  refine wp_cutq R34 ?_ ?_
  ·refine wp_block ?_
   obtain ⟨fu36, h32⟩ := loopO_some h32
   obtain ⟨I35, hI35⟩ : ∃ I : Nat → Act → World → Prop, I = fun fu a w => ∃ (u19 : List Int) (u16 : Int) (u17 : Int) (u18 : Int) (A22 : Option Addr) (p23 : Nat) (k20 : Chunk), loopN (fun s => spec_l00Src_fates.s0 x0 s.1 s.2.1 s.2.2.1 s.2.2.2) fu (u19, u16, u17, u18) = some o31 ∧ Kn [(0, (.pointer (some ⟨b0_, 0, none⟩))), (3, (.slice A22 u19.length p23)), (4, (.int .i64 u16))] 18 a ∧ Sat (blks [(1, [(b0_, .cells #[.slice A0_0 x0.code.length p0_0, .int .i64 x0.at_, .int .i64 x0.seed] 159 (0, 0))])]) w0 w [(2, k0_0)] [(3, k20), (1, [(b0_, .cells #[.slice A0_0 x0.code.length p0_0, .int .i64 u17, .int .i64 u18] 159 (0, 0))])] ∧ Own (Lay.int .i64) 3 A22 p23 u19 k20 := ⟨_, rfl⟩
   refine wp_loop_ghost I35 fu36 ?_ ?_
   ·rw [hI35]
    exact ⟨([] : List Int), y8.1, y8.2.1, y8.2.2, (some ⟨b3, 0, none⟩), 0, _, h32, (hk.c 0 rfl (hk.c 3 rfl (hk.c 4 rfl hk.k))), (hs.pick [(3, 3), (1, 1)] rfl), o5⟩
   ·clear h32 hk hs
    intro fu36 a w hI0
    rw [hI35] at hI0
    obtain ⟨u19, u16, u17, u18, A22, p23, k20, hi, hk, hs, o21⟩ := hI0
    obtain ⟨x37, H, h38⟩ := loop_round hi
    try dsimp only at H
    unfold spec_l00Src_fates.s0 at H
    apply wp_seq_k; intro K39 hK39
    apply wp_seq_k; intro K40 hK40
    apply wp_region_lit
    refine sm _ rfl hk rfl rfl rfl fun a hk => ?_
    refine sv (.bool (decide (u16 > 0))) hk rfl rfl rfl fun a hk => ?_
    show wpList _ _ _ [] _ _
    refine wpList_nil ?_
    refine hK40 _ _ ?_
    have hs := hs.pick [(3, 3), (1, 1)] rfl
    rcases cond_some H with ⟨c41, H⟩ | ⟨c41, H⟩
    ·have hk := hk.lit 9 c41 rfl
     refine cnd_true hk rfl rfl ?_
     refine wp_skip ?_
     refine hK39 _ _ ?_
     apply wp_seq_k; intro K42 hK42
     refine wp_block ?_
     apply wp_region_lit
     refine sm _ rfl hk rfl rfl rfl fun a hk => ?_
     refine sm _ rfl hk rfl rfl rfl fun a hk => ?_
     obtain ⟨y43, h44, H⟩ := bind_some H
     refine sc rfl en134 hk rfl rfl rfl (spec_l00Src_next_t _ b0_ (⟨x0.code, u17, u18⟩ : S_l00Src) A0_0 p0_0 _ v0_0 (hs.hasD (k := 2) rfl) 3 ((hs.hand [(1, 1)] rfl).dpick [(2, 2)] rfl) _ h44) ?_
     rintro _ w ⟨rfl, hG⟩ a hk
     have hs := hs.back [(1, 1)] rfl hG [1] rfl
     refine sbs (L := (Lay.int .i64)) (pv := [(0, (.int .i64 y43.1))]) (xs := [y43.1]) (ess := [[.int .i64 y43.1]]) 5 hs rfl hk rfl rfl rfl un27 (bs3_8 y43.1) (AllOwn.cons0 ⟨rfl, rfl⟩ AllOwn.nil) rfl rfl rfl fun b45 k46 w a hk o47 hs => ?_
     rcases ite_some H with ⟨c48, H⟩ | ⟨_, H⟩
     rotate_left
     ·cases H
     refine sap 3 (xs := u19) (ys := [y43.1]) (flat_flat : ((Lay.int .i64)).Flat) hs rfl o21 o47.view (hs.hasG (k := 5) rfl) rfl hk rfl rfl rfl rfl rfl rfl un27 mk3 rfl rfl rfl c48 fun A49 p50 k51 w a hk o52 hs => ?_
     refine sa _ rfl hk rfl rfl rfl fun a hk => ?_
     show wpList _ _ _ [] _ _
     refine wpList_nil ?_
     refine hK42 _ _ ?_
     apply wp_region_lit
     refine sm _ rfl hk rfl rfl rfl fun a hk => ?_
     refine sv (.int .i64 (w64 (u16 - 1))) hk rfl rfl rfl fun a hk => ?_
     refine sa _ rfl hk rfl rfl rfl fun a hk => ?_
     show wpList _ _ _ [] _ _
     refine wpList_nil ?_
     obtain rfl := Option.some.inj H
     obtain ⟨m53, hmm53, h38⟩ := h38
     show ∃ n', n' < _ ∧ I35 n' _ _
     refine ⟨m53, hmm53, ?_⟩
     rw [hI35]
     exact ⟨(u19 ++ ([y43.1])), (w64 (u16 - 1)), y43.2.1, y43.2.2, A49, p50, _, h38, (hk.c 0 rfl (hk.c 3 rfl (hk.c 4 rfl hk.k))), (hs.pick [(3, 3), (1, 1)] rfl), o52⟩
    ·have hk := hk.lit 9 c41 rfl
     refine cnd_false hk rfl rfl ?_
     refine wp_exit ?_
     obtain rfl := Option.some.inj H
     show R34 _ _
     rw [hR34]
     exact ⟨u19, u17, u18, A22, p23, _, h38.symm, (hk.c 0 rfl (hk.c 3 rfl hk.k)), (hs.pick [(3, 3), (1, 1)] rfl), o21⟩
  ·intro a w hR0
   rw [hR34] at hR0
   obtain ⟨u24, u29, u30, A27, p28, k25, rfl, hk, hs, o26⟩ := hR0
   have H := HL33
   try dsimp only at H
   refine hK6 _ _ ?_
   have hs := hs.pick [(3, 3), (1, 1)] rfl
   apply wp_seq_k; intro K54 hK54
   apply wp_region_lit
   refine sm _ rfl hk rfl rfl rfl fun a hk => ?_
   refine sa _ rfl hk rfl rfl rfl fun a hk => ?_
   show wpList _ _ _ [] _ _
   refine wpList_nil ?_
   refine hK54 _ _ ?_
   refine wp_ret ?_
   obtain rfl := Option.some.inj H
   exact fin hk _ [(.slice A27 u24.length p28)] rfl ⟨rfl, trivial⟩ ⟨A27, p28, _, rfl, o26, (hs.pick [(0, 3), (1, 1)] rfl).dnil⟩

noncomputable def spec_FatesOf.f (l0 : List Int) : Option ((List Int)) :=
  ((spec_l00Source.f l0).bind fun y3 => ((spec_l00Src_fates.f y3).bind fun y10 => (some y10.1)))
set_option maxRecDepth 100000 in
set_option maxHeartbeats 0 in
theorem spec_FatesOf_t (w0 : World) (A0_ : Option Addr) (p0_ : Nat) (l0 : List Int) (k0_ : Chunk) (v0_ : View (Lay.int .u8) A0_ p0_ l0 k0_) (w0_ : Has w0 k0_) (r : (List Int)) (H : spec_FatesOf.f l0 = some r) :
    Calls Try.prog 43 #[.slice A0_ l0.length p0_] w0 (Ret (fun v w => ∃ (A0 : Option Addr) (p0 : Nat) (k0 : Chunk), v = .slice A0 r.length p0 ∧ Own (Lay.int .i64) 3 A0 p0 r k0 ∧ Sat [] w0 w [] [(0, k0)])) := by
  have hs : Sat [] w0 w0 [(1, k0_)] [] := Sat.init w0 [(1, k0_)] [] (by simp only [List.mem_cons, List.not_mem_nil, or_false]; rintro x (rfl) <;> assumption) (by simp) List.nodup_nil (by simp [blks])
  unfold spec_FatesOf.f at H
  refine enter Try.func43 rfl Try.ntmps43 rfl fun a hk => ?_
  apply wp_seq_k; intro K1 hK1
  apply wp_region_lit
  refine sa _ rfl hk rfl rfl rfl fun a hk => ?_
  show wpList _ _ _ [] _ _
  refine wpList_nil ?_
  refine hK1 _ _ ?_
  apply wp_seq_k; intro K2 hK2
  apply wp_region_lit
  refine sm _ rfl hk rfl rfl rfl fun a hk => ?_
  obtain ⟨y3, h4, H⟩ := bind_some H
  refine sc rfl en79 hk rfl rfl rfl (spec_l00Source_t _ A0_ p0_ l0 _ v0_ (hs.hasD (k := 1) rfl) _ h4) ?_
  rintro _ w ⟨b6, A7, p8, k5, rfl, v9, hG⟩ a hk
  have hs := hs.call0k hG [3, 2] rfl
  obtain ⟨y10, h11, H⟩ := bind_some H
  refine sc rfl en95 hk rfl rfl rfl (spec_l00Src_fates_t _ b6 y3 A7 p8 _ v9 (Has.app (hs.hasD (k := 1) rfl) (hs.hasG (k := 2) rfl)) (((hs.hand [(1, 3)] rfl).dcat 2004 (k := 1) (l := 2) rfl rfl).dpick [(2, 2004)] rfl) _ h11) ?_
  rintro _ w ⟨A12, p13, k14, rfl, o15, hG⟩ a hk
  have hs := hs.back [(1, 3)] rfl hG [5, 3] rfl
  refine sa _ rfl hk rfl rfl rfl fun a hk => ?_
  show wpList _ _ _ [] _ _
  refine wpList_nil ?_
  refine hK2 _ _ ?_
  refine wp_ret ?_
  obtain rfl := Option.some.inj H
  exact fin hk _ [(.slice A12 y10.1.length p13)] rfl ⟨rfl, trivial⟩ ⟨A12, p13, _, rfl, o15, (hs.pick [(0, 5)] rfl).dnil⟩

noncomputable def spec_l01In.f (x0 : Int) (x1 : Int) (x2 : Int) : Option (Bool) :=
  (((bif (decide (x1 ≤ x0)) then (some (decide (x0 ≤ x2))) else (some false)) : Option (Bool)).bind fun u4 => (some u4))
set_option maxRecDepth 100000 in
set_option maxHeartbeats 0 in
theorem spec_l01In_t (w0 : World) (x0 : Int) (x1 : Int) (x2 : Int) (r : Bool) (H : spec_l01In.f x0 x1 x2 = some r) :
    Calls Try.prog 104 #[.int .i64 x0, .int .i64 x1, .int .i64 x2] w0 (Ret (fun v w => v = .bool r ∧ Sat [] w0 w [] [])) := by
  have hs : Sat [] w0 w0 [] [] := Sat.init w0 [] [] (by simp) (by simp) List.nodup_nil (by simp [blks])
  unfold spec_l01In.f at H
  refine enter Try.func104 rfl Try.ntmps104 rfl fun a hk => ?_
  apply wp_seq_k; intro K1 hK1
  apply wp_region_lit
  refine sa _ rfl hk rfl rfl rfl fun a hk => ?_
  show wpList _ _ _ [] _ _
  refine wpList_nil ?_
  refine hK1 _ _ ?_
  apply wp_seq_k; intro K2 hK2
  obtain ⟨o5, h6, HL7⟩ := bind_some H
  clear H
  obtain ⟨R8, hR8⟩ : ∃ R : Act → World → Prop, R = fun a w => ∃ (u4 : Bool), u4 = o5 ∧ Kn [(6, (.bool u4))] 15 a ∧ Sat [] w0 w [] [] := ⟨_, rfl⟩
  refine wp_cutq R8 ?_ ?_
  ·have H := h6
   apply wp_region_lit
   refine sm _ rfl hk rfl rfl rfl fun a hk => ?_
   refine sm _ rfl hk rfl rfl rfl fun a hk => ?_
   refine sv (.bool (decide (x1 ≤ x0))) hk rfl rfl rfl fun a hk => ?_
   refine sm _ rfl hk rfl rfl rfl fun a hk => ?_
   rcases cond_some H with ⟨c9, H⟩ | ⟨c9, H⟩
   ·have hk := hk.lit 10 c9 rfl
    refine sm _ rfl hk rfl rfl rfl fun a hk => ?_
    refine sm _ rfl hk rfl rfl rfl fun a hk => ?_
    refine sv (.bool (decide (x0 ≤ x2))) hk rfl rfl rfl fun a hk => ?_
    refine sv (.bool (decide (x0 ≤ x2))) hk rfl rfl rfl fun a hk => ?_
    refine sa _ rfl hk rfl rfl rfl fun a hk => ?_
    show wpList _ _ _ [] _ _
    refine wpList_nil ?_
    obtain rfl := Option.some.inj H
    show R8 _ _
    rw [hR8]
    exact ⟨(decide (x0 ≤ x2)), rfl, (hk.c 6 rfl hk.k), (hs.pick [] rfl)⟩
   ·have hk := hk.lit 10 c9 rfl
    refine sk hk rfl rfl rfl fun a hk => ?_
    refine sk hk rfl rfl rfl fun a hk => ?_
    refine sk hk rfl rfl rfl fun a hk => ?_
    refine sv (.bool false) hk rfl rfl rfl fun a hk => ?_
    refine sa _ rfl hk rfl rfl rfl fun a hk => ?_
    show wpList _ _ _ [] _ _
    refine wpList_nil ?_
    obtain rfl := Option.some.inj H
    show R8 _ _
    rw [hR8]
    exact ⟨false, rfl, (hk.c 6 rfl hk.k), (hs.pick [] rfl)⟩
  ·intro a w hR0
   rw [hR8] at hR0
   obtain ⟨u4, rfl, hk, hs⟩ := hR0
   have H := HL7
   try dsimp only at H
   refine hK2 _ _ ?_
   refine wp_ret ?_
   obtain rfl := Option.some.inj H
   exact fin hk _ [(.bool u4)] rfl ⟨rfl, trivial⟩ ⟨rfl, (hs.pick [] rfl).dnil⟩

noncomputable def spec_l05In.f (x0 : Int) : Option (Bool) :=
  ((spec_l01In.f x0 0 39).bind fun y3 => (some y3))
set_option maxRecDepth 100000 in
set_option maxHeartbeats 0 in
theorem spec_l05In_t (w0 : World) (x0 : Int) (r : Bool) (H : spec_l05In.f x0 = some r) :
    Calls Try.prog 103 #[.int .i64 x0] w0 (Ret (fun v w => v = .bool r ∧ Sat [] w0 w [] [])) := by
  have hs : Sat [] w0 w0 [] [] := Sat.init w0 [] [] (by simp) (by simp) List.nodup_nil (by simp [blks])
  unfold spec_l05In.f at H
  refine enter Try.func103 rfl Try.ntmps103 rfl fun a hk => ?_
  apply wp_seq_k; intro K1 hK1
  apply wp_region_lit
  refine sa _ rfl hk rfl rfl rfl fun a hk => ?_
  show wpList _ _ _ [] _ _
  refine wpList_nil ?_
  refine hK1 _ _ ?_
  apply wp_seq_k; intro K2 hK2
  apply wp_region_lit
  refine sm _ rfl hk rfl rfl rfl fun a hk => ?_
  obtain ⟨y3, h4, H⟩ := bind_some H
  refine sc rfl en104 hk rfl rfl rfl (spec_l01In_t _ x0 0 39 _ h4) ?_
  rintro _ w ⟨rfl, hG⟩ a hk
  have hs := hs.call0 hG
  refine sa _ rfl hk rfl rfl rfl fun a hk => ?_
  show wpList _ _ _ [] _ _
  refine wpList_nil ?_
  refine hK2 _ _ ?_
  refine wp_ret ?_
  obtain rfl := Option.some.inj H
  exact fin hk _ [(.bool y3)] rfl ⟨rfl, trivial⟩ ⟨rfl, (hs.pick [] rfl).dnil⟩

noncomputable def spec_DeviceOK.s0 (x0 : S_Device) (u18 : Int) : Option ((Int) ⊕ Ex (Unit) (Bool)) :=
  (bif (decide (u18 < (x0.Sure.length : Int))) then (if 0 ≤ u18 ∧ u18 < (x0.Sure.length : Int) then (bif (decide (((x0.Sure.getD u18.toNat ByteArray.empty).size : Int) > 700)) then (some (.inr (.ret false))) else (some (.inl (w64 (u18 + 1))))) else none) else (some (.inr (.out ()))))
noncomputable def spec_DeviceOK.s1 (x0 : S_Device) (u43 : Int) : Option ((Int) ⊕ Ex (Unit) (Bool)) :=
  (bif (decide (u43 < (x0.Unsure.length : Int))) then (((if 0 ≤ u43 ∧ u43 < (x0.Unsure.length : Int) then ((spec_l05In.f ((x0.Unsure.getD u43.toNat z_Io).At)).bind fun y67 => (bif (!y67) then (some true) else (if 0 ≤ u43 ∧ u43 < (x0.Unsure.length : Int) then (some (decide ((((x0.Unsure.getD u43.toNat z_Io).Data).size : Int) > 700))) else none))) else none) : Option (Bool)).bind fun u58 => (bif u58 then (some (.inr (.ret false))) else (some (.inl (w64 (u43 + 1)))))) else (some (.inr (.out ()))))
noncomputable def spec_DeviceOK.f (x0 : S_Device) : Option (Bool) :=
  (((bif ((x0.Sure.length : Int) != 40) then (some true) else (some (decide ((x0.Unsure.length : Int) > 60)))) : Option (Bool)).bind fun u6 => (bif u6 then (some false) else ((loopO (fun s => spec_DeviceOK.s0 x0 s) 0).bind fun o => match o with | .out _ => ((loopO (fun s => spec_DeviceOK.s1 x0 s) 0).bind fun o => match o with | .out _ => (some true) | .ret r => (some r)) | .ret r => (some r))))
set_option maxRecDepth 100000 in
set_option maxHeartbeats 0 in
theorem spec_DeviceOK_t (w0 : World) (x0 : S_Device) (A0_0 : Option Addr) (p0_0 : Nat) (k0_0 : Chunk) (v0_0 : View Lay.str A0_0 p0_0 x0.Sure k0_0) (w0_0 : Has w0 k0_0) (A0_1 : Option Addr) (p0_1 : Nat) (k0_1 : Chunk) (v0_1 : View L_Io A0_1 p0_1 x0.Unsure k0_1) (w0_1 : Has w0 k0_1) (r : Bool) (H : spec_DeviceOK.f x0 = some r) :
    Calls Try.prog 96 #[.agg #[.slice A0_0 x0.Sure.length p0_0, .slice A0_1 x0.Unsure.length p0_1]] w0 (Ret (fun v w => v = .bool r ∧ Sat [] w0 w [] [])) := by
  have hs : Sat [] w0 w0 [(1, k0_0), (2, k0_1)] [] := Sat.init w0 [(1, k0_0), (2, k0_1)] [] (by simp only [List.mem_cons, List.not_mem_nil, or_false]; rintro x (rfl | rfl) <;> assumption) (by simp) List.nodup_nil (by simp [blks])
  unfold spec_DeviceOK.f at H
  refine enter Try.func96 rfl Try.ntmps96 rfl fun a hk => ?_
  apply wp_seq_k; intro K1 hK1
  apply wp_region_lit
  refine sbx 3 hs rfl hk rfl rfl rfl rfl fun b2 w a hk hs => ?_
  refine sa _ rfl hk rfl rfl rfl fun a hk => ?_
  show wpList _ _ _ [] _ _
  refine wpList_nil ?_
  refine hK1 _ _ ?_
  apply wp_seq_k; intro K3 hK3
  apply wp_seq_k; intro K4 hK4
  obtain ⟨o7, h8, HL9⟩ := bind_some H
  clear H
  obtain ⟨R10, hR10⟩ : ∃ R : Act → World → Prop, R = fun a w => ∃ (u6 : Bool), u6 = o7 ∧ Kn [(1, (.pointer (some ⟨b2, 0, none⟩))), (14, (.bool u6))] 54 a ∧ Sat [] w0 w [(1, k0_0), (2, k0_1)] [(3, [(b2, .cells #[.slice A0_0 x0.Sure.length p0_0, .slice A0_1 x0.Unsure.length p0_1] 67 (0, 0))])] := ⟨_, rfl⟩
  refine wp_cutq R10 ?_ ?_
  ·have H := h8
   apply wp_region_lit
   refine sf ⟨b2, 0, none⟩ rfl hk rfl rfl rfl fd67_0 rfl fun a hk => ?_
   refine sl rfl hk rfl rfl rfl ag64 (box_cell hs (k := 3) rfl rfl) fun a hk => ?_
   refine sle rfl hk rfl rfl rfl un64 fun a hk => ?_
   refine sv (.bool ((x0.Sure.length : Int) != 40)) hk rfl rfl rfl fun a hk => ?_
   refine sm _ rfl hk rfl rfl rfl fun a hk => ?_
   rcases cond_some H with ⟨c11, H⟩ | ⟨c11, H⟩
   ·have hk := hk.lit 9 c11 rfl
    refine sk hk rfl rfl rfl fun a hk => ?_
    refine sk hk rfl rfl rfl fun a hk => ?_
    refine sk hk rfl rfl rfl fun a hk => ?_
    refine sk hk rfl rfl rfl fun a hk => ?_
    refine sv (.bool true) hk rfl rfl rfl fun a hk => ?_
    show wpList _ _ _ [] _ _
    refine wpList_nil ?_
    obtain rfl := Option.some.inj H
    show R10 _ _
    rw [hR10]
    exact ⟨true, rfl, (hk.c 1 rfl (hk.c 14 rfl hk.k)), (hs.pick [(3, 3)] rfl)⟩
   ·have hk := hk.lit 9 c11 rfl
    refine sf ⟨b2, 1, none⟩ rfl hk rfl rfl rfl fd67_1 rfl fun a hk => ?_
    refine sl rfl hk rfl rfl rfl ag65 (box_cell hs (k := 3) rfl rfl) fun a hk => ?_
    refine sle rfl hk rfl rfl rfl un65 fun a hk => ?_
    refine sv (.bool (decide ((x0.Unsure.length : Int) > 60))) hk rfl rfl rfl fun a hk => ?_
    refine sv (.bool (decide ((x0.Unsure.length : Int) > 60))) hk rfl rfl rfl fun a hk => ?_
    show wpList _ _ _ [] _ _
    refine wpList_nil ?_
    obtain rfl := Option.some.inj H
    show R10 _ _
    rw [hR10]
    exact ⟨(decide ((x0.Unsure.length : Int) > 60)), rfl, (hk.c 1 rfl (hk.c 14 rfl hk.k)), (hs.pick [(3, 3)] rfl)⟩
  ·intro a w hR0
   rw [hR10] at hR0
   obtain ⟨u6, rfl, hk, hs⟩ := hR0
   have H := HL9
   try dsimp only at H
   refine hK4 _ _ ?_
   rcases cond_some H with ⟨c12, H⟩ | ⟨c12, H⟩
   ·have hk := hk.lit 14 c12 rfl
    refine cnd_true hk rfl rfl ?_
    apply wp_seq_k; intro K13 hK13
    apply wp_region_lit
    refine sa _ rfl hk rfl rfl rfl fun a hk => ?_
    show wpList _ _ _ [] _ _
    refine wpList_nil ?_
    refine hK13 _ _ ?_
    refine wp_ret ?_
    obtain rfl := Option.some.inj H
    exact fin hk _ [(.bool false)] rfl ⟨rfl, trivial⟩ ⟨rfl, (hs.pick [] rfl).dnil⟩
   ·have hk := hk.lit 14 c12 rfl
    refine cnd_false hk rfl rfl ?_
    refine wp_skip ?_
    refine hK3 _ _ ?_
    apply wp_seq_k; intro K14 hK14
    apply wp_seq_k; intro K15 hK15
    apply wp_region_lit
    refine sa _ rfl hk rfl rfl rfl fun a hk => ?_
    show wpList _ _ _ [] _ _
    refine wpList_nil ?_
    refine hK15 _ _ ?_
    have hs := hs.pick [(3, 3)] rfl
    obtain ⟨o19, h20, HL21⟩ := bind_some H
    clear H
    obtain ⟨R22, hR22⟩ : ∃ R : Act → World → Prop, R = fun a w => o19 = .out () ∧ Kn [(1, (.pointer (some ⟨b2, 0, none⟩)))] 54 a ∧ Sat [] w0 w [(1, k0_0), (2, k0_1)] [(3, [(b2, .cells #[.slice A0_0 x0.Sure.length p0_0, .slice A0_1 x0.Unsure.length p0_1] 67 (0, 0))])] := ⟨_, rfl⟩
    refine wp_cutq R22 ?_ ?_
    ·refine wp_block ?_
     obtain ⟨fu24, h20⟩ := loopO_some h20
     obtain ⟨I23, hI23⟩ : ∃ I : Nat → Act → World → Prop, I = fun fu a w => ∃ (u18 : Int), loopN (fun s => spec_DeviceOK.s0 x0 s) fu u18 = some o19 ∧ Kn [(1, (.pointer (some ⟨b2, 0, none⟩))), (3, (.int .i64 u18))] 54 a ∧ Sat [] w0 w [(1, k0_0), (2, k0_1)] [(3, [(b2, .cells #[.slice A0_0 x0.Sure.length p0_0, .slice A0_1 x0.Unsure.length p0_1] 67 (0, 0))])] := ⟨_, rfl⟩
     refine wp_loop_ghost I23 fu24 ?_ ?_
     ·rw [hI23]
      exact ⟨0, h20, (hk.c 1 rfl (hk.c 3 rfl hk.k)), (hs.pick [(3, 3)] rfl)⟩
     ·clear h20 hk hs
      intro fu24 a w hI0
      rw [hI23] at hI0
      obtain ⟨u18, hi, hk, hs⟩ := hI0
      obtain ⟨x25, H, h26⟩ := loop_round hi
      try dsimp only at H
      unfold spec_DeviceOK.s0 at H
      apply wp_seq_k; intro K27 hK27
      apply wp_seq_k; intro K28 hK28
      apply wp_region_lit
      refine sm _ rfl hk rfl rfl rfl fun a hk => ?_
      refine sf ⟨b2, 0, none⟩ rfl hk rfl rfl rfl fd67_0 rfl fun a hk => ?_
      refine sl rfl hk rfl rfl rfl ag64 (box_cell hs (k := 3) rfl rfl) fun a hk => ?_
      refine sle rfl hk rfl rfl rfl un64 fun a hk => ?_
      refine sv (.bool (decide (u18 < (x0.Sure.length : Int)))) hk rfl rfl rfl fun a hk => ?_
      show wpList _ _ _ [] _ _
      refine wpList_nil ?_
      refine hK28 _ _ ?_
      rcases cond_some H with ⟨c29, H⟩ | ⟨c29, H⟩
      ·have hk := hk.lit 19 c29 rfl
       refine cnd_true hk rfl rfl ?_
       refine wp_skip ?_
       refine hK27 _ _ ?_
       apply wp_seq_k; intro K30 hK30
       refine wp_block ?_
       apply wp_seq_k; intro K31 hK31
       apply wp_region_lit
       refine sf ⟨b2, 0, none⟩ rfl hk rfl rfl rfl fd67_0 rfl fun a hk => ?_
       refine sl rfl hk rfl rfl rfl ag64 (box_cell hs (k := 3) rfl rfl) fun a hk => ?_
       refine sm _ rfl hk rfl rfl rfl fun a hk => ?_
       rcases ite_some H with ⟨c32, H⟩ | ⟨_, H⟩
       rotate_left
       ·cases H
       obtain ⟨b33, q34, hAc32⟩ := (v0_0).some_ u18 c32.1 c32.2
       refine si rfl hk rfl rfl rfl rfl un64 sz9 c32.1 c32.2 hAc32 fun a hk => ?_
       obtain ⟨_, rfl, e35⟩ := (v0_0).at_ ByteArray.empty u18 c32.1 c32.2
       refine sl (v := (.string (x0.Sure.getD u18.toNat ByteArray.empty))) rfl hk rfl rfl rfl ag9 ((e35 0 _ rfl).cell (hs.hasD (k := 1) rfl)) fun a hk => ?_
       refine sles rfl hk rfl rfl rfl un9 fun a hk => ?_
       refine sv (.bool (decide (((x0.Sure.getD u18.toNat ByteArray.empty).size : Int) > 700))) hk rfl rfl rfl fun a hk => ?_
       show wpList _ _ _ [] _ _
       refine wpList_nil ?_
       refine hK31 _ _ ?_
       rcases cond_some H with ⟨c36, H⟩ | ⟨c36, H⟩
       ·have hk := hk.lit 28 c36 rfl
        refine cnd_true hk rfl rfl ?_
        apply wp_seq_k; intro K37 hK37
        apply wp_region_lit
        refine sa _ rfl hk rfl rfl rfl fun a hk => ?_
        show wpList _ _ _ [] _ _
        refine wpList_nil ?_
        refine hK37 _ _ ?_
        have hs := hs.pick [] rfl
        refine wp_ret ?_
        obtain rfl := Option.some.inj H
        have ho19 := h26
        try dsimp only at ho19
        subst ho19
        have H := HL21
        try dsimp only at H
        obtain rfl := Option.some.inj H
        exact fin hk _ [(.bool false)] rfl ⟨rfl, trivial⟩ ⟨rfl, (hs.pick [] rfl).dnil⟩
       ·have hk := hk.lit 28 c36 rfl
        refine cnd_false hk rfl rfl ?_
        refine wp_skip ?_
        refine hK30 _ _ ?_
        have hs := hs.pick [(3, 3)] rfl
        apply wp_region_lit
        refine sm _ rfl hk rfl rfl rfl fun a hk => ?_
        refine sv (.int .i64 (w64 (u18 + 1))) hk rfl rfl rfl fun a hk => ?_
        refine sa _ rfl hk rfl rfl rfl fun a hk => ?_
        show wpList _ _ _ [] _ _
        refine wpList_nil ?_
        obtain rfl := Option.some.inj H
        obtain ⟨m38, hmm38, h26⟩ := h26
        show ∃ n', n' < _ ∧ I23 n' _ _
        refine ⟨m38, hmm38, ?_⟩
        rw [hI23]
        exact ⟨(w64 (u18 + 1)), h26, (hk.c 1 rfl (hk.c 3 rfl hk.k)), (hs.pick [(3, 3)] rfl)⟩
      ·have hk := hk.lit 19 c29 rfl
       refine cnd_false hk rfl rfl ?_
       refine wp_exit ?_
       obtain rfl := Option.some.inj H
       show R22 _ _
       rw [hR22]
       exact ⟨h26.symm, (hk.c 1 rfl hk.k), (hs.pick [(3, 3)] rfl)⟩
    ·intro a w hR0
     rw [hR22] at hR0
     obtain ⟨rfl, hk, hs⟩ := hR0
     have H := HL21
     try dsimp only at H
     refine hK14 _ _ ?_
     apply wp_seq_k; intro K39 hK39
     apply wp_seq_k; intro K40 hK40
     apply wp_region_lit
     refine sa _ rfl hk rfl rfl rfl fun a hk => ?_
     show wpList _ _ _ [] _ _
     refine wpList_nil ?_
     refine hK40 _ _ ?_
     obtain ⟨o44, h45, HL46⟩ := bind_some H
     clear H
     obtain ⟨R47, hR47⟩ : ∃ R : Act → World → Prop, R = fun a w => o44 = .out () ∧ Kn [] 54 a ∧ Sat [] w0 w [(1, k0_0), (2, k0_1)] [] := ⟨_, rfl⟩
     refine wp_cutq R47 ?_ ?_
     ·refine wp_block ?_
      obtain ⟨fu49, h45⟩ := loopO_some h45
      obtain ⟨I48, hI48⟩ : ∃ I : Nat → Act → World → Prop, I = fun fu a w => ∃ (u43 : Int), loopN (fun s => spec_DeviceOK.s1 x0 s) fu u43 = some o44 ∧ Kn [(1, (.pointer (some ⟨b2, 0, none⟩))), (4, (.int .i64 u43))] 54 a ∧ Sat [] w0 w [(1, k0_0), (2, k0_1)] [(3, [(b2, .cells #[.slice A0_0 x0.Sure.length p0_0, .slice A0_1 x0.Unsure.length p0_1] 67 (0, 0))])] := ⟨_, rfl⟩
      refine wp_loop_ghost I48 fu49 ?_ ?_
      ·rw [hI48]
       exact ⟨0, h45, (hk.c 1 rfl (hk.c 4 rfl hk.k)), (hs.pick [(3, 3)] rfl)⟩
      ·clear h45 hk hs
       intro fu49 a w hI0
       rw [hI48] at hI0
       obtain ⟨u43, hi, hk, hs⟩ := hI0
       obtain ⟨x50, H, h51⟩ := loop_round hi
       try dsimp only at H
       unfold spec_DeviceOK.s1 at H
       apply wp_seq_k; intro K52 hK52
       apply wp_seq_k; intro K53 hK53
       apply wp_region_lit
       refine sm _ rfl hk rfl rfl rfl fun a hk => ?_
       refine sf ⟨b2, 1, none⟩ rfl hk rfl rfl rfl fd67_1 rfl fun a hk => ?_
       refine sl rfl hk rfl rfl rfl ag65 (box_cell hs (k := 3) rfl rfl) fun a hk => ?_
       refine sle rfl hk rfl rfl rfl un65 fun a hk => ?_
       refine sv (.bool (decide (u43 < (x0.Unsure.length : Int)))) hk rfl rfl rfl fun a hk => ?_
       show wpList _ _ _ [] _ _
       refine wpList_nil ?_
       refine hK53 _ _ ?_
       rcases cond_some H with ⟨c54, H⟩ | ⟨c54, H⟩
       ·have hk := hk.lit 33 c54 rfl
        refine cnd_true hk rfl rfl ?_
        refine wp_skip ?_
        refine hK52 _ _ ?_
        have hs := hs.pick [(3, 3)] rfl
        apply wp_seq_k; intro K55 hK55
        refine wp_block ?_
        apply wp_seq_k; intro K56 hK56
        obtain ⟨o59, h60, HL61⟩ := bind_some H
        clear H
        obtain ⟨R62, hR62⟩ : ∃ R : Act → World → Prop, R = fun a w => ∃ (u58 : Bool), u58 = o59 ∧ Kn [(1, (.pointer (some ⟨b2, 0, none⟩))), (4, (.int .i64 u43)), (53, (.bool u58))] 54 a ∧ Sat [] w0 w [(1, k0_0), (2, k0_1)] [(3, [(b2, .cells #[.slice A0_0 x0.Sure.length p0_0, .slice A0_1 x0.Unsure.length p0_1] 67 (0, 0))])] := ⟨_, rfl⟩
        refine wp_cutq R62 ?_ ?_
        ·have H := h60
         apply wp_region_lit
         refine sf ⟨b2, 1, none⟩ rfl hk rfl rfl rfl fd67_1 rfl fun a hk => ?_
         refine sl rfl hk rfl rfl rfl ag65 (box_cell hs (k := 3) rfl rfl) fun a hk => ?_
         refine sm _ rfl hk rfl rfl rfl fun a hk => ?_
         rcases ite_some H with ⟨c63, H⟩ | ⟨_, H⟩
         rotate_left
         ·cases H
         obtain ⟨b64, q65, hAc63⟩ := (v0_1).some_ u43 c63.1 c63.2
         refine si rfl hk rfl rfl rfl rfl un65 sz129 c63.1 c63.2 hAc63 fun a hk => ?_
         refine sf (padd A0_1 (u43.toNat * 2 + 0)) rfl hk rfl rfl rfl fd129_0 (padd_add _ _ _) fun a hk => ?_
         obtain ⟨_, rfl, e66⟩ := (v0_1).at_ z_Io u43 c63.1 c63.2
         refine sl (v := (.int .i64 ((x0.Unsure.getD u43.toNat z_Io).At))) rfl hk rfl rfl rfl ag3 ((e66 0 _ rfl).cell (hs.hasD (k := 2) rfl)) fun a hk => ?_
         obtain ⟨y67, h68, H⟩ := bind_some H
         refine sc rfl en103 hk rfl rfl rfl (spec_l05In_t _ ((x0.Unsure.getD u43.toNat z_Io).At) _ h68) ?_
         rintro _ w ⟨rfl, hG⟩ a hk
         have hs := hs.call0 hG
         refine sv (.bool (!y67)) hk rfl rfl rfl fun a hk => ?_
         refine sm _ rfl hk rfl rfl rfl fun a hk => ?_
         rcases cond_some H with ⟨c69, H⟩ | ⟨c69, H⟩
         ·have hk := hk.lit 44 c69 rfl
          refine sk hk rfl rfl rfl fun a hk => ?_
          refine sk hk rfl rfl rfl fun a hk => ?_
          refine sk hk rfl rfl rfl fun a hk => ?_
          refine sk hk rfl rfl rfl fun a hk => ?_
          refine sk hk rfl rfl rfl fun a hk => ?_
          refine sk hk rfl rfl rfl fun a hk => ?_
          refine sk hk rfl rfl rfl fun a hk => ?_
          refine sk hk rfl rfl rfl fun a hk => ?_
          refine sv (.bool true) hk rfl rfl rfl fun a hk => ?_
          show wpList _ _ _ [] _ _
          refine wpList_nil ?_
          obtain rfl := Option.some.inj H
          show R62 _ _
          rw [hR62]
          exact ⟨true, rfl, (hk.c 1 rfl (hk.c 4 rfl (hk.c 53 rfl hk.k))), (hs.pick [(3, 3)] rfl)⟩
         ·have hk := hk.lit 44 c69 rfl
          refine sf ⟨b2, 1, none⟩ rfl hk rfl rfl rfl fd67_1 rfl fun a hk => ?_
          refine sl rfl hk rfl rfl rfl ag65 (box_cell hs (k := 3) rfl rfl) fun a hk => ?_
          refine sm _ rfl hk rfl rfl rfl fun a hk => ?_
          rcases ite_some H with ⟨c70, H⟩ | ⟨_, H⟩
          rotate_left
          ·cases H
          obtain ⟨b71, q72, hAc70⟩ := (v0_1).some_ u43 c70.1 c70.2
          refine si rfl hk rfl rfl rfl rfl un65 sz129 c70.1 c70.2 hAc70 fun a hk => ?_
          refine sf (padd A0_1 (u43.toNat * 2 + 1)) rfl hk rfl rfl rfl fd129_1 (padd_add _ _ _) fun a hk => ?_
          obtain ⟨_, rfl, e73⟩ := (v0_1).at_ z_Io u43 c70.1 c70.2
          refine sl (v := (.string ((x0.Unsure.getD u43.toNat z_Io).Data))) rfl hk rfl rfl rfl ag9 ((e73 1 _ rfl).cell (hs.hasD (k := 2) rfl)) fun a hk => ?_
          refine sles rfl hk rfl rfl rfl un9 fun a hk => ?_
          refine sv (.bool (decide ((((x0.Unsure.getD u43.toNat z_Io).Data).size : Int) > 700))) hk rfl rfl rfl fun a hk => ?_
          refine sv (.bool (decide ((((x0.Unsure.getD u43.toNat z_Io).Data).size : Int) > 700))) hk rfl rfl rfl fun a hk => ?_
          show wpList _ _ _ [] _ _
          refine wpList_nil ?_
          obtain rfl := Option.some.inj H
          show R62 _ _
          rw [hR62]
          exact ⟨(decide ((((x0.Unsure.getD u43.toNat z_Io).Data).size : Int) > 700)), rfl, (hk.c 1 rfl (hk.c 4 rfl (hk.c 53 rfl hk.k))), (hs.pick [(3, 3)] rfl)⟩
        ·intro a w hR0
         rw [hR62] at hR0
         obtain ⟨u58, rfl, hk, hs⟩ := hR0
         have H := HL61
         try dsimp only at H
         refine hK56 _ _ ?_
         rcases cond_some H with ⟨c74, H⟩ | ⟨c74, H⟩
         ·have hk := hk.lit 53 c74 rfl
          refine cnd_true hk rfl rfl ?_
          apply wp_seq_k; intro K75 hK75
          apply wp_region_lit
          refine sa _ rfl hk rfl rfl rfl fun a hk => ?_
          show wpList _ _ _ [] _ _
          refine wpList_nil ?_
          refine hK75 _ _ ?_
          refine wp_ret ?_
          obtain rfl := Option.some.inj H
          have ho44 := h51
          try dsimp only at ho44
          subst ho44
          have H := HL46
          try dsimp only at H
          obtain rfl := Option.some.inj H
          exact fin hk _ [(.bool false)] rfl ⟨rfl, trivial⟩ ⟨rfl, (hs.pick [] rfl).dnil⟩
         ·have hk := hk.lit 53 c74 rfl
          refine cnd_false hk rfl rfl ?_
          refine wp_skip ?_
          refine hK55 _ _ ?_
          apply wp_region_lit
          refine sm _ rfl hk rfl rfl rfl fun a hk => ?_
          refine sv (.int .i64 (w64 (u43 + 1))) hk rfl rfl rfl fun a hk => ?_
          refine sa _ rfl hk rfl rfl rfl fun a hk => ?_
          show wpList _ _ _ [] _ _
          refine wpList_nil ?_
          obtain rfl := Option.some.inj H
          obtain ⟨m76, hmm76, h51⟩ := h51
          show ∃ n', n' < _ ∧ I48 n' _ _
          refine ⟨m76, hmm76, ?_⟩
          rw [hI48]
          exact ⟨(w64 (u43 + 1)), h51, (hk.c 1 rfl (hk.c 4 rfl hk.k)), (hs.pick [(3, 3)] rfl)⟩
       ·have hk := hk.lit 33 c54 rfl
        refine cnd_false hk rfl rfl ?_
        refine wp_exit ?_
        obtain rfl := Option.some.inj H
        show R47 _ _
        rw [hR47]
        exact ⟨h51.symm, hk.k, (hs.pick [] rfl)⟩
     ·intro a w hR0
      rw [hR47] at hR0
      obtain ⟨rfl, hk, hs⟩ := hR0
      have H := HL46
      try dsimp only at H
      refine hK39 _ _ ?_
      apply wp_seq_k; intro K77 hK77
      apply wp_region_lit
      refine sa _ rfl hk rfl rfl rfl fun a hk => ?_
      show wpList _ _ _ [] _ _
      refine wpList_nil ?_
      refine hK77 _ _ ?_
      have hs := hs.pick [] rfl
      refine wp_ret ?_
      obtain rfl := Option.some.inj H
      exact fin hk _ [(.bool true)] rfl ⟨rfl, trivial⟩ ⟨rfl, (hs.pick [] rfl).dnil⟩

noncomputable def spec_l05Fates.s0 (l0 : List Int) (u6 : Int) : Option ((Int) ⊕ Ex (Unit) (Bool)) :=
  (bif (decide (u6 < (l0.length : Int))) then (if 0 ≤ u6 ∧ u6 < (l0.length : Int) then ((spec_l01In.f (l0.getD u6.toNat 0) 0 2).bind fun y24 => (bif (!y24) then (some (.inr (.ret false))) else (some (.inl (w64 (u6 + 1)))))) else none) else (some (.inr (.out ()))))
noncomputable def spec_l05Fates.f (l0 : List Int) : Option (Bool) :=
  ((loopO (fun s => spec_l05Fates.s0 l0 s) 0).bind fun o => match o with | .out _ => (some true) | .ret r => (some r))
set_option maxRecDepth 100000 in
set_option maxHeartbeats 0 in
theorem spec_l05Fates_t (w0 : World) (A0_ : Option Addr) (p0_ : Nat) (l0 : List Int) (k0_ : Chunk) (v0_ : View (Lay.int .i64) A0_ p0_ l0 k0_) (w0_ : Has w0 k0_) (r : Bool) (H : spec_l05Fates.f l0 = some r) :
    Calls Try.prog 97 #[.slice A0_ l0.length p0_] w0 (Ret (fun v w => v = .bool r ∧ Sat [] w0 w [] [])) := by
  have hs : Sat [] w0 w0 [(1, k0_)] [] := Sat.init w0 [(1, k0_)] [] (by simp only [List.mem_cons, List.not_mem_nil, or_false]; rintro x (rfl) <;> assumption) (by simp) List.nodup_nil (by simp [blks])
  unfold spec_l05Fates.f at H
  refine enter Try.func97 rfl Try.ntmps97 rfl fun a hk => ?_
  apply wp_seq_k; intro K1 hK1
  apply wp_region_lit
  refine sa _ rfl hk rfl rfl rfl fun a hk => ?_
  show wpList _ _ _ [] _ _
  refine wpList_nil ?_
  refine hK1 _ _ ?_
  apply wp_seq_k; intro K2 hK2
  apply wp_seq_k; intro K3 hK3
  apply wp_region_lit
  refine sa _ rfl hk rfl rfl rfl fun a hk => ?_
  show wpList _ _ _ [] _ _
  refine wpList_nil ?_
  refine hK3 _ _ ?_
  obtain ⟨o7, h8, HL9⟩ := bind_some H
  clear H
  obtain ⟨R10, hR10⟩ : ∃ R : Act → World → Prop, R = fun a w => o7 = .out () ∧ Kn [] 16 a ∧ Sat [] w0 w [(1, k0_)] [] := ⟨_, rfl⟩
  refine wp_cutq R10 ?_ ?_
  ·refine wp_block ?_
   obtain ⟨fu12, h8⟩ := loopO_some h8
   obtain ⟨I11, hI11⟩ : ∃ I : Nat → Act → World → Prop, I = fun fu a w => ∃ (u6 : Int), loopN (fun s => spec_l05Fates.s0 l0 s) fu u6 = some o7 ∧ Kn [(0, (.slice A0_ l0.length p0_)), (3, (.int .i64 u6))] 16 a ∧ Sat [] w0 w [(1, k0_)] [] := ⟨_, rfl⟩
   refine wp_loop_ghost I11 fu12 ?_ ?_
   ·rw [hI11]
    exact ⟨0, h8, (hk.c 0 rfl (hk.c 3 rfl hk.k)), (hs.pick [] rfl)⟩
   ·clear h8 hk hs
    intro fu12 a w hI0
    rw [hI11] at hI0
    obtain ⟨u6, hi, hk, hs⟩ := hI0
    obtain ⟨x13, H, h14⟩ := loop_round hi
    try dsimp only at H
    unfold spec_l05Fates.s0 at H
    apply wp_seq_k; intro K15 hK15
    apply wp_seq_k; intro K16 hK16
    apply wp_region_lit
    refine sm _ rfl hk rfl rfl rfl fun a hk => ?_
    refine sm _ rfl hk rfl rfl rfl fun a hk => ?_
    refine sle rfl hk rfl rfl rfl un27 fun a hk => ?_
    refine sv (.bool (decide (u6 < (l0.length : Int)))) hk rfl rfl rfl fun a hk => ?_
    show wpList _ _ _ [] _ _
    refine wpList_nil ?_
    refine hK16 _ _ ?_
    rcases cond_some H with ⟨c17, H⟩ | ⟨c17, H⟩
    ·have hk := hk.lit 7 c17 rfl
     refine cnd_true hk rfl rfl ?_
     refine wp_skip ?_
     refine hK15 _ _ ?_
     have hs := hs.pick [] rfl
     apply wp_seq_k; intro K18 hK18
     refine wp_block ?_
     apply wp_seq_k; intro K19 hK19
     apply wp_region_lit
     refine sm _ rfl hk rfl rfl rfl fun a hk => ?_
     refine sm _ rfl hk rfl rfl rfl fun a hk => ?_
     rcases ite_some H with ⟨c20, H⟩ | ⟨_, H⟩
     rotate_left
     ·cases H
     obtain ⟨b21, q22, hAc20⟩ := (v0_).some_ u6 c20.1 c20.2
     refine si rfl hk rfl rfl rfl rfl un27 sz3 c20.1 c20.2 hAc20 fun a hk => ?_
     obtain ⟨_, rfl, e23⟩ := (v0_).at_ 0 u6 c20.1 c20.2
     refine sl (v := (.int .i64 (l0.getD u6.toNat 0))) rfl hk rfl rfl rfl ag3 ((e23 0 _ rfl).cell (hs.hasD (k := 1) rfl)) fun a hk => ?_
     obtain ⟨y24, h25, H⟩ := bind_some H
     refine sc rfl en104 hk rfl rfl rfl (spec_l01In_t _ (l0.getD u6.toNat 0) 0 2 _ h25) ?_
     rintro _ w ⟨rfl, hG⟩ a hk
     have hs := hs.call0 hG
     refine sv (.bool (!y24)) hk rfl rfl rfl fun a hk => ?_
     show wpList _ _ _ [] _ _
     refine wpList_nil ?_
     refine hK19 _ _ ?_
     rcases cond_some H with ⟨c26, H⟩ | ⟨c26, H⟩
     ·have hk := hk.lit 15 c26 rfl
      refine cnd_true hk rfl rfl ?_
      apply wp_seq_k; intro K27 hK27
      apply wp_region_lit
      refine sa _ rfl hk rfl rfl rfl fun a hk => ?_
      show wpList _ _ _ [] _ _
      refine wpList_nil ?_
      refine hK27 _ _ ?_
      refine wp_ret ?_
      obtain rfl := Option.some.inj H
      have ho7 := h14
      try dsimp only at ho7
      subst ho7
      have H := HL9
      try dsimp only at H
      obtain rfl := Option.some.inj H
      exact fin hk _ [(.bool false)] rfl ⟨rfl, trivial⟩ ⟨rfl, (hs.pick [] rfl).dnil⟩
     ·have hk := hk.lit 15 c26 rfl
      refine cnd_false hk rfl rfl ?_
      refine wp_skip ?_
      refine hK18 _ _ ?_
      apply wp_region_lit
      refine sm _ rfl hk rfl rfl rfl fun a hk => ?_
      refine sv (.int .i64 (w64 (u6 + 1))) hk rfl rfl rfl fun a hk => ?_
      refine sa _ rfl hk rfl rfl rfl fun a hk => ?_
      show wpList _ _ _ [] _ _
      refine wpList_nil ?_
      obtain rfl := Option.some.inj H
      obtain ⟨m28, hmm28, h14⟩ := h14
      show ∃ n', n' < _ ∧ I11 n' _ _
      refine ⟨m28, hmm28, ?_⟩
      rw [hI11]
      exact ⟨(w64 (u6 + 1)), h14, (hk.c 0 rfl (hk.c 3 rfl hk.k)), (hs.pick [] rfl)⟩
    ·have hk := hk.lit 7 c17 rfl
     refine cnd_false hk rfl rfl ?_
     refine wp_exit ?_
     obtain rfl := Option.some.inj H
     show R10 _ _
     rw [hR10]
     exact ⟨h14.symm, hk.k, (hs.pick [] rfl)⟩
  ·intro a w hR0
   rw [hR10] at hR0
   obtain ⟨rfl, hk, hs⟩ := hR0
   have H := HL9
   try dsimp only at H
   refine hK2 _ _ ?_
   apply wp_seq_k; intro K29 hK29
   apply wp_region_lit
   refine sa _ rfl hk rfl rfl rfl fun a hk => ?_
   show wpList _ _ _ [] _ _
   refine wpList_nil ?_
   refine hK29 _ _ ?_
   have hs := hs.pick [] rfl
   refine wp_ret ?_
   obtain rfl := Option.some.inj H
   exact fin hk _ [(.bool true)] rfl ⟨rfl, trivial⟩ ⟨rfl, (hs.pick [] rfl).dnil⟩

noncomputable def spec_l05Crash.s0 (x0 : S_Device) (l1 : List Int) (u21 : Int) (u22 : List ByteArray) : Option ((Int × (List ByteArray)) ⊕ Ex ((List ByteArray)) (S_Device)) :=
  (bif (decide (u21 < (x0.Unsure.length : Int))) then (((bif (decide ((l1.length : Int) > 0)) then (if (l1.length : Int) = 0 then none else (if 0 ≤ (Int.tmod u21 (l1.length : Int)) ∧ (Int.tmod u21 (l1.length : Int)) < (l1.length : Int) then (some (l1.getD (Int.tmod u21 (l1.length : Int)).toNat 0)) else none)) else (some 0)) : Option (Int)).bind fun u46 => (if 0 ≤ u21 ∧ u21 < (x0.Unsure.length : Int) then (if 0 ≤ ((x0.Unsure.getD u21.toNat z_Io).At) ∧ ((x0.Unsure.getD u21.toNat z_Io).At) < ((([] : List ByteArray) ++ x0.Sure).length : Int) then (((bif (u46 == 1) then (if 0 ≤ ((x0.Unsure.getD u21.toNat z_Io).At) ∧ ((x0.Unsure.getD u21.toNat z_Io).At) < ((([] : List ByteArray) ++ x0.Sure).length : Int) then (some (u22.set ((x0.Unsure.getD u21.toNat z_Io).At).toNat ((x0.Unsure.getD u21.toNat z_Io).Data))) else none) else (((bif (u46 == 2) then (if 0 ≤ (IntKind.wrap .i64 (Int.tdiv (((x0.Unsure.getD u21.toNat z_Io).Data).size : Int) 2)) ∧ (IntKind.wrap .i64 (Int.tdiv (((x0.Unsure.getD u21.toNat z_Io).Data).size : Int) 2)) ≤ (((x0.Unsure.getD u21.toNat z_Io).Data).size : Int) then (if 0 ≤ (if ((u22.getD ((x0.Unsure.getD u21.toNat z_Io).At).toNat ByteArray.empty).size : Int) < (IntKind.wrap .i64 (Int.tdiv (((x0.Unsure.getD u21.toNat z_Io).Data).size : Int) 2)) then ((u22.getD ((x0.Unsure.getD u21.toNat z_Io).At).toNat ByteArray.empty).size : Int) else (IntKind.wrap .i64 (Int.tdiv (((x0.Unsure.getD u21.toNat z_Io).Data).size : Int) 2))) ∧ (if ((u22.getD ((x0.Unsure.getD u21.toNat z_Io).At).toNat ByteArray.empty).size : Int) < (IntKind.wrap .i64 (Int.tdiv (((x0.Unsure.getD u21.toNat z_Io).Data).size : Int) 2)) then ((u22.getD ((x0.Unsure.getD u21.toNat z_Io).At).toNat ByteArray.empty).size : Int) else (IntKind.wrap .i64 (Int.tdiv (((x0.Unsure.getD u21.toNat z_Io).Data).size : Int) 2))) ≤ ((u22.getD ((x0.Unsure.getD u21.toNat z_Io).At).toNat ByteArray.empty).size : Int) then (if (((x0.Unsure.getD u21.toNat z_Io).Data).extract 0 (IntKind.wrap .i64 (Int.tdiv (((x0.Unsure.getD u21.toNat z_Io).Data).size : Int) 2)).toNat).size + ((u22.getD ((x0.Unsure.getD u21.toNat z_Io).At).toNat ByteArray.empty).extract (if ((u22.getD ((x0.Unsure.getD u21.toNat z_Io).At).toNat ByteArray.empty).size : Int) < (IntKind.wrap .i64 (Int.tdiv (((x0.Unsure.getD u21.toNat z_Io).Data).size : Int) 2)) then ((u22.getD ((x0.Unsure.getD u21.toNat z_Io).At).toNat ByteArray.empty).size : Int) else (IntKind.wrap .i64 (Int.tdiv (((x0.Unsure.getD u21.toNat z_Io).Data).size : Int) 2))).toNat (u22.getD ((x0.Unsure.getD u21.toNat z_Io).At).toNat ByteArray.empty).size).size ≤ 1152921504606846976 then (if 0 ≤ ((x0.Unsure.getD u21.toNat z_Io).At) ∧ ((x0.Unsure.getD u21.toNat z_Io).At) < ((([] : List ByteArray) ++ x0.Sure).length : Int) then (some (u22.set ((x0.Unsure.getD u21.toNat z_Io).At).toNat ((((x0.Unsure.getD u21.toNat z_Io).Data).extract 0 (IntKind.wrap .i64 (Int.tdiv (((x0.Unsure.getD u21.toNat z_Io).Data).size : Int) 2)).toNat) ++ ((u22.getD ((x0.Unsure.getD u21.toNat z_Io).At).toNat ByteArray.empty).extract (if ((u22.getD ((x0.Unsure.getD u21.toNat z_Io).At).toNat ByteArray.empty).size : Int) < (IntKind.wrap .i64 (Int.tdiv (((x0.Unsure.getD u21.toNat z_Io).Data).size : Int) 2)) then ((u22.getD ((x0.Unsure.getD u21.toNat z_Io).At).toNat ByteArray.empty).size : Int) else (IntKind.wrap .i64 (Int.tdiv (((x0.Unsure.getD u21.toNat z_Io).Data).size : Int) 2))).toNat (u22.getD ((x0.Unsure.getD u21.toNat z_Io).At).toNat ByteArray.empty).size)))) else none) else none) else none) else none) else (some u22)) : Option ((List ByteArray))).bind fun u89 => (some u89))) : Option ((List ByteArray))).bind fun u72 => (some (.inl ((w64 (u21 + 1)), u72)))) else none) else none)) else (some (.inr (.out u22))))
noncomputable def spec_l05Crash.f (x0 : S_Device) (l1 : List Int) : Option (S_Device) :=
  (if ([] : List ByteArray).length + x0.Sure.length ≤ 1073741824 then ((loopO (fun s => spec_l05Crash.s0 x0 l1 s.1 s.2) (0, (([] : List ByteArray) ++ x0.Sure))).bind fun o => match o with | .out u26 => (some (⟨u26, ([] : List S_Io)⟩ : S_Device)) | .ret r => (some r)) else none)
set_option maxRecDepth 100000 in
set_option maxHeartbeats 0 in
theorem spec_l05Crash_t (w0 : World) (x0 : S_Device) (A0_0 : Option Addr) (p0_0 : Nat) (k0_0 : Chunk) (v0_0 : View Lay.str A0_0 p0_0 x0.Sure k0_0) (w0_0 : Has w0 k0_0) (A0_1 : Option Addr) (p0_1 : Nat) (k0_1 : Chunk) (v0_1 : View L_Io A0_1 p0_1 x0.Unsure k0_1) (w0_1 : Has w0 k0_1) (A1_ : Option Addr) (p1_ : Nat) (l1 : List Int) (k1_ : Chunk) (v1_ : View (Lay.int .i64) A1_ p1_ l1 k1_) (w1_ : Has w0 k1_) (r : S_Device) (H : spec_l05Crash.f x0 l1 = some r) :
    Calls Try.prog 98 #[.agg #[.slice A0_0 x0.Sure.length p0_0, .slice A0_1 x0.Unsure.length p0_1], .slice A1_ l1.length p1_] w0 (Ret (fun v w => ∃ (A0 : Option Addr) (p0 : Nat) (k0 : Chunk), ∃ (A1 : Option Addr) (p1 : Nat) (k1 : Chunk), v = .agg #[.slice A0 r.Sure.length p0, .slice A1 r.Unsure.length p1] ∧ Own Lay.str 9 A0 p0 r.Sure k0 ∧ Own L_Io 129 A1 p1 r.Unsure k1 ∧ Sat [] w0 w [] [(0, k0), (1, k1)])) := by
  have hs : Sat [] w0 w0 [(1, k0_0), (2, k0_1), (3, k1_)] [] := Sat.init w0 [(1, k0_0), (2, k0_1), (3, k1_)] [] (by simp only [List.mem_cons, List.not_mem_nil, or_false]; rintro x (rfl | rfl | rfl) <;> assumption) (by simp) List.nodup_nil (by simp [blks])
  unfold spec_l05Crash.f at H
  refine enter Try.func98 rfl Try.ntmps98 rfl fun a hk => ?_
  apply wp_seq_k; intro K1 hK1
  apply wp_region_lit
  refine sbx 4 hs rfl hk rfl rfl rfl rfl fun b2 w a hk hs => ?_
  refine salx 5 hs rfl hk rfl rfl ze67 rfl fun b3 w a hk hs => ?_
  show wpList _ _ _ [] _ _
  refine wpList_nil ?_
  refine hK1 _ _ ?_
  apply wp_seq_k; intro K4 hK4
  apply wp_region_lit
  refine sbs0 6 Lay.str hs rfl hk rfl rfl un64 sz9 fun b5 k6 w a hk o7 hs => ?_
  refine sf ⟨b2, 0, none⟩ rfl hk rfl rfl rfl fd67_0 rfl fun a hk => ?_
  refine sl rfl hk rfl rfl rfl ag64 (box_cell hs (k := 4) rfl rfl) fun a hk => ?_
  rcases ite_some H with ⟨c8, H⟩ | ⟨_, H⟩
  rotate_left
  ·cases H
  refine sap 6 (xs := ([] : List ByteArray)) (ys := x0.Sure) (flat_flat : (Lay.str).Flat) hs rfl o7 v0_0 (hs.hasD (k := 1) rfl) rfl hk rfl rfl rfl rfl rfl rfl un64 mk9 rfl rfl rfl c8 fun A9 p10 k11 w a hk o12 hs => ?_
  refine sbs0 7 L_Io hs rfl hk rfl rfl un65 sz129 fun b13 k14 w a hk o15 hs => ?_
  refine sbd (pv := [(0, (.slice A9 (([] : List ByteArray) ++ x0.Sure).length p10)), (1, (.slice (some ⟨b13, 0, none⟩) 0 0))]) rfl hk rfl rfl rfl (bd67_2 A9 ((([] : List ByteArray) ++ x0.Sure).length) p10 (some ⟨b13, 0, none⟩) 0 0) fun a hk => ?_
  refine salx 8 hs rfl hk rfl rfl ze67 rfl fun b16 w a hk hs => ?_
  refine ssw 8 hs rfl rfl hk rfl rfl rfl rfl sz67 (by simp [Value.oneCell']) rfl fun w a hk hs => ?_
  show wpList _ _ _ [] _ _
  refine wpList_nil ?_
  refine hK4 _ _ ?_
  apply wp_seq_k; intro K17 hK17
  apply wp_seq_k; intro K18 hK18
  apply wp_region_lit
  refine sa _ rfl hk rfl rfl rfl fun a hk => ?_
  show wpList _ _ _ [] _ _
  refine wpList_nil ?_
  refine hK18 _ _ ?_
  obtain ⟨o30, h31, HL32⟩ := bind_some H
  clear H
  obtain ⟨R33, hR33⟩ : ∃ R : Act → World → Prop, R = fun a w => ∃ (u26 : List ByteArray) (k27 : Chunk), o30 = .out u26 ∧ Kn [(4, (.pointer (some ⟨b3, 0, none⟩))), (5, (.pointer (some ⟨b16, 0, none⟩)))] 78 a ∧ Sat [] w0 w [(1, k0_0), (2, k0_1), (3, k1_)] [(5, [(b3, .cells #[.slice none 0 0, .slice none 0 0] 67 (0, 0))]), (8, [(b16, .cells #[.slice A9 (([] : List ByteArray) ++ x0.Sure).length p10, .slice (some ⟨b13, 0, none⟩) 0 0] 67 (0, 0))]), (6, k27), (7, k14)] ∧ Own Lay.str 9 A9 p10 u26 k27 ∧ u26.length = (([] : List ByteArray) ++ x0.Sure).length := ⟨_, rfl⟩
  refine wp_cutq R33 ?_ ?_
  ·refine wp_block ?_
   obtain ⟨fu35, h31⟩ := loopO_some h31
   obtain ⟨I34, hI34⟩ : ∃ I : Nat → Act → World → Prop, I = fun fu a w => ∃ (u21 : Int) (u22 : List ByteArray) (k23 : Chunk), loopN (fun s => spec_l05Crash.s0 x0 l1 s.1 s.2) fu (u21, u22) = some o30 ∧ Kn [(1, (.slice A1_ l1.length p1_)), (2, (.pointer (some ⟨b2, 0, none⟩))), (4, (.pointer (some ⟨b3, 0, none⟩))), (5, (.pointer (some ⟨b16, 0, none⟩))), (6, (.int .i64 u21))] 78 a ∧ Sat [] w0 w [(1, k0_0), (2, k0_1), (3, k1_)] [(4, [(b2, .cells #[.slice A0_0 x0.Sure.length p0_0, .slice A0_1 x0.Unsure.length p0_1] 67 (0, 0))]), (5, [(b3, .cells #[.slice none 0 0, .slice none 0 0] 67 (0, 0))]), (8, [(b16, .cells #[.slice A9 (([] : List ByteArray) ++ x0.Sure).length p10, .slice (some ⟨b13, 0, none⟩) 0 0] 67 (0, 0))]), (6, k23), (7, k14)] ∧ Own Lay.str 9 A9 p10 u22 k23 ∧ u22.length = (([] : List ByteArray) ++ x0.Sure).length := ⟨_, rfl⟩
   refine wp_loop_ghost I34 fu35 ?_ ?_
   ·rw [hI34]
    exact ⟨0, (([] : List ByteArray) ++ x0.Sure), _, h31, (hk.c 1 rfl (hk.c 2 rfl (hk.c 4 rfl (hk.c 5 rfl (hk.c 6 rfl hk.k))))), (hs.pick [(4, 4), (5, 5), (8, 8), (6, 6), (7, 7)] rfl), o12, rfl⟩
   ·clear h31 hk hs
    intro fu35 a w hI0
    rw [hI34] at hI0
    obtain ⟨u21, u22, k23, hi, hk, hs, o24, lh25⟩ := hI0
    obtain ⟨x36, H, h37⟩ := loop_round hi
    try dsimp only at H
    unfold spec_l05Crash.s0 at H
    apply wp_seq_k; intro K38 hK38
    apply wp_seq_k; intro K39 hK39
    apply wp_region_lit
    refine sm _ rfl hk rfl rfl rfl fun a hk => ?_
    refine sf ⟨b2, 1, none⟩ rfl hk rfl rfl rfl fd67_1 rfl fun a hk => ?_
    refine sl rfl hk rfl rfl rfl ag65 (box_cell hs (k := 4) rfl rfl) fun a hk => ?_
    refine sle rfl hk rfl rfl rfl un65 fun a hk => ?_
    refine sv (.bool (decide (u21 < (x0.Unsure.length : Int)))) hk rfl rfl rfl fun a hk => ?_
    show wpList _ _ _ [] _ _
    refine wpList_nil ?_
    refine hK39 _ _ ?_
    have hs := hs.pick [(4, 4), (5, 5), (8, 8), (6, 6), (7, 7)] rfl
    rcases cond_some H with ⟨c40, H⟩ | ⟨c40, H⟩
    ·have hk := hk.lit 21 c40 rfl
     refine cnd_true hk rfl rfl ?_
     refine wp_skip ?_
     refine hK38 _ _ ?_
     apply wp_seq_k; intro K41 hK41
     refine wp_block ?_
     apply wp_seq_k; intro K42 hK42
     apply wp_region_lit
     refine sa _ rfl hk rfl rfl rfl fun a hk => ?_
     show wpList _ _ _ [] _ _
     refine wpList_nil ?_
     refine hK42 _ _ ?_
     apply wp_seq_k; intro K43 hK43
     apply wp_seq_k; intro K44 hK44
     apply wp_region_lit
     refine sm _ rfl hk rfl rfl rfl fun a hk => ?_
     refine sle rfl hk rfl rfl rfl un27 fun a hk => ?_
     refine sv (.bool (decide ((l1.length : Int) > 0))) hk rfl rfl rfl fun a hk => ?_
     show wpList _ _ _ [] _ _
     refine wpList_nil ?_
     refine hK44 _ _ ?_
     obtain ⟨o47, h48, HL49⟩ := bind_some H
     clear H
     obtain ⟨R50, hR50⟩ : ∃ R : Act → World → Prop, R = fun a w => ∃ (u46 : Int), u46 = o47 ∧ Kn [(1, (.slice A1_ l1.length p1_)), (2, (.pointer (some ⟨b2, 0, none⟩))), (4, (.pointer (some ⟨b3, 0, none⟩))), (5, (.pointer (some ⟨b16, 0, none⟩))), (6, (.int .i64 u21)), (7, (.int .i64 u46))] 78 a ∧ Sat [] w0 w [(1, k0_0), (2, k0_1), (3, k1_)] [(4, [(b2, .cells #[.slice A0_0 x0.Sure.length p0_0, .slice A0_1 x0.Unsure.length p0_1] 67 (0, 0))]), (5, [(b3, .cells #[.slice none 0 0, .slice none 0 0] 67 (0, 0))]), (8, [(b16, .cells #[.slice A9 (([] : List ByteArray) ++ x0.Sure).length p10, .slice (some ⟨b13, 0, none⟩) 0 0] 67 (0, 0))]), (6, k23), (7, k14)] := ⟨_, rfl⟩
     refine wp_cutq R50 ?_ ?_
     ·have H := h48
      rcases cond_some H with ⟨c51, H⟩ | ⟨c51, H⟩
      ·have hk := hk.lit 26 c51 rfl
       refine cnd_true hk rfl rfl ?_
       apply wp_region_lit
       refine sm _ rfl hk rfl rfl rfl fun a hk => ?_
       refine sm _ rfl hk rfl rfl rfl fun a hk => ?_
       refine sm _ rfl hk rfl rfl rfl fun a hk => ?_
       refine sle rfl hk rfl rfl rfl un27 fun a hk => ?_
       rcases ite_some H with ⟨_, H⟩ | ⟨c52, H⟩
       ·cases H
       refine srm rfl hk rfl rfl rfl rfl c52 fun a hk => ?_
       rcases ite_some H with ⟨c53, H⟩ | ⟨_, H⟩
       rotate_left
       ·cases H
       obtain ⟨b54, q55, hAc53⟩ := (v1_).some_ (Int.tmod u21 (l1.length : Int)) c53.1 c53.2
       refine si rfl hk rfl rfl rfl rfl un27 sz3 c53.1 c53.2 hAc53 fun a hk => ?_
       obtain ⟨_, rfl, e56⟩ := (v1_).at_ 0 (Int.tmod u21 (l1.length : Int)) c53.1 c53.2
       refine sl (v := (.int .i64 (l1.getD (Int.tmod u21 (l1.length : Int)).toNat 0))) rfl hk rfl rfl rfl ag3 ((e56 0 _ rfl).cell (hs.hasD (k := 3) rfl)) fun a hk => ?_
       refine sa _ rfl hk rfl rfl rfl fun a hk => ?_
       show wpList _ _ _ [] _ _
       refine wpList_nil ?_
       obtain rfl := Option.some.inj H
       show R50 _ _
       rw [hR50]
       exact ⟨(l1.getD (Int.tmod u21 (l1.length : Int)).toNat 0), rfl, (hk.c 1 rfl (hk.c 2 rfl (hk.c 4 rfl (hk.c 5 rfl (hk.c 6 rfl (hk.c 7 rfl hk.k)))))), (hs.pick [(4, 4), (5, 5), (8, 8), (6, 6), (7, 7)] rfl)⟩
      ·have hk := hk.lit 26 c51 rfl
       refine cnd_false hk rfl rfl ?_
       refine wp_skip ?_
       obtain rfl := Option.some.inj H
       show R50 _ _
       rw [hR50]
       exact ⟨0, rfl, (hk.c 1 rfl (hk.c 2 rfl (hk.c 4 rfl (hk.c 5 rfl (hk.c 6 rfl (hk.c 7 rfl hk.k)))))), (hs.pick [(4, 4), (5, 5), (8, 8), (6, 6), (7, 7)] rfl)⟩
     ·intro a w hR0
      rw [hR50] at hR0
      obtain ⟨u46, rfl, hk, hs⟩ := hR0
      have H := HL49
      try dsimp only at H
      refine hK43 _ _ ?_
      have hs := hs.pick [(4, 4), (5, 5), (8, 8), (6, 6), (7, 7)] rfl
      apply wp_seq_k; intro K57 hK57
      apply wp_region_lit
      refine sf ⟨b2, 1, none⟩ rfl hk rfl rfl rfl fd67_1 rfl fun a hk => ?_
      refine sl rfl hk rfl rfl rfl ag65 (box_cell hs (k := 4) rfl rfl) fun a hk => ?_
      refine sm _ rfl hk rfl rfl rfl fun a hk => ?_
      rcases ite_some H with ⟨c58, H⟩ | ⟨_, H⟩
      rotate_left
      ·cases H
      obtain ⟨b59, q60, hAc58⟩ := (v0_1).some_ u21 c58.1 c58.2
      refine si rfl hk rfl rfl rfl rfl un65 sz129 c58.1 c58.2 hAc58 fun a hk => ?_
      obtain ⟨_, rfl, e61⟩ := (v0_1).at_ z_Io u21 c58.1 c58.2
      refine sln [.int .i64 ((x0.Unsure.getD u21.toNat z_Io).At), .string ((x0.Unsure.getD u21.toNat z_Io).Data)] rfl hk rfl rfl rfl ag129 sz129 (cells_at e61 (hs.hasD (k := 2) rfl)) fun a hk => ?_
      refine salx 11 hs rfl hk rfl rfl ze129 rfl fun b62 w a hk hs => ?_
      refine ssw 11 hs rfl rfl hk rfl rfl rfl rfl sz129 (by simp [Value.oneCell']) rfl fun w a hk hs => ?_
      show wpList _ _ _ [] _ _
      refine wpList_nil ?_
      refine hK57 _ _ ?_
      apply wp_seq_k; intro K63 hK63
      apply wp_region_lit
      refine sf ⟨b16, 0, none⟩ rfl hk rfl rfl rfl fd67_0 rfl fun a hk => ?_
      refine sl rfl hk rfl rfl rfl ag64 (box_cell hs (k := 8) rfl rfl) fun a hk => ?_
      refine sf ⟨b62, 0, none⟩ rfl hk rfl rfl rfl fd129_0 rfl fun a hk => ?_
      refine sl rfl hk rfl rfl rfl ag3 (box_cell hs (k := 11) rfl rfl) fun a hk => ?_
      rcases ite_some H with ⟨c64, H⟩ | ⟨_, H⟩
      rotate_left
      ·cases H
      obtain ⟨b65, q66, hAc64⟩ := (o24.view).some_ ((x0.Unsure.getD u21.toNat z_Io).At) c64.1 (by rw [lh25]; exact c64.2)
      refine si rfl hk rfl rfl rfl rfl un64 sz9 c64.1 c64.2 hAc64 fun a hk => ?_
      obtain ⟨_, rfl, e67⟩ := (o24.view).at_ ByteArray.empty ((x0.Unsure.getD u21.toNat z_Io).At) c64.1 (by rw [lh25]; exact c64.2)
      refine sl (v := (.string (u22.getD ((x0.Unsure.getD u21.toNat z_Io).At).toNat ByteArray.empty))) rfl hk rfl rfl rfl ag9 ((e67 0 _ rfl).cell (hs.hasG (k := 6) rfl)) fun a hk => ?_
      refine sa _ rfl hk rfl rfl rfl fun a hk => ?_
      show wpList _ _ _ [] _ _
      refine wpList_nil ?_
      refine hK63 _ _ ?_
      apply wp_seq_k; intro K68 hK68
      apply wp_region_lit
      refine sf ⟨b62, 1, none⟩ rfl hk rfl rfl rfl fd129_1 rfl fun a hk => ?_
      refine sl rfl hk rfl rfl rfl ag9 (box_cell hs (k := 11) rfl rfl) fun a hk => ?_
      refine sles rfl hk rfl rfl rfl un9 fun a hk => ?_
      refine sv (.int .i64 (IntKind.wrap .i64 (Int.tdiv (((x0.Unsure.getD u21.toNat z_Io).Data).size : Int) 2))) hk rfl rfl rfl fun a hk => ?_
      refine sa _ rfl hk rfl rfl rfl fun a hk => ?_
      show wpList _ _ _ [] _ _
      refine wpList_nil ?_
      refine hK68 _ _ ?_
      apply wp_seq_k; intro K69 hK69
      apply wp_region_lit
      refine sm _ rfl hk rfl rfl rfl fun a hk => ?_
      show wpList _ _ _ [] _ _
      refine wpList_nil ?_
      refine hK69 _ _ ?_
      have hs := hs.pick [(4, 4), (5, 5), (8, 8), (6, 6), (7, 7), (11, 11)] rfl
      refine wp_block ?_
      apply wp_seq_k; intro K70 hK70
      apply wp_region_lit
      refine sv (.bool (u46 == 1)) hk rfl rfl rfl fun a hk => ?_
      refine sa _ rfl hk rfl rfl rfl fun a hk => ?_
      show wpList _ _ _ [] _ _
      refine wpList_nil ?_
      refine hK70 _ _ ?_
      obtain ⟨o76, h77, HL78⟩ := bind_some H
      clear H
      obtain ⟨R79, hR79⟩ : ∃ R : Act → World → Prop, R = fun a w => ∃ (u72 : List ByteArray) (k73 : Chunk), u72 = o76 ∧ Kn [(1, (.slice A1_ l1.length p1_)), (2, (.pointer (some ⟨b2, 0, none⟩))), (4, (.pointer (some ⟨b3, 0, none⟩))), (5, (.pointer (some ⟨b16, 0, none⟩))), (6, (.int .i64 u21))] 78 a ∧ Sat [] w0 w [(1, k0_0), (2, k0_1), (3, k1_)] [(4, [(b2, .cells #[.slice A0_0 x0.Sure.length p0_0, .slice A0_1 x0.Unsure.length p0_1] 67 (0, 0))]), (5, [(b3, .cells #[.slice none 0 0, .slice none 0 0] 67 (0, 0))]), (8, [(b16, .cells #[.slice A9 (([] : List ByteArray) ++ x0.Sure).length p10, .slice (some ⟨b13, 0, none⟩) 0 0] 67 (0, 0))]), (6, k73), (7, k14)] ∧ Own Lay.str 9 A9 p10 u72 k73 ∧ u72.length = (([] : List ByteArray) ++ x0.Sure).length := ⟨_, rfl⟩
      refine wp_cutq R79 ?_ ?_
      ·have H := h77
       rcases cond_some H with ⟨c80, H⟩ | ⟨c80, H⟩
       ·have hk := hk.lit 50 c80 rfl
        refine cnd_true hk rfl rfl ?_
        apply wp_region_lit
        refine sf ⟨b16, 0, none⟩ rfl hk rfl rfl rfl fd67_0 rfl fun a hk => ?_
        refine sl rfl hk rfl rfl rfl ag64 (box_cell hs (k := 8) rfl rfl) fun a hk => ?_
        refine sf ⟨b62, 0, none⟩ rfl hk rfl rfl rfl fd129_0 rfl fun a hk => ?_
        refine sl rfl hk rfl rfl rfl ag3 (box_cell hs (k := 11) rfl rfl) fun a hk => ?_
        refine sf ⟨b62, 1, none⟩ rfl hk rfl rfl rfl fd129_1 rfl fun a hk => ?_
        refine sl rfl hk rfl rfl rfl ag9 (box_cell hs (k := 11) rfl rfl) fun a hk => ?_
        rcases ite_some H with ⟨c81, H⟩ | ⟨_, H⟩
        rotate_left
        ·cases H
        obtain ⟨b82, q83, hAc81⟩ := (o24.view).some_ ((x0.Unsure.getD u21.toNat z_Io).At) c81.1 (by rw [lh25]; exact c81.2)
        refine si rfl hk rfl rfl rfl rfl un64 sz9 c81.1 c81.2 hAc81 fun a hk => ?_
        refine so (j := 0) 6 ByteArray.empty ((x0.Unsure.getD u21.toNat z_Io).Data) hs rfl o24 c81.1 (by rw [lh25]; exact c81.2) rfl hk rfl rfl rfl rfl rfl sz9 (by simp [Value.cells, Value.oneCell']) (Nat.le_of_ble_eq_true rfl) (fun _ _ h => ⟨by rw [h.1]; rfl, h.2⟩) fun k84 w a hk o85 hs => ?_
        have lh86 : (u22.set ((x0.Unsure.getD u21.toNat z_Io).At).toNat ((x0.Unsure.getD u21.toNat z_Io).Data)).length = (([] : List ByteArray) ++ x0.Sure).length := by rw [List.length_set]; exact lh25
        show wpList _ _ _ [] _ _
        refine wpList_nil ?_
        obtain rfl := Option.some.inj H
        show R79 _ _
        rw [hR79]
        exact ⟨(u22.set ((x0.Unsure.getD u21.toNat z_Io).At).toNat ((x0.Unsure.getD u21.toNat z_Io).Data)), _, rfl, (hk.c 1 rfl (hk.c 2 rfl (hk.c 4 rfl (hk.c 5 rfl (hk.c 6 rfl hk.k))))), (hs.pick [(4, 4), (5, 5), (8, 8), (6, 6), (7, 7)] rfl), o85, lh86⟩
       ·have hk := hk.lit 50 c80 rfl
        refine cnd_false hk rfl rfl ?_
        apply wp_seq_k; intro K87 hK87
        apply wp_region_lit
        refine sv (.bool (u46 == 2)) hk rfl rfl rfl fun a hk => ?_
        refine sa _ rfl hk rfl rfl rfl fun a hk => ?_
        show wpList _ _ _ [] _ _
        refine wpList_nil ?_
        refine hK87 _ _ ?_
        obtain ⟨o93, h94, HL95⟩ := bind_some H
        clear H
        obtain ⟨R96, hR96⟩ : ∃ R : Act → World → Prop, R = fun a w => ∃ (u89 : List ByteArray) (k90 : Chunk), u89 = o93 ∧ Kn [(1, (.slice A1_ l1.length p1_)), (2, (.pointer (some ⟨b2, 0, none⟩))), (4, (.pointer (some ⟨b3, 0, none⟩))), (5, (.pointer (some ⟨b16, 0, none⟩))), (6, (.int .i64 u21))] 78 a ∧ Sat [] w0 w [(1, k0_0), (2, k0_1), (3, k1_)] [(4, [(b2, .cells #[.slice A0_0 x0.Sure.length p0_0, .slice A0_1 x0.Unsure.length p0_1] 67 (0, 0))]), (5, [(b3, .cells #[.slice none 0 0, .slice none 0 0] 67 (0, 0))]), (8, [(b16, .cells #[.slice A9 (([] : List ByteArray) ++ x0.Sure).length p10, .slice (some ⟨b13, 0, none⟩) 0 0] 67 (0, 0))]), (6, k90), (7, k14)] ∧ Own Lay.str 9 A9 p10 u89 k90 ∧ u89.length = (([] : List ByteArray) ++ x0.Sure).length := ⟨_, rfl⟩
        refine wp_cutq R96 ?_ ?_
        ·have H := h94
         rcases cond_some H with ⟨c97, H⟩ | ⟨c97, H⟩
         ·have hk := hk.lit 59 c97 rfl
          refine cnd_true hk rfl rfl ?_
          refine wp_region_tree (.q 0 (.q 1 (.q 2 (.q 3 (.q 4 (.q 5 (.q 6 (.q 7 (.q 8 (.q 9 (.alt 10 (.alt 11 (.alt 12 (.alt 13 (.alt 14 (.alt 15 (.last 16) .stop) .stop) .stop) .stop) .stop) .stop))))))))))) mo (by kernel_rfl) (hs.pick [(4, 4), (5, 5), (8, 8), (6, 6), (7, 7), (11, 11)] rfl) fun _ => ?_
          have hs := hs.drew
          refine tqst (.pointer (some ⟨b16, 0, none⟩)) hk rfl rfl rfl rfl (fun w hs => sf ⟨b16, 0, none⟩ rfl hk rfl rfl rfl fd67_0 rfl fun a hk => qe hk) fun a hk => ?_
          refine tqst (.slice A9 (([] : List ByteArray) ++ x0.Sure).length p10) hk rfl rfl rfl rfl (fun w hs => sl rfl hk rfl rfl rfl ag64 (box_cell hs (k := 8) rfl rfl) fun a hk => qe hk) fun a hk => ?_
          refine tqst (.pointer (some ⟨b62, 0, none⟩)) hk rfl rfl rfl rfl (fun w hs => sf ⟨b62, 0, none⟩ rfl hk rfl rfl rfl fd129_0 rfl fun a hk => qe hk) fun a hk => ?_
          refine tqst (.int .i64 ((x0.Unsure.getD u21.toNat z_Io).At)) hk rfl rfl rfl rfl (fun w hs => sl rfl hk rfl rfl rfl ag3 (box_cell hs (k := 11) rfl rfl) fun a hk => qe hk) fun a hk => ?_
          refine tqst (.pointer (some ⟨b62, 1, none⟩)) hk rfl rfl rfl rfl (fun w hs => sf ⟨b62, 1, none⟩ rfl hk rfl rfl rfl fd129_1 rfl fun a hk => qe hk) fun a hk => ?_
          refine tqst (.string ((x0.Unsure.getD u21.toNat z_Io).Data)) hk rfl rfl rfl rfl (fun w hs => sl rfl hk rfl rfl rfl ag9 (box_cell hs (k := 11) rfl rfl) fun a hk => qe hk) fun a hk => ?_
          refine tqst (.int .i64 (IntKind.wrap .i64 (Int.tdiv (((x0.Unsure.getD u21.toNat z_Io).Data).size : Int) 2))) hk rfl rfl rfl rfl (fun w hs => sm _ rfl hk rfl rfl rfl fun a hk => qe hk) fun a hk => ?_
          rcases ite_some H with ⟨c99, H⟩ | ⟨_, H⟩
          rotate_left
          ·cases H
          refine tqst (.string (((x0.Unsure.getD u21.toNat z_Io).Data).extract 0 (IntKind.wrap .i64 (Int.tdiv (((x0.Unsure.getD u21.toNat z_Io).Data).size : Int) 2)).toNat)) hk rfl rfl rfl rfl (fun w hs => ssl_h rfl hk rfl rfl rfl rfl un9 c99.1 c99.2 fun a hk => qe hk) fun a hk => ?_
          refine tqst (.string (u22.getD ((x0.Unsure.getD u21.toNat z_Io).At).toNat ByteArray.empty)) hk rfl rfl rfl rfl (fun w hs => sm _ rfl hk rfl rfl rfl fun a hk => qe hk) fun a hk => ?_
          refine tqst (.int .i64 (IntKind.wrap .i64 (Int.tdiv (((x0.Unsure.getD u21.toNat z_Io).Data).size : Int) 2))) hk rfl rfl rfl rfl (fun w hs => sm _ rfl hk rfl rfl rfl fun a hk => qe hk) fun a hk => ?_
          refine tsst hk rfl rfl (fun K_r98_10 hK_r98_10 w hF => ?_) wt_stop
          have hs := hs.f hF
          refine sm _ rfl hk rfl rfl rfl fun a hk => ?_
          refine se (hs.pick [(4, 4), (5, 5), (8, 8), (6, 6), (7, 7), (11, 11)] rfl) hk (hK_r98_10 _ _ ?_)
          refine tsst hk rfl rfl (fun K_r98_11 hK_r98_11 w hF => ?_) wt_stop
          have hs := hs.f hF
          refine sles rfl hk rfl rfl rfl un9 fun a hk => ?_
          refine se (hs.pick [(4, 4), (5, 5), (8, 8), (6, 6), (7, 7), (11, 11)] rfl) hk (hK_r98_11 _ _ ?_)
          refine tsst hk rfl rfl (fun K_r98_12 hK_r98_12 w hF => ?_) wt_stop
          have hs := hs.f hF
          refine smn rfl hk rfl rfl rfl rfl fun a hk => ?_
          refine se (hs.pick [(4, 4), (5, 5), (8, 8), (6, 6), (7, 7), (11, 11)] rfl) hk (hK_r98_12 _ _ ?_)
          refine tsst hk rfl rfl (fun K_r98_13 hK_r98_13 w hF => ?_) wt_stop
          have hs := hs.f hF
          rcases ite_some H with ⟨c100, H⟩ | ⟨_, H⟩
          rotate_left
          ·cases H
          refine ssl_l rfl hk rfl rfl rfl rfl un9 c100.1 c100.2 fun a hk => ?_
          refine se (hs.pick [(4, 4), (5, 5), (8, 8), (6, 6), (7, 7), (11, 11)] rfl) hk (hK_r98_13 _ _ ?_)
          refine tsst hk rfl rfl (fun K_r98_14 hK_r98_14 w hF => ?_) wt_stop
          have hs := hs.f hF
          rcases ite_some H with ⟨c101, H⟩ | ⟨_, H⟩
          rotate_left
          ·cases H
          refine ssa rfl hk rfl rfl rfl rfl c101 fun a hk => ?_
          refine se (hs.pick [(4, 4), (5, 5), (8, 8), (6, 6), (7, 7), (11, 11)] rfl) hk (hK_r98_14 _ _ ?_)
          refine tsst hk rfl rfl (fun K_r98_15 hK_r98_15 w hF => ?_) wt_stop
          have hs := hs.f hF
          rcases ite_some H with ⟨c102, H⟩ | ⟨_, H⟩
          rotate_left
          ·cases H
          obtain ⟨b103, q104, hAc102⟩ := (o24.view).some_ ((x0.Unsure.getD u21.toNat z_Io).At) c102.1 (by rw [lh25]; exact c102.2)
          refine si rfl hk rfl rfl rfl rfl un64 sz9 c102.1 c102.2 hAc102 fun a hk => ?_
          refine se (hs.pick [(4, 4), (5, 5), (8, 8), (6, 6), (7, 7), (11, 11)] rfl) hk (hK_r98_15 _ _ ?_)
          refine tlst hk rfl rfl fun K_r98_16 hK_r98_16 w hF => ?_
          have hs := hs.f hF
          refine so (j := 0) 6 ByteArray.empty ((((x0.Unsure.getD u21.toNat z_Io).Data).extract 0 (IntKind.wrap .i64 (Int.tdiv (((x0.Unsure.getD u21.toNat z_Io).Data).size : Int) 2)).toNat) ++ ((u22.getD ((x0.Unsure.getD u21.toNat z_Io).At).toNat ByteArray.empty).extract (if ((u22.getD ((x0.Unsure.getD u21.toNat z_Io).At).toNat ByteArray.empty).size : Int) < (IntKind.wrap .i64 (Int.tdiv (((x0.Unsure.getD u21.toNat z_Io).Data).size : Int) 2)) then ((u22.getD ((x0.Unsure.getD u21.toNat z_Io).At).toNat ByteArray.empty).size : Int) else (IntKind.wrap .i64 (Int.tdiv (((x0.Unsure.getD u21.toNat z_Io).Data).size : Int) 2))).toNat (u22.getD ((x0.Unsure.getD u21.toNat z_Io).At).toNat ByteArray.empty).size)) hs rfl o24 c102.1 (by rw [lh25]; exact c102.2) rfl hk rfl rfl rfl rfl rfl sz9 (by simp [Value.cells, Value.oneCell']) (Nat.le_of_ble_eq_true rfl) (fun _ _ h => ⟨by rw [h.1]; rfl, h.2⟩) fun k105 w a hk o106 hs => ?_
          have lh107 : (u22.set ((x0.Unsure.getD u21.toNat z_Io).At).toNat ((((x0.Unsure.getD u21.toNat z_Io).Data).extract 0 (IntKind.wrap .i64 (Int.tdiv (((x0.Unsure.getD u21.toNat z_Io).Data).size : Int) 2)).toNat) ++ ((u22.getD ((x0.Unsure.getD u21.toNat z_Io).At).toNat ByteArray.empty).extract (if ((u22.getD ((x0.Unsure.getD u21.toNat z_Io).At).toNat ByteArray.empty).size : Int) < (IntKind.wrap .i64 (Int.tdiv (((x0.Unsure.getD u21.toNat z_Io).Data).size : Int) 2)) then ((u22.getD ((x0.Unsure.getD u21.toNat z_Io).At).toNat ByteArray.empty).size : Int) else (IntKind.wrap .i64 (Int.tdiv (((x0.Unsure.getD u21.toNat z_Io).Data).size : Int) 2))).toNat (u22.getD ((x0.Unsure.getD u21.toNat z_Io).At).toNat ByteArray.empty).size))).length = (([] : List ByteArray) ++ x0.Sure).length := by rw [List.length_set]; exact lh25
          refine se trivial hk (hK_r98_16 _ _ fun w hF => ?_)
          have hs := hs.f hF
          obtain rfl := Option.some.inj H
          show R96 _ _
          rw [hR96]
          exact ⟨(u22.set ((x0.Unsure.getD u21.toNat z_Io).At).toNat ((((x0.Unsure.getD u21.toNat z_Io).Data).extract 0 (IntKind.wrap .i64 (Int.tdiv (((x0.Unsure.getD u21.toNat z_Io).Data).size : Int) 2)).toNat) ++ ((u22.getD ((x0.Unsure.getD u21.toNat z_Io).At).toNat ByteArray.empty).extract (if ((u22.getD ((x0.Unsure.getD u21.toNat z_Io).At).toNat ByteArray.empty).size : Int) < (IntKind.wrap .i64 (Int.tdiv (((x0.Unsure.getD u21.toNat z_Io).Data).size : Int) 2)) then ((u22.getD ((x0.Unsure.getD u21.toNat z_Io).At).toNat ByteArray.empty).size : Int) else (IntKind.wrap .i64 (Int.tdiv (((x0.Unsure.getD u21.toNat z_Io).Data).size : Int) 2))).toNat (u22.getD ((x0.Unsure.getD u21.toNat z_Io).At).toNat ByteArray.empty).size))), _, rfl, (hk.c 1 rfl (hk.c 2 rfl (hk.c 4 rfl (hk.c 5 rfl (hk.c 6 rfl hk.k))))), (hs.pick [(4, 4), (5, 5), (8, 8), (6, 6), (7, 7)] rfl), o106, lh107⟩
         ·have hk := hk.lit 59 c97 rfl
          refine cnd_false hk rfl rfl ?_
          refine wp_skip ?_
          obtain rfl := Option.some.inj H
          show R96 _ _
          rw [hR96]
          exact ⟨u22, _, rfl, (hk.c 1 rfl (hk.c 2 rfl (hk.c 4 rfl (hk.c 5 rfl (hk.c 6 rfl hk.k))))), (hs.pick [(4, 4), (5, 5), (8, 8), (6, 6), (7, 7)] rfl), o24, lh25⟩
        ·intro a w hR0
         rw [hR96] at hR0
         obtain ⟨u89, k90, rfl, hk, hs, o91, lh92⟩ := hR0
         have H := HL95
         try dsimp only at H
         obtain rfl := Option.some.inj H
         show R79 _ _
         rw [hR79]
         exact ⟨u89, _, rfl, (hk.c 1 rfl (hk.c 2 rfl (hk.c 4 rfl (hk.c 5 rfl (hk.c 6 rfl hk.k))))), (hs.pick [(4, 4), (5, 5), (8, 8), (6, 6), (7, 7)] rfl), o91, lh92⟩
      ·intro a w hR0
       rw [hR79] at hR0
       obtain ⟨u72, k73, rfl, hk, hs, o74, lh75⟩ := hR0
       have H := HL78
       try dsimp only at H
       refine hK41 _ _ ?_
       apply wp_region_lit
       refine sm _ rfl hk rfl rfl rfl fun a hk => ?_
       refine sv (.int .i64 (w64 (u21 + 1))) hk rfl rfl rfl fun a hk => ?_
       refine sa _ rfl hk rfl rfl rfl fun a hk => ?_
       show wpList _ _ _ [] _ _
       refine wpList_nil ?_
       obtain rfl := Option.some.inj H
       obtain ⟨m108, hmm108, h37⟩ := h37
       show ∃ n', n' < _ ∧ I34 n' _ _
       refine ⟨m108, hmm108, ?_⟩
       rw [hI34]
       exact ⟨(w64 (u21 + 1)), u72, _, h37, (hk.c 1 rfl (hk.c 2 rfl (hk.c 4 rfl (hk.c 5 rfl (hk.c 6 rfl hk.k))))), (hs.pick [(4, 4), (5, 5), (8, 8), (6, 6), (7, 7)] rfl), o74, lh75⟩
    ·have hk := hk.lit 21 c40 rfl
     refine cnd_false hk rfl rfl ?_
     refine wp_exit ?_
     obtain rfl := Option.some.inj H
     show R33 _ _
     rw [hR33]
     exact ⟨u22, _, h37.symm, (hk.c 4 rfl (hk.c 5 rfl hk.k)), (hs.pick [(5, 5), (8, 8), (6, 6), (7, 7)] rfl), o24, lh25⟩
  ·intro a w hR0
   rw [hR33] at hR0
   obtain ⟨u26, k27, rfl, hk, hs, o28, lh29⟩ := hR0
   have H := HL32
   try dsimp only at H
   refine hK17 _ _ ?_
   have hs := hs.pick [(5, 5), (8, 8), (6, 6), (7, 7)] rfl
   apply wp_seq_k; intro K109 hK109
   apply wp_region_lit
   refine sln [.slice A9 (([] : List ByteArray) ++ x0.Sure).length p10, .slice (some ⟨b13, 0, none⟩) 0 0] rfl hk rfl rfl rfl ag67 sz67 (box_cells hs (k := 8) rfl) fun a hk => ?_
   refine ssw 5 hs rfl rfl hk rfl rfl rfl rfl sz67 (by simp [Value.oneCell']) rfl fun w a hk hs => ?_
   show wpList _ _ _ [] _ _
   refine wpList_nil ?_
   refine hK109 _ _ ?_
   refine wp_ret ?_
   obtain rfl := Option.some.inj H
   exact fin hk _ [(.agg #[.slice A9 (([] : List ByteArray) ++ x0.Sure).length p10, .slice (some ⟨b13, 0, none⟩) 0 0])] rfl ⟨⟨_, rfl, run_loadN ag67 sz67 (box_cells hs (k := 5) rfl)⟩, trivial⟩ ⟨A9, p10, _, (some ⟨b13, 0, none⟩), 0, _, (by first | (rw [lh29]; done) | (rw [lh29]; rfl)), o28, o15, (hs.pick [(0, 6), (1, 7)] rfl).dnil⟩

noncomputable def spec_CrashWith.f (x0 : S_Device) (l1 : List Int) : Option (S_Device × Int) :=
  (bif (decide ((l1.length : Int) > 4096)) then (some ((⟨([] : List ByteArray), ([] : List S_Io)⟩ : S_Device), 2)) else ((spec_DeviceOK.f x0).bind fun y10 => (bif (!y10) then (some ((⟨([] : List ByteArray), ([] : List S_Io)⟩ : S_Device), 1)) else ((spec_l05Fates.f l1).bind fun y16 => (bif (!y16) then (some ((⟨([] : List ByteArray), ([] : List S_Io)⟩ : S_Device), 4)) else ((spec_l05Crash.f x0 l1).bind fun y21 => (some (y21, 0))))))))
set_option maxRecDepth 100000 in
set_option maxHeartbeats 0 in
theorem spec_CrashWith_t (w0 : World) (x0 : S_Device) (A0_0 : Option Addr) (p0_0 : Nat) (k0_0 : Chunk) (v0_0 : View Lay.str A0_0 p0_0 x0.Sure k0_0) (w0_0 : Has w0 k0_0) (A0_1 : Option Addr) (p0_1 : Nat) (k0_1 : Chunk) (v0_1 : View L_Io A0_1 p0_1 x0.Unsure k0_1) (w0_1 : Has w0 k0_1) (A1_ : Option Addr) (p1_ : Nat) (l1 : List Int) (k1_ : Chunk) (v1_ : View (Lay.int .i64) A1_ p1_ l1 k1_) (w1_ : Has w0 k1_) (r : S_Device × Int) (H : spec_CrashWith.f x0 l1 = some r) :
    Calls Try.prog 44 #[.agg #[.slice A0_0 x0.Sure.length p0_0, .slice A0_1 x0.Unsure.length p0_1], .slice A1_ l1.length p1_] w0 (Ret (fun v w => ∃ (A0 : Option Addr) (p0 : Nat) (k0 : Chunk), ∃ (A1 : Option Addr) (p1 : Nat) (k1 : Chunk), v = .tuple #[.agg #[.slice A0 r.1.Sure.length p0, .slice A1 r.1.Unsure.length p1], .int .i64 r.2] ∧ Own Lay.str 9 A0 p0 r.1.Sure k0 ∧ Own L_Io 129 A1 p1 r.1.Unsure k1 ∧ Sat [] w0 w [] [(0, k0), (1, k1)])) := by
  have hs : Sat [] w0 w0 [(1, k0_0), (2, k0_1), (3, k1_)] [] := Sat.init w0 [(1, k0_0), (2, k0_1), (3, k1_)] [] (by simp only [List.mem_cons, List.not_mem_nil, or_false]; rintro x (rfl | rfl | rfl) <;> assumption) (by simp) List.nodup_nil (by simp [blks])
  unfold spec_CrashWith.f at H
  refine enter Try.func44 rfl Try.ntmps44 rfl fun a hk => ?_
  apply wp_seq_k; intro K1 hK1
  apply wp_region_lit
  refine sbx 4 hs rfl hk rfl rfl rfl rfl fun b2 w a hk hs => ?_
  refine salx 5 hs rfl hk rfl rfl ze67 rfl fun b3 w a hk hs => ?_
  refine sa _ rfl hk rfl rfl rfl fun a hk => ?_
  show wpList _ _ _ [] _ _
  refine wpList_nil ?_
  refine hK1 _ _ ?_
  apply wp_seq_k; intro K4 hK4
  apply wp_seq_k; intro K5 hK5
  apply wp_region_lit
  refine sm _ rfl hk rfl rfl rfl fun a hk => ?_
  refine sle rfl hk rfl rfl rfl un27 fun a hk => ?_
  refine sv (.bool (decide ((l1.length : Int) > 4096))) hk rfl rfl rfl fun a hk => ?_
  show wpList _ _ _ [] _ _
  refine wpList_nil ?_
  refine hK5 _ _ ?_
  rcases cond_some H with ⟨c6, H⟩ | ⟨c6, H⟩
  ·have hk := hk.lit 8 c6 rfl
   refine cnd_true hk rfl rfl ?_
   apply wp_seq_k; intro K7 hK7
   apply wp_region_lit
   refine sbd (pv := []) rfl hk rfl rfl rfl bd67_6 fun a hk => ?_
   refine ssw 5 hs rfl rfl hk rfl rfl rfl rfl sz67 (by simp [Value.oneCell']) rfl fun w a hk hs => ?_
   refine sa _ rfl hk rfl rfl rfl fun a hk => ?_
   show wpList _ _ _ [] _ _
   refine wpList_nil ?_
   refine hK7 _ _ ?_
   refine wp_ret ?_
   obtain rfl := Option.some.inj H
   have hs := hs.addNil 6
   have hs := hs.addNil 7
   exact fin hk _ [(.agg #[.slice none 0 0, .slice none 0 0]), (.int .i64 2)] rfl ⟨⟨_, rfl, run_loadN ag67 sz67 (box_cells hs (k := 5) rfl)⟩, ⟨rfl, trivial⟩⟩ ⟨none, 0, [], none, 0, [], rfl, Own.nil _ _, Own.nil _ _, (hs.pick [(0, 6), (1, 7)] rfl).dnil⟩
  ·have hk := hk.lit 8 c6 rfl
   refine cnd_false hk rfl rfl ?_
   refine wp_skip ?_
   refine hK4 _ _ ?_
   apply wp_seq_k; intro K8 hK8
   apply wp_seq_k; intro K9 hK9
   apply wp_region_lit
   refine sln [.slice A0_0 x0.Sure.length p0_0, .slice A0_1 x0.Unsure.length p0_1] rfl hk rfl rfl rfl ag67 sz67 (box_cells hs (k := 4) rfl) fun a hk => ?_
   obtain ⟨y10, h11, H⟩ := bind_some H
   refine sc rfl en96 hk rfl rfl rfl (spec_DeviceOK_t _ x0 A0_0 p0_0 _ v0_0 (hs.hasD (k := 1) rfl) A0_1 p0_1 _ v0_1 (hs.hasD (k := 2) rfl) _ h11) ?_
   rintro _ w ⟨rfl, hG⟩ a hk
   have hs := hs.call0 hG
   refine sv (.bool (!y10)) hk rfl rfl rfl fun a hk => ?_
   show wpList _ _ _ [] _ _
   refine wpList_nil ?_
   refine hK9 _ _ ?_
   have hs := hs.pick [(4, 4), (5, 5)] rfl
   rcases cond_some H with ⟨c12, H⟩ | ⟨c12, H⟩
   ·have hk := hk.lit 12 c12 rfl
    refine cnd_true hk rfl rfl ?_
    apply wp_seq_k; intro K13 hK13
    apply wp_region_lit
    refine sbd (pv := []) rfl hk rfl rfl rfl bd67_6 fun a hk => ?_
    refine ssw 5 hs rfl rfl hk rfl rfl rfl rfl sz67 (by simp [Value.oneCell']) rfl fun w a hk hs => ?_
    refine sa _ rfl hk rfl rfl rfl fun a hk => ?_
    show wpList _ _ _ [] _ _
    refine wpList_nil ?_
    refine hK13 _ _ ?_
    refine wp_ret ?_
    obtain rfl := Option.some.inj H
    have hs := hs.addNil 8
    have hs := hs.addNil 9
    exact fin hk _ [(.agg #[.slice none 0 0, .slice none 0 0]), (.int .i64 1)] rfl ⟨⟨_, rfl, run_loadN ag67 sz67 (box_cells hs (k := 5) rfl)⟩, ⟨rfl, trivial⟩⟩ ⟨none, 0, [], none, 0, [], rfl, Own.nil _ _, Own.nil _ _, (hs.pick [(0, 8), (1, 9)] rfl).dnil⟩
   ·have hk := hk.lit 12 c12 rfl
    refine cnd_false hk rfl rfl ?_
    refine wp_skip ?_
    refine hK8 _ _ ?_
    apply wp_seq_k; intro K14 hK14
    apply wp_seq_k; intro K15 hK15
    apply wp_region_lit
    refine sm _ rfl hk rfl rfl rfl fun a hk => ?_
    obtain ⟨y16, h17, H⟩ := bind_some H
    refine sc rfl en97 hk rfl rfl rfl (spec_l05Fates_t _ A1_ p1_ l1 _ v1_ (hs.hasD (k := 3) rfl) _ h17) ?_
    rintro _ w ⟨rfl, hG⟩ a hk
    have hs := hs.call0 hG
    refine sv (.bool (!y16)) hk rfl rfl rfl fun a hk => ?_
    show wpList _ _ _ [] _ _
    refine wpList_nil ?_
    refine hK15 _ _ ?_
    rcases cond_some H with ⟨c18, H⟩ | ⟨c18, H⟩
    ·have hk := hk.lit 16 c18 rfl
     refine cnd_true hk rfl rfl ?_
     apply wp_seq_k; intro K19 hK19
     apply wp_region_lit
     refine sbd (pv := []) rfl hk rfl rfl rfl bd67_6 fun a hk => ?_
     refine ssw 5 hs rfl rfl hk rfl rfl rfl rfl sz67 (by simp [Value.oneCell']) rfl fun w a hk hs => ?_
     refine sa _ rfl hk rfl rfl rfl fun a hk => ?_
     show wpList _ _ _ [] _ _
     refine wpList_nil ?_
     refine hK19 _ _ ?_
     refine wp_ret ?_
     obtain rfl := Option.some.inj H
     have hs := hs.addNil 10
     have hs := hs.addNil 11
     exact fin hk _ [(.agg #[.slice none 0 0, .slice none 0 0]), (.int .i64 4)] rfl ⟨⟨_, rfl, run_loadN ag67 sz67 (box_cells hs (k := 5) rfl)⟩, ⟨rfl, trivial⟩⟩ ⟨none, 0, [], none, 0, [], rfl, Own.nil _ _, Own.nil _ _, (hs.pick [(0, 10), (1, 11)] rfl).dnil⟩
    ·have hk := hk.lit 16 c18 rfl
     refine cnd_false hk rfl rfl ?_
     refine wp_skip ?_
     refine hK14 _ _ ?_
     apply wp_seq_k; intro K20 hK20
     apply wp_region_lit
     refine sln [.slice A0_0 x0.Sure.length p0_0, .slice A0_1 x0.Unsure.length p0_1] rfl hk rfl rfl rfl ag67 sz67 (box_cells hs (k := 4) rfl) fun a hk => ?_
     refine sm _ rfl hk rfl rfl rfl fun a hk => ?_
     obtain ⟨y21, h22, H⟩ := bind_some H
     refine sc rfl en98 hk rfl rfl rfl (spec_l05Crash_t _ x0 A0_0 p0_0 _ v0_0 (hs.hasD (k := 1) rfl) A0_1 p0_1 _ v0_1 (hs.hasD (k := 2) rfl) A1_ p1_ l1 _ v1_ (hs.hasD (k := 3) rfl) _ h22) ?_
     rintro _ w ⟨A23, p24, k25, A27, p28, k29, rfl, o26, o30, hG⟩ a hk
     have hs := hs.call0k hG [12, 13] rfl
     refine ssw 5 hs rfl rfl hk rfl rfl rfl rfl sz67 (by simp [Value.oneCell']) rfl fun w a hk hs => ?_
     refine sa _ rfl hk rfl rfl rfl fun a hk => ?_
     show wpList _ _ _ [] _ _
     refine wpList_nil ?_
     refine hK20 _ _ ?_
     have hs := hs.pick [(5, 5), (12, 12), (13, 13)] rfl
     refine wp_ret ?_
     obtain rfl := Option.some.inj H
     exact fin hk _ [(.agg #[.slice A23 y21.Sure.length p24, .slice A27 y21.Unsure.length p28]), (.int .i64 0)] rfl ⟨⟨_, rfl, run_loadN ag67 sz67 (box_cells hs (k := 5) rfl)⟩, ⟨rfl, trivial⟩⟩ ⟨A23, p24, _, A27, p28, _, rfl, o26, o30, (hs.pick [(0, 12), (1, 13)] rfl).dnil⟩

noncomputable def laws_sameTexts.s0 (l0 : List ByteArray) (l1 : List ByteArray) (u10 : Int) : Option ((Int) ⊕ Ex (Unit) (Bool)) :=
  (bif (decide (u10 < (l0.length : Int))) then (if 0 ≤ u10 ∧ u10 < (l0.length : Int) then (if 0 ≤ u10 ∧ u10 < (l1.length : Int) then (bif (!((l0.getD u10.toNat ByteArray.empty).toList == (l1.getD u10.toNat ByteArray.empty).toList)) then (some (.inr (.ret false))) else (some (.inl (w64 (u10 + 1))))) else none) else none) else (some (.inr (.out ()))))
noncomputable def laws_sameTexts.f (l0 : List ByteArray) (l1 : List ByteArray) : Option (Bool) :=
  (bif ((l0.length : Int) != (l1.length : Int)) then (some false) else ((loopO (fun s => laws_sameTexts.s0 l0 l1 s) 0).bind fun o => match o with | .out _ => (some true) | .ret r => (some r)))
set_option maxRecDepth 100000 in
set_option maxHeartbeats 0 in
theorem laws_sameTexts_t (w0 : World) (A0_ : Option Addr) (p0_ : Nat) (l0 : List ByteArray) (k0_ : Chunk) (v0_ : View Lay.str A0_ p0_ l0 k0_) (w0_ : Has w0 k0_) (A1_ : Option Addr) (p1_ : Nat) (l1 : List ByteArray) (k1_ : Chunk) (v1_ : View Lay.str A1_ p1_ l1 k1_) (w1_ : Has w0 k1_) (r : Bool) (H : laws_sameTexts.f l0 l1 = some r) :
    Calls Try.prog 45 #[.slice A0_ l0.length p0_, .slice A1_ l1.length p1_] w0 (Ret (fun v w => v = .bool r ∧ Sat [] w0 w [] [])) := by
  have hs : Sat [] w0 w0 [(1, k0_), (2, k1_)] [] := Sat.init w0 [(1, k0_), (2, k1_)] [] (by simp only [List.mem_cons, List.not_mem_nil, or_false]; rintro x (rfl | rfl) <;> assumption) (by simp) List.nodup_nil (by simp [blks])
  unfold laws_sameTexts.f at H
  refine enter Try.func45 rfl Try.ntmps45 rfl fun a hk => ?_
  apply wp_seq_k; intro K1 hK1
  apply wp_region_lit
  refine sa _ rfl hk rfl rfl rfl fun a hk => ?_
  show wpList _ _ _ [] _ _
  refine wpList_nil ?_
  refine hK1 _ _ ?_
  apply wp_seq_k; intro K2 hK2
  apply wp_seq_k; intro K3 hK3
  apply wp_region_lit
  refine sm _ rfl hk rfl rfl rfl fun a hk => ?_
  refine sle rfl hk rfl rfl rfl un64 fun a hk => ?_
  refine sm _ rfl hk rfl rfl rfl fun a hk => ?_
  refine sle rfl hk rfl rfl rfl un64 fun a hk => ?_
  refine sv (.bool ((l0.length : Int) != (l1.length : Int))) hk rfl rfl rfl fun a hk => ?_
  show wpList _ _ _ [] _ _
  refine wpList_nil ?_
  refine hK3 _ _ ?_
  rcases cond_some H with ⟨c4, H⟩ | ⟨c4, H⟩
  ·have hk := hk.lit 10 c4 rfl
   refine cnd_true hk rfl rfl ?_
   apply wp_seq_k; intro K5 hK5
   apply wp_region_lit
   refine sa _ rfl hk rfl rfl rfl fun a hk => ?_
   show wpList _ _ _ [] _ _
   refine wpList_nil ?_
   refine hK5 _ _ ?_
   refine wp_ret ?_
   obtain rfl := Option.some.inj H
   exact fin hk _ [(.bool false)] rfl ⟨rfl, trivial⟩ ⟨rfl, (hs.pick [] rfl).dnil⟩
  ·have hk := hk.lit 10 c4 rfl
   refine cnd_false hk rfl rfl ?_
   refine wp_skip ?_
   refine hK2 _ _ ?_
   apply wp_seq_k; intro K6 hK6
   apply wp_seq_k; intro K7 hK7
   apply wp_region_lit
   refine sa _ rfl hk rfl rfl rfl fun a hk => ?_
   show wpList _ _ _ [] _ _
   refine wpList_nil ?_
   refine hK7 _ _ ?_
   have hs := hs.pick [] rfl
   obtain ⟨o11, h12, HL13⟩ := bind_some H
   clear H
   obtain ⟨R14, hR14⟩ : ∃ R : Act → World → Prop, R = fun a w => o11 = .out () ∧ Kn [] 26 a ∧ Sat [] w0 w [(1, k0_), (2, k1_)] [] := ⟨_, rfl⟩
   refine wp_cutq R14 ?_ ?_
   ·refine wp_block ?_
    obtain ⟨fu16, h12⟩ := loopO_some h12
    obtain ⟨I15, hI15⟩ : ∃ I : Nat → Act → World → Prop, I = fun fu a w => ∃ (u10 : Int), loopN (fun s => laws_sameTexts.s0 l0 l1 s) fu u10 = some o11 ∧ Kn [(0, (.slice A0_ l0.length p0_)), (1, (.slice A1_ l1.length p1_)), (5, (.int .i64 u10))] 26 a ∧ Sat [] w0 w [(1, k0_), (2, k1_)] [] := ⟨_, rfl⟩
    refine wp_loop_ghost I15 fu16 ?_ ?_
    ·rw [hI15]
     exact ⟨0, h12, (hk.c 0 rfl (hk.c 1 rfl (hk.c 5 rfl hk.k))), (hs.pick [] rfl)⟩
    ·clear h12 hk hs
     intro fu16 a w hI0
     rw [hI15] at hI0
     obtain ⟨u10, hi, hk, hs⟩ := hI0
     obtain ⟨x17, H, h18⟩ := loop_round hi
     try dsimp only at H
     unfold laws_sameTexts.s0 at H
     apply wp_seq_k; intro K19 hK19
     apply wp_seq_k; intro K20 hK20
     apply wp_region_lit
     refine sm _ rfl hk rfl rfl rfl fun a hk => ?_
     refine sm _ rfl hk rfl rfl rfl fun a hk => ?_
     refine sle rfl hk rfl rfl rfl un64 fun a hk => ?_
     refine sv (.bool (decide (u10 < (l0.length : Int)))) hk rfl rfl rfl fun a hk => ?_
     show wpList _ _ _ [] _ _
     refine wpList_nil ?_
     refine hK20 _ _ ?_
     rcases cond_some H with ⟨c21, H⟩ | ⟨c21, H⟩
     ·have hk := hk.lit 14 c21 rfl
      refine cnd_true hk rfl rfl ?_
      refine wp_skip ?_
      refine hK19 _ _ ?_
      apply wp_seq_k; intro K22 hK22
      refine wp_block ?_
      apply wp_seq_k; intro K23 hK23
      refine wp_region_tree (.q 0 (.q 1 (.q 2 (.q 3 (.q 4 (.alt 5 (.alt 6 (.alt 7 (.alt 8 .done .stop) .stop) .stop) .stop)))))) mo (by kernel_rfl) (hs.pick [] rfl) fun _ => ?_
      have hs := hs.drew
      refine tqst (.slice A0_ l0.length p0_) hk rfl rfl rfl rfl (fun w hs => sm _ rfl hk rfl rfl rfl fun a hk => qe hk) fun a hk => ?_
      refine tqst (.int .i64 u10) hk rfl rfl rfl rfl (fun w hs => sm _ rfl hk rfl rfl rfl fun a hk => qe hk) fun a hk => ?_
      rcases ite_some H with ⟨c25, H⟩ | ⟨_, H⟩
      rotate_left
      ·cases H
      obtain ⟨b26, q27, hAc25⟩ := (v0_).some_ u10 c25.1 c25.2
      refine tqst (.pointer (some (padd A0_ (u10.toNat * 1)))) hk rfl rfl rfl rfl (fun w hs => si rfl hk rfl rfl rfl rfl un64 sz9 c25.1 c25.2 hAc25 fun a hk => qe hk) fun a hk => ?_
      obtain ⟨_, rfl, e28⟩ := (v0_).at_ ByteArray.empty u10 c25.1 c25.2
      refine tqst (.string (l0.getD u10.toNat ByteArray.empty)) hk rfl rfl rfl rfl (fun w hs => sl (v := (.string (l0.getD u10.toNat ByteArray.empty))) rfl hk rfl rfl rfl ag9 ((e28 0 _ rfl).cell (hs.hasD (k := 1) rfl)) fun a hk => qe hk) fun a hk => ?_
      refine tqst (.slice A1_ l1.length p1_) hk rfl rfl rfl rfl (fun w hs => sm _ rfl hk rfl rfl rfl fun a hk => qe hk) fun a hk => ?_
      refine tsst hk rfl rfl (fun K_r24_5 hK_r24_5 w hF => ?_) wt_stop
      have hs := hs.f hF
      refine sm _ rfl hk rfl rfl rfl fun a hk => ?_
      refine se (hs.pick [] rfl) hk (hK_r24_5 _ _ ?_)
      refine tsst hk rfl rfl (fun K_r24_6 hK_r24_6 w hF => ?_) wt_stop
      have hs := hs.f hF
      rcases ite_some H with ⟨c29, H⟩ | ⟨_, H⟩
      rotate_left
      ·cases H
      obtain ⟨b30, q31, hAc29⟩ := (v1_).some_ u10 c29.1 c29.2
      refine si rfl hk rfl rfl rfl rfl un64 sz9 c29.1 c29.2 hAc29 fun a hk => ?_
      refine se (hs.pick [] rfl) hk (hK_r24_6 _ _ ?_)
      refine tsst hk rfl rfl (fun K_r24_7 hK_r24_7 w hF => ?_) wt_stop
      have hs := hs.f hF
      obtain ⟨_, rfl, e32⟩ := (v1_).at_ ByteArray.empty u10 c29.1 c29.2
      refine sl (v := (.string (l1.getD u10.toNat ByteArray.empty))) rfl hk rfl rfl rfl ag9 ((e32 0 _ rfl).cell (hs.hasD (k := 2) rfl)) fun a hk => ?_
      refine se (hs.pick [] rfl) hk (hK_r24_7 _ _ ?_)
      refine tsst hk rfl rfl (fun K_r24_8 hK_r24_8 w hF => ?_) wt_stop
      have hs := hs.f hF
      refine sv (.bool (!((l0.getD u10.toNat ByteArray.empty).toList == (l1.getD u10.toNat ByteArray.empty).toList))) hk rfl rfl rfl fun a hk => ?_
      refine se (hs.pick [] rfl) hk (hK_r24_8 _ _ ?_)
      refine wtl_nil fun w hF _ => ?_
      have hs := hs.f hF
      refine hK23 _ _ ?_
      rcases cond_some H with ⟨c33, H⟩ | ⟨c33, H⟩
      ·have hk := hk.lit 25 c33 rfl
       refine cnd_true hk rfl rfl ?_
       apply wp_seq_k; intro K34 hK34
       apply wp_region_lit
       refine sa _ rfl hk rfl rfl rfl fun a hk => ?_
       show wpList _ _ _ [] _ _
       refine wpList_nil ?_
       refine hK34 _ _ ?_
       have hs := hs.pick [] rfl
       refine wp_ret ?_
       obtain rfl := Option.some.inj H
       have ho11 := h18
       try dsimp only at ho11
       subst ho11
       have H := HL13
       try dsimp only at H
       obtain rfl := Option.some.inj H
       exact fin hk _ [(.bool false)] rfl ⟨rfl, trivial⟩ ⟨rfl, (hs.pick [] rfl).dnil⟩
      ·have hk := hk.lit 25 c33 rfl
       refine cnd_false hk rfl rfl ?_
       refine wp_skip ?_
       refine hK22 _ _ ?_
       have hs := hs.pick [] rfl
       apply wp_region_lit
       refine sm _ rfl hk rfl rfl rfl fun a hk => ?_
       refine sv (.int .i64 (w64 (u10 + 1))) hk rfl rfl rfl fun a hk => ?_
       refine sa _ rfl hk rfl rfl rfl fun a hk => ?_
       show wpList _ _ _ [] _ _
       refine wpList_nil ?_
       obtain rfl := Option.some.inj H
       obtain ⟨m35, hmm35, h18⟩ := h18
       show ∃ n', n' < _ ∧ I15 n' _ _
       refine ⟨m35, hmm35, ?_⟩
       rw [hI15]
       exact ⟨(w64 (u10 + 1)), h18, (hk.c 0 rfl (hk.c 1 rfl (hk.c 5 rfl hk.k))), (hs.pick [] rfl)⟩
     ·have hk := hk.lit 14 c21 rfl
      refine cnd_false hk rfl rfl ?_
      refine wp_exit ?_
      obtain rfl := Option.some.inj H
      show R14 _ _
      rw [hR14]
      exact ⟨h18.symm, hk.k, (hs.pick [] rfl)⟩
   ·intro a w hR0
    rw [hR14] at hR0
    obtain ⟨rfl, hk, hs⟩ := hR0
    have H := HL13
    try dsimp only at H
    refine hK6 _ _ ?_
    apply wp_seq_k; intro K36 hK36
    apply wp_region_lit
    refine sa _ rfl hk rfl rfl rfl fun a hk => ?_
    show wpList _ _ _ [] _ _
    refine wpList_nil ?_
    refine hK36 _ _ ?_
    refine wp_ret ?_
    obtain rfl := Option.some.inj H
    exact fin hk _ [(.bool true)] rfl ⟨rfl, trivial⟩ ⟨rfl, (hs.pick [] rfl).dnil⟩

noncomputable def laws_sameDevice.s0 (x0 : S_Device) (x1 : S_Device) (u21 : Int) : Option ((Int) ⊕ Ex (Unit) (Bool)) :=
  (bif (decide (u21 < (x0.Unsure.length : Int))) then (if 0 ≤ u21 ∧ u21 < (x0.Unsure.length : Int) then (if 0 ≤ u21 ∧ u21 < (x1.Unsure.length : Int) then (bif (!((((x0.Unsure.getD u21.toNat z_Io).At) == ((x1.Unsure.getD u21.toNat z_Io).At)) && ((((x0.Unsure.getD u21.toNat z_Io).Data).toList == ((x1.Unsure.getD u21.toNat z_Io).Data).toList) && true))) then (some (.inr (.ret false))) else (some (.inl (w64 (u21 + 1))))) else none) else none) else (some (.inr (.out ()))))
noncomputable def laws_sameDevice.f (x0 : S_Device) (x1 : S_Device) : Option (Bool) :=
  ((((laws_sameTexts.f x0.Sure x1.Sure).bind fun y12 => (bif (!y12) then (some true) else (some ((x0.Unsure.length : Int) != (x1.Unsure.length : Int))))) : Option (Bool)).bind fun u7 => (bif u7 then (some false) else ((loopO (fun s => laws_sameDevice.s0 x0 x1 s) 0).bind fun o => match o with | .out _ => (some true) | .ret r => (some r))))
set_option maxRecDepth 100000 in
set_option maxHeartbeats 0 in
theorem laws_sameDevice_t (w0 : World) (x0 : S_Device) (A0_0 : Option Addr) (p0_0 : Nat) (k0_0 : Chunk) (v0_0 : View Lay.str A0_0 p0_0 x0.Sure k0_0) (w0_0 : Has w0 k0_0) (A0_1 : Option Addr) (p0_1 : Nat) (k0_1 : Chunk) (v0_1 : View L_Io A0_1 p0_1 x0.Unsure k0_1) (w0_1 : Has w0 k0_1) (x1 : S_Device) (A1_0 : Option Addr) (p1_0 : Nat) (k1_0 : Chunk) (v1_0 : View Lay.str A1_0 p1_0 x1.Sure k1_0) (w1_0 : Has w0 k1_0) (A1_1 : Option Addr) (p1_1 : Nat) (k1_1 : Chunk) (v1_1 : View L_Io A1_1 p1_1 x1.Unsure k1_1) (w1_1 : Has w0 k1_1) (r : Bool) (H : laws_sameDevice.f x0 x1 = some r) :
    Calls Try.prog 46 #[.agg #[.slice A0_0 x0.Sure.length p0_0, .slice A0_1 x0.Unsure.length p0_1], .agg #[.slice A1_0 x1.Sure.length p1_0, .slice A1_1 x1.Unsure.length p1_1]] w0 (Ret (fun v w => v = .bool r ∧ Sat [] w0 w [] [])) := by
  have hs : Sat [] w0 w0 [(1, k0_0), (2, k0_1), (3, k1_0), (4, k1_1)] [] := Sat.init w0 [(1, k0_0), (2, k0_1), (3, k1_0), (4, k1_1)] [] (by simp only [List.mem_cons, List.not_mem_nil, or_false]; rintro x (rfl | rfl | rfl | rfl) <;> assumption) (by simp) List.nodup_nil (by simp [blks])
  unfold laws_sameDevice.f at H
  refine enter Try.func46 rfl Try.ntmps46 rfl fun a hk => ?_
  apply wp_seq_k; intro K1 hK1
  apply wp_region_lit
  refine sbx 5 hs rfl hk rfl rfl rfl rfl fun b2 w a hk hs => ?_
  refine sbx 6 hs rfl hk rfl rfl rfl rfl fun b3 w a hk hs => ?_
  refine sa _ rfl hk rfl rfl rfl fun a hk => ?_
  show wpList _ _ _ [] _ _
  refine wpList_nil ?_
  refine hK1 _ _ ?_
  apply wp_seq_k; intro K4 hK4
  apply wp_seq_k; intro K5 hK5
  obtain ⟨o8, h9, HL10⟩ := bind_some H
  clear H
  obtain ⟨R11, hR11⟩ : ∃ R : Act → World → Prop, R = fun a w => ∃ (u7 : Bool), u7 = o8 ∧ Kn [(2, (.pointer (some ⟨b2, 0, none⟩))), (3, (.pointer (some ⟨b3, 0, none⟩))), (20, (.bool u7))] 39 a ∧ Sat [] w0 w [(1, k0_0), (2, k0_1), (3, k1_0), (4, k1_1)] [(5, [(b2, .cells #[.slice A0_0 x0.Sure.length p0_0, .slice A0_1 x0.Unsure.length p0_1] 67 (0, 0))]), (6, [(b3, .cells #[.slice A1_0 x1.Sure.length p1_0, .slice A1_1 x1.Unsure.length p1_1] 67 (0, 0))])] := ⟨_, rfl⟩
  refine wp_cutq R11 ?_ ?_
  ·have H := h9
   apply wp_region_lit
   refine sf ⟨b2, 0, none⟩ rfl hk rfl rfl rfl fd67_0 rfl fun a hk => ?_
   refine sl rfl hk rfl rfl rfl ag64 (box_cell hs (k := 5) rfl rfl) fun a hk => ?_
   refine sf ⟨b3, 0, none⟩ rfl hk rfl rfl rfl fd67_0 rfl fun a hk => ?_
   refine sl rfl hk rfl rfl rfl ag64 (box_cell hs (k := 6) rfl rfl) fun a hk => ?_
   obtain ⟨y12, h13, H⟩ := bind_some H
   refine sc rfl en45 hk rfl rfl rfl (laws_sameTexts_t _ A0_0 p0_0 x0.Sure _ v0_0 (hs.hasD (k := 1) rfl) A1_0 p1_0 x1.Sure _ v1_0 (hs.hasD (k := 3) rfl) _ h13) ?_
   rintro _ w ⟨rfl, hG⟩ a hk
   have hs := hs.call0 hG
   refine sv (.bool (!y12)) hk rfl rfl rfl fun a hk => ?_
   refine sm _ rfl hk rfl rfl rfl fun a hk => ?_
   rcases cond_some H with ⟨c14, H⟩ | ⟨c14, H⟩
   ·have hk := hk.lit 12 c14 rfl
    refine sk hk rfl rfl rfl fun a hk => ?_
    refine sk hk rfl rfl rfl fun a hk => ?_
    refine sk hk rfl rfl rfl fun a hk => ?_
    refine sk hk rfl rfl rfl fun a hk => ?_
    refine sk hk rfl rfl rfl fun a hk => ?_
    refine sk hk rfl rfl rfl fun a hk => ?_
    refine sk hk rfl rfl rfl fun a hk => ?_
    refine sv (.bool true) hk rfl rfl rfl fun a hk => ?_
    show wpList _ _ _ [] _ _
    refine wpList_nil ?_
    obtain rfl := Option.some.inj H
    show R11 _ _
    rw [hR11]
    exact ⟨true, rfl, (hk.c 2 rfl (hk.c 3 rfl (hk.c 20 rfl hk.k))), (hs.pick [(5, 5), (6, 6)] rfl)⟩
   ·have hk := hk.lit 12 c14 rfl
    refine sf ⟨b2, 1, none⟩ rfl hk rfl rfl rfl fd67_1 rfl fun a hk => ?_
    refine sl rfl hk rfl rfl rfl ag65 (box_cell hs (k := 5) rfl rfl) fun a hk => ?_
    refine sle rfl hk rfl rfl rfl un65 fun a hk => ?_
    refine sf ⟨b3, 1, none⟩ rfl hk rfl rfl rfl fd67_1 rfl fun a hk => ?_
    refine sl rfl hk rfl rfl rfl ag65 (box_cell hs (k := 6) rfl rfl) fun a hk => ?_
    refine sle rfl hk rfl rfl rfl un65 fun a hk => ?_
    refine sv (.bool ((x0.Unsure.length : Int) != (x1.Unsure.length : Int))) hk rfl rfl rfl fun a hk => ?_
    refine sv (.bool ((x0.Unsure.length : Int) != (x1.Unsure.length : Int))) hk rfl rfl rfl fun a hk => ?_
    show wpList _ _ _ [] _ _
    refine wpList_nil ?_
    obtain rfl := Option.some.inj H
    show R11 _ _
    rw [hR11]
    exact ⟨((x0.Unsure.length : Int) != (x1.Unsure.length : Int)), rfl, (hk.c 2 rfl (hk.c 3 rfl (hk.c 20 rfl hk.k))), (hs.pick [(5, 5), (6, 6)] rfl)⟩
  ·intro a w hR0
   rw [hR11] at hR0
   obtain ⟨u7, rfl, hk, hs⟩ := hR0
   have H := HL10
   try dsimp only at H
   refine hK5 _ _ ?_
   rcases cond_some H with ⟨c15, H⟩ | ⟨c15, H⟩
   ·have hk := hk.lit 20 c15 rfl
    refine cnd_true hk rfl rfl ?_
    apply wp_seq_k; intro K16 hK16
    apply wp_region_lit
    refine sa _ rfl hk rfl rfl rfl fun a hk => ?_
    show wpList _ _ _ [] _ _
    refine wpList_nil ?_
    refine hK16 _ _ ?_
    refine wp_ret ?_
    obtain rfl := Option.some.inj H
    exact fin hk _ [(.bool false)] rfl ⟨rfl, trivial⟩ ⟨rfl, (hs.pick [] rfl).dnil⟩
   ·have hk := hk.lit 20 c15 rfl
    refine cnd_false hk rfl rfl ?_
    refine wp_skip ?_
    refine hK4 _ _ ?_
    apply wp_seq_k; intro K17 hK17
    apply wp_seq_k; intro K18 hK18
    apply wp_region_lit
    refine sa _ rfl hk rfl rfl rfl fun a hk => ?_
    show wpList _ _ _ [] _ _
    refine wpList_nil ?_
    refine hK18 _ _ ?_
    have hs := hs.pick [(5, 5), (6, 6)] rfl
    obtain ⟨o22, h23, HL24⟩ := bind_some H
    clear H
    obtain ⟨R25, hR25⟩ : ∃ R : Act → World → Prop, R = fun a w => o22 = .out () ∧ Kn [] 39 a ∧ Sat [] w0 w [(1, k0_0), (2, k0_1), (3, k1_0), (4, k1_1)] [] := ⟨_, rfl⟩
    refine wp_cutq R25 ?_ ?_
    ·refine wp_block ?_
     obtain ⟨fu27, h23⟩ := loopO_some h23
     obtain ⟨I26, hI26⟩ : ∃ I : Nat → Act → World → Prop, I = fun fu a w => ∃ (u21 : Int), loopN (fun s => laws_sameDevice.s0 x0 x1 s) fu u21 = some o22 ∧ Kn [(2, (.pointer (some ⟨b2, 0, none⟩))), (3, (.pointer (some ⟨b3, 0, none⟩))), (5, (.int .i64 u21))] 39 a ∧ Sat [] w0 w [(1, k0_0), (2, k0_1), (3, k1_0), (4, k1_1)] [(5, [(b2, .cells #[.slice A0_0 x0.Sure.length p0_0, .slice A0_1 x0.Unsure.length p0_1] 67 (0, 0))]), (6, [(b3, .cells #[.slice A1_0 x1.Sure.length p1_0, .slice A1_1 x1.Unsure.length p1_1] 67 (0, 0))])] := ⟨_, rfl⟩
     refine wp_loop_ghost I26 fu27 ?_ ?_
     ·rw [hI26]
      exact ⟨0, h23, (hk.c 2 rfl (hk.c 3 rfl (hk.c 5 rfl hk.k))), (hs.pick [(5, 5), (6, 6)] rfl)⟩
     ·clear h23 hk hs
      intro fu27 a w hI0
      rw [hI26] at hI0
      obtain ⟨u21, hi, hk, hs⟩ := hI0
      obtain ⟨x28, H, h29⟩ := loop_round hi
      try dsimp only at H
      unfold laws_sameDevice.s0 at H
      apply wp_seq_k; intro K30 hK30
      apply wp_seq_k; intro K31 hK31
      apply wp_region_lit
      refine sm _ rfl hk rfl rfl rfl fun a hk => ?_
      refine sf ⟨b2, 1, none⟩ rfl hk rfl rfl rfl fd67_1 rfl fun a hk => ?_
      refine sl rfl hk rfl rfl rfl ag65 (box_cell hs (k := 5) rfl rfl) fun a hk => ?_
      refine sle rfl hk rfl rfl rfl un65 fun a hk => ?_
      refine sv (.bool (decide (u21 < (x0.Unsure.length : Int)))) hk rfl rfl rfl fun a hk => ?_
      show wpList _ _ _ [] _ _
      refine wpList_nil ?_
      refine hK31 _ _ ?_
      rcases cond_some H with ⟨c32, H⟩ | ⟨c32, H⟩
      ·have hk := hk.lit 25 c32 rfl
       refine cnd_true hk rfl rfl ?_
       refine wp_skip ?_
       refine hK30 _ _ ?_
       apply wp_seq_k; intro K33 hK33
       refine wp_block ?_
       apply wp_seq_k; intro K34 hK34
       refine wp_region_tree (.q 0 (.q 1 (.q 2 (.q 3 (.q 4 (.q 5 (.q 6 (.alt 7 (.alt 8 (.alt 9 (.alt 10 .done .stop) .stop) .stop) .stop)))))))) mo (by kernel_rfl) (hs.pick [(5, 5), (6, 6)] rfl) fun _ => ?_
       have hs := hs.drew
       refine tqst (.pointer (some ⟨b2, 1, none⟩)) hk rfl rfl rfl rfl (fun w hs => sf ⟨b2, 1, none⟩ rfl hk rfl rfl rfl fd67_1 rfl fun a hk => qe hk) fun a hk => ?_
       refine tqst (.slice A0_1 x0.Unsure.length p0_1) hk rfl rfl rfl rfl (fun w hs => sl rfl hk rfl rfl rfl ag65 (box_cell hs (k := 5) rfl rfl) fun a hk => qe hk) fun a hk => ?_
       refine tqst (.int .i64 u21) hk rfl rfl rfl rfl (fun w hs => sm _ rfl hk rfl rfl rfl fun a hk => qe hk) fun a hk => ?_
       rcases ite_some H with ⟨c36, H⟩ | ⟨_, H⟩
       rotate_left
       ·cases H
       obtain ⟨b37, q38, hAc36⟩ := (v0_1).some_ u21 c36.1 c36.2
       refine tqst (.pointer (some (padd A0_1 (u21.toNat * 2)))) hk rfl rfl rfl rfl (fun w hs => si rfl hk rfl rfl rfl rfl un65 sz129 c36.1 c36.2 hAc36 fun a hk => qe hk) fun a hk => ?_
       obtain ⟨_, rfl, e39⟩ := (v0_1).at_ z_Io u21 c36.1 c36.2
       refine tqst (.agg #[.int .i64 ((x0.Unsure.getD u21.toNat z_Io).At), .string ((x0.Unsure.getD u21.toNat z_Io).Data)]) hk rfl rfl rfl rfl (fun w hs => sln [.int .i64 ((x0.Unsure.getD u21.toNat z_Io).At), .string ((x0.Unsure.getD u21.toNat z_Io).Data)] rfl hk rfl rfl rfl ag129 sz129 (cells_at e39 (hs.hasD (k := 2) rfl)) fun a hk => qe hk) fun a hk => ?_
       refine tqst (.pointer (some ⟨b3, 1, none⟩)) hk rfl rfl rfl rfl (fun w hs => sf ⟨b3, 1, none⟩ rfl hk rfl rfl rfl fd67_1 rfl fun a hk => qe hk) fun a hk => ?_
       refine tqst (.slice A1_1 x1.Unsure.length p1_1) hk rfl rfl rfl rfl (fun w hs => sl rfl hk rfl rfl rfl ag65 (box_cell hs (k := 6) rfl rfl) fun a hk => qe hk) fun a hk => ?_
       refine tsst hk rfl rfl (fun K_r35_7 hK_r35_7 w hF => ?_) wt_stop
       have hs := hs.f hF
       refine sm _ rfl hk rfl rfl rfl fun a hk => ?_
       refine se (hs.pick [(5, 5), (6, 6)] rfl) hk (hK_r35_7 _ _ ?_)
       refine tsst hk rfl rfl (fun K_r35_8 hK_r35_8 w hF => ?_) wt_stop
       have hs := hs.f hF
       rcases ite_some H with ⟨c40, H⟩ | ⟨_, H⟩
       rotate_left
       ·cases H
       obtain ⟨b41, q42, hAc40⟩ := (v1_1).some_ u21 c40.1 c40.2
       refine si rfl hk rfl rfl rfl rfl un65 sz129 c40.1 c40.2 hAc40 fun a hk => ?_
       refine se (hs.pick [(5, 5), (6, 6)] rfl) hk (hK_r35_8 _ _ ?_)
       refine tsst hk rfl rfl (fun K_r35_9 hK_r35_9 w hF => ?_) wt_stop
       have hs := hs.f hF
       obtain ⟨_, rfl, e43⟩ := (v1_1).at_ z_Io u21 c40.1 c40.2
       refine sln [.int .i64 ((x1.Unsure.getD u21.toNat z_Io).At), .string ((x1.Unsure.getD u21.toNat z_Io).Data)] rfl hk rfl rfl rfl ag129 sz129 (cells_at e43 (hs.hasD (k := 4) rfl)) fun a hk => ?_
       refine se (hs.pick [(5, 5), (6, 6)] rfl) hk (hK_r35_9 _ _ ?_)
       refine tsst hk rfl rfl (fun K_r35_10 hK_r35_10 w hF => ?_) wt_stop
       have hs := hs.f hF
       refine snea (r := ((((x0.Unsure.getD u21.toNat z_Io).At) == ((x1.Unsure.getD u21.toNat z_Io).At)) && ((((x0.Unsure.getD u21.toNat z_Io).Data).toList == ((x1.Unsure.getD u21.toNat z_Io).Data).toList) && true))) rfl hk rfl rfl rfl rfl eg129 (eq_agg Try.underlying129 sh129 (eqf_cons rfl ag3 rfl rfl (run_equalIn_int _ _ _ _ _ _ _ un3) (eqf_cons rfl ag9 rfl rfl (run_equalIn_string _ _ _ _ _ un9) eqf_nil))) fun a hk => ?_
       refine se (hs.pick [(5, 5), (6, 6)] rfl) hk (hK_r35_10 _ _ ?_)
       refine wtl_nil fun w hF _ => ?_
       have hs := hs.f hF
       refine hK34 _ _ ?_
       rcases cond_some H with ⟨c44, H⟩ | ⟨c44, H⟩
       ·have hk := hk.lit 38 c44 rfl
        refine cnd_true hk rfl rfl ?_
        apply wp_seq_k; intro K45 hK45
        apply wp_region_lit
        refine sa _ rfl hk rfl rfl rfl fun a hk => ?_
        show wpList _ _ _ [] _ _
        refine wpList_nil ?_
        refine hK45 _ _ ?_
        have hs := hs.pick [] rfl
        refine wp_ret ?_
        obtain rfl := Option.some.inj H
        have ho22 := h29
        try dsimp only at ho22
        subst ho22
        have H := HL24
        try dsimp only at H
        obtain rfl := Option.some.inj H
        exact fin hk _ [(.bool false)] rfl ⟨rfl, trivial⟩ ⟨rfl, (hs.pick [] rfl).dnil⟩
       ·have hk := hk.lit 38 c44 rfl
        refine cnd_false hk rfl rfl ?_
        refine wp_skip ?_
        refine hK33 _ _ ?_
        have hs := hs.pick [(5, 5), (6, 6)] rfl
        apply wp_region_lit
        refine sm _ rfl hk rfl rfl rfl fun a hk => ?_
        refine sv (.int .i64 (w64 (u21 + 1))) hk rfl rfl rfl fun a hk => ?_
        refine sa _ rfl hk rfl rfl rfl fun a hk => ?_
        show wpList _ _ _ [] _ _
        refine wpList_nil ?_
        obtain rfl := Option.some.inj H
        obtain ⟨m46, hmm46, h29⟩ := h29
        show ∃ n', n' < _ ∧ I26 n' _ _
        refine ⟨m46, hmm46, ?_⟩
        rw [hI26]
        exact ⟨(w64 (u21 + 1)), h29, (hk.c 2 rfl (hk.c 3 rfl (hk.c 5 rfl hk.k))), (hs.pick [(5, 5), (6, 6)] rfl)⟩
      ·have hk := hk.lit 25 c32 rfl
       refine cnd_false hk rfl rfl ?_
       refine wp_exit ?_
       obtain rfl := Option.some.inj H
       show R25 _ _
       rw [hR25]
       exact ⟨h29.symm, hk.k, (hs.pick [] rfl)⟩
    ·intro a w hR0
     rw [hR25] at hR0
     obtain ⟨rfl, hk, hs⟩ := hR0
     have H := HL24
     try dsimp only at H
     refine hK17 _ _ ?_
     apply wp_seq_k; intro K47 hK47
     apply wp_region_lit
     refine sa _ rfl hk rfl rfl rfl fun a hk => ?_
     show wpList _ _ _ [] _ _
     refine wpList_nil ?_
     refine hK47 _ _ ?_
     refine wp_ret ?_
     obtain rfl := Option.some.inj H
     exact fin hk _ [(.bool true)] rfl ⟨rfl, trivial⟩ ⟨rfl, (hs.pick [] rfl).dnil⟩

end Go.Proofs.Ytlbbkehdfgjneaa
