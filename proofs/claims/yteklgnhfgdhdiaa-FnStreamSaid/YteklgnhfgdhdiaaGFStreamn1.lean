/- Further functions. -/
import Derived.Test.YteklgnhfgdhdiaaGFStream
namespace Go.Proofs.Yteklgnhfgdhdiaa
open Go Go.Z Go.Proofs Go.MuLone Go.ChangeShapes Go.WideShapes Go.ChangeAt Go.RowKit
set_option linter.unusedVariables false
set_option linter.unusedSimpArgs false
noncomputable def spec_l02Block.s0  (u14 : List Int) (u18 : Int) : Option (((List Int) × Int) ⊕ Ex ((List Int)) (ByteArray)) :=
  (bif (decide (u18 < 4)) then ((spec_l02Word.f (⟨#[101, 120, 112, 97, 110, 100, 32, 51, 50, 45, 98, 121, 116, 101, 32, 107]⟩ : ByteArray) (w64 (4 * u18))).bind fun y35 => (if 0 ≤ u18 ∧ u18 < (16 : Int) then (some (.inl ((u14.set u18.toNat y35), (w64 (u18 + 1))))) else none)) else (some (.inr (.out u14))))
noncomputable def spec_l02Block.s1 (x0 : ByteArray) (u48 : List Int) (u52 : Int) : Option (((List Int) × Int) ⊕ Ex ((List Int)) (ByteArray)) :=
  (bif (decide (u52 < 8)) then ((spec_l02Word.f x0 (w64 (4 * u52))).bind fun y69 => (if 0 ≤ (w64 (4 + u52)) ∧ (w64 (4 + u52)) < (16 : Int) then (some (.inl ((u48.set (w64 (4 + u52)).toNat y69), (w64 (u52 + 1))))) else none)) else (some (.inr (.out u48))))
noncomputable def spec_l02Block.s2 (x1 : ByteArray) (u89 : List Int) (u93 : Int) : Option (((List Int) × Int) ⊕ Ex ((List Int)) (ByteArray)) :=
  (bif (decide (u93 < 3)) then ((spec_l02Word.f x1 (w64 (4 * u93))).bind fun y110 => (if 0 ≤ (w64 (13 + u93)) ∧ (w64 (13 + u93)) < (16 : Int) then (some (.inl ((u89.set (w64 (13 + u93)).toNat y110), (w64 (u93 + 1))))) else none)) else (some (.inr (.out u89))))
noncomputable def spec_l02Block.s4  (u155 : List Int) (u159 : Int) : Option (((List Int) × Int) ⊕ Ex ((List Int)) (ByteArray)) :=
  (bif (decide (u159 < 4)) then ((spec_l02Round.f u155 u159 (w64 (4 + u159)) (w64 (8 + u159)) (w64 (12 + u159))).bind fun y176 => (some (.inl (y176, (w64 (u159 + 1)))))) else (some (.inr (.out u155))))
noncomputable def spec_l02Block.s5  (u185 : List Int) (u189 : Int) : Option (((List Int) × Int) ⊕ Ex ((List Int)) (ByteArray)) :=
  (bif (decide (u189 < 4)) then ((spec_l02Round.f u185 u189 (w64 (4 + (Int.tmod (w64 (u189 + 1)) 4))) (w64 (8 + (Int.tmod (w64 (u189 + 2)) 4))) (w64 (12 + (Int.tmod (w64 (u189 + 3)) 4)))).bind fun y206 => (some (.inl (y206, (w64 (u189 + 1)))))) else (some (.inr (.out u185))))
noncomputable def spec_l02Block.s3  (u130 : List Int) (u134 : Int) : Option (((List Int) × Int) ⊕ Ex ((List Int)) (ByteArray)) :=
  (bif (decide (u134 < 10)) then ((loopO (fun s => spec_l02Block.s4  s.1 s.2) (u130, 0)).bind fun o => match o with | .out u160 => ((loopO (fun s => spec_l02Block.s5  s.1 s.2) (u160, 0)).bind fun o => match o with | .out u190 => (some (.inl (u190, (w64 (u134 + 1))))) | .ret r => (some (.inr (.ret r)))) | .ret r => (some (.inr (.ret r)))) else (some (.inr (.out u130))))
noncomputable def spec_l02Block.s6 (u94 : List Int) (u135 : List Int) (u226 : List Int) (u225 : Int) : Option (((List Int) × Int) ⊕ Ex ((List Int)) (ByteArray)) :=
  (bif (decide (u225 < 16)) then (if 0 ≤ u225 ∧ u225 < (16 : Int) then (if 0 ≤ u225 ∧ u225 < (16 : Int) then ((spec_l02Bytes.f u226 (IntKind.wrap .i64 ((BitVec.ofInt 64 (w64 ((u135.getD u225.toNat 0) + (u94.getD u225.toNat 0))) &&& BitVec.ofInt 64 4294967295).toNat : Int))).bind fun y257 => (some (.inl (y257, (w64 (u225 + 1)))))) else none) else none) else (some (.inr (.out u226))))
noncomputable def spec_l02Block.f (x0 : ByteArray) (x1 : ByteArray) (x2 : Int) : Option (ByteArray) :=
  ((loopO (fun s => spec_l02Block.s0  s.1 s.2) ((List.replicate 16 (0 : Int)), 0)).bind fun o => match o with | .out u19 => ((loopO (fun s => spec_l02Block.s1 x0 s.1 s.2) (u19, 0)).bind fun o => match o with | .out u53 => (if 0 ≤ (12 : Int) ∧ (12 : Int) < (16 : Int) then ((loopO (fun s => spec_l02Block.s2 x1 s.1 s.2) ((u53.set (12 : Int).toNat x2), 0)).bind fun o => match o with | .out u94 => ((loopO (fun s => spec_l02Block.s3  s.1 s.2) (u94, 0)).bind fun o => match o with | .out u135 => ((loopO (fun s => spec_l02Block.s6 u94 u135 s.1 s.2) (([] : List Int), 0)).bind fun o => match o with | .out u231 => (some (strOfNums u231)) | .ret r => (some r)) | .ret r => (some r)) | .ret r => (some r)) else none) | .ret r => (some r)) | .ret r => (some r))
set_option maxRecDepth 100000 in
set_option maxHeartbeats 0 in
theorem spec_l02Block_t (w0 : World) (x0 : ByteArray) (x1 : ByteArray) (x2 : Int) (r : ByteArray) (H : spec_l02Block.f x0 x1 x2 = some r) :
    Calls Try.prog 108 #[.string x0, .string x1, .int .i64 x2] w0 (Ret (fun v w => v = .string r ∧ Sat [] w0 w [] [])) := by
  have hs : Sat [] w0 w0 [] [] := Sat.init w0 [] [] (by simp) (by simp) List.nodup_nil (by simp [blks])
  unfold spec_l02Block.f at H
  refine enter Try.func108 rfl Try.ntmps108 rfl fun a hk => ?_
  apply wp_seq_k; intro K1 hK1
  apply wp_region_lit
  refine sa _ rfl hk rfl rfl rfl fun a hk => ?_
  show wpList _ _ _ [] _ _
  refine wpList_nil ?_
  refine hK1 _ _ ?_
  apply wp_seq_k; intro K2 hK2
  apply wp_region_lit
  refine sbd (pv := []) rfl hk rfl rfl rfl bd131_8 fun a hk => ?_
  have lh3 : (List.replicate 16 (0 : Int)).length = 16 := List.length_replicate
  refine sala 1 ((Lay.int .i64)) (m := 16) (z := 0) (zc := [.int .i64 0]) hs rfl hk rfl rfl ze131 (by exact ⟨rfl, rfl⟩) rfl rfl rfl fun b4 k5 w a hk o6 hs => ?_
  have lh7 : (List.replicate 16 (0 : Int)).length = 16 := List.length_replicate
  refine sswa 1 (List.replicate 16 (0 : Int)) hs rfl o6 lh7 lh3 rfl rfl hk rfl rfl rfl rfl sz131 fun k8 w a hk o9 hs => ?_
  show wpList _ _ _ [] _ _
  refine wpList_nil ?_
  refine hK2 _ _ ?_
  apply wp_seq_k; intro K10 hK10
  apply wp_seq_k; intro K11 hK11
  apply wp_region_lit
  refine sa _ rfl hk rfl rfl rfl fun a hk => ?_
  show wpList _ _ _ [] _ _
  refine wpList_nil ?_
  refine hK11 _ _ ?_
  obtain ⟨o23, h24, HL25⟩ := bind_some H
  clear H
  obtain ⟨R26, hR26⟩ : ∃ R : Act → World → Prop, R = fun a w => ∃ (u19 : List Int) (k20 : Chunk), o23 = .out u19 ∧ Kn [(0, (.string x0)), (1, (.string x1)), (2, (.int .i64 x2)), (7, (.pointer (some ⟨b4, 0, none⟩)))] 105 a ∧ Sat [] w0 w [] [(1, k20)] ∧ Own (Lay.int .i64) 131 (some ⟨b4, 0, none⟩) 16 u19 k20 ∧ u19.length = 16 := ⟨_, rfl⟩
  refine wp_cutq R26 ?_ ?_
  ·refine wp_block ?_
   obtain ⟨fu28, h24⟩ := loopO_some h24
   obtain ⟨I27, hI27⟩ : ∃ I : Nat → Act → World → Prop, I = fun fu a w => ∃ (u14 : List Int) (u18 : Int) (k15 : Chunk), loopN (fun s => spec_l02Block.s0  s.1 s.2) fu (u14, u18) = some o23 ∧ Kn [(0, (.string x0)), (1, (.string x1)), (2, (.int .i64 x2)), (7, (.pointer (some ⟨b4, 0, none⟩))), (8, (.int .i64 u18))] 105 a ∧ Sat [] w0 w [] [(1, k15)] ∧ Own (Lay.int .i64) 131 (some ⟨b4, 0, none⟩) 16 u14 k15 ∧ u14.length = 16 := ⟨_, rfl⟩
   refine wp_loop_ghost I27 fu28 ?_ ?_
   ·rw [hI27]
    exact ⟨(List.replicate 16 (0 : Int)), 0, _, h24, (hk.c 0 rfl (hk.c 1 rfl (hk.c 2 rfl (hk.c 7 rfl (hk.c 8 rfl hk.k))))), (hs.pick [(1, 1)] rfl), o9, lh3⟩
   ·clear h24 hk hs
    intro fu28 a w hI0
    rw [hI27] at hI0
    obtain ⟨u14, u18, k15, hi, hk, hs, o16, lh17⟩ := hI0
    obtain ⟨x29, H, h30⟩ := loop_round hi
    try dsimp only at H
    unfold spec_l02Block.s0 at H
    apply wp_seq_k; intro K31 hK31
    apply wp_seq_k; intro K32 hK32
    apply wp_region_lit
    refine sm _ rfl hk rfl rfl rfl fun a hk => ?_
    refine sv (.bool (decide (u18 < 4))) hk rfl rfl rfl fun a hk => ?_
    show wpList _ _ _ [] _ _
    refine wpList_nil ?_
    refine hK32 _ _ ?_
    have hs := hs.pick [(1, 1)] rfl
    rcases cond_some H with ⟨c33, H⟩ | ⟨c33, H⟩
    ·have hk := hk.lit 19 c33 rfl
     refine cnd_true hk rfl rfl ?_
     refine wp_skip ?_
     refine hK31 _ _ ?_
     apply wp_seq_k; intro K34 hK34
     refine wp_block ?_
     apply wp_region_lit
     refine sm _ rfl hk rfl rfl rfl fun a hk => ?_
     refine sm _ rfl hk rfl rfl rfl fun a hk => ?_
     refine sv (.int .i64 (w64 (4 * u18))) hk rfl rfl rfl fun a hk => ?_
     obtain ⟨y35, h36, H⟩ := bind_some H
     refine sc rfl en132 hk rfl rfl rfl (spec_l02Word_t _ (⟨#[101, 120, 112, 97, 110, 100, 32, 51, 50, 45, 98, 121, 116, 101, 32, 107]⟩ : ByteArray) (w64 (4 * u18)) _ h36) ?_
     rintro _ w ⟨rfl, hG⟩ a hk
     have hs := hs.call0 hG
     rcases ite_some H with ⟨c37, H⟩ | ⟨_, H⟩
     rotate_left
     ·cases H
     obtain ⟨b38, q39, hAc37⟩ := (o16.view).some_ u18 c37.1 (by rw [lh17]; exact c37.2)
     refine sia rfl hk rfl rfl rfl rfl un131 sz3 c37.1 c37.2 hAc37 fun a hk => ?_
     refine so (j := 0) 1 0 y35 hs rfl o16 c37.1 (by rw [lh17]; exact c37.2) rfl hk rfl rfl rfl rfl rfl sz3 (by simp [Value.cells, Value.oneCell']) (Nat.le_of_ble_eq_true rfl) (fun _ _ h => ⟨by rw [h.1]; rfl, h.2⟩) fun k40 w a hk o41 hs => ?_
     have lh42 : (u14.set u18.toNat y35).length = 16 := by rw [List.length_set]; exact lh17
     show wpList _ _ _ [] _ _
     refine wpList_nil ?_
     refine hK34 _ _ ?_
     apply wp_region_lit
     refine sm _ rfl hk rfl rfl rfl fun a hk => ?_
     refine sv (.int .i64 (w64 (u18 + 1))) hk rfl rfl rfl fun a hk => ?_
     refine sa _ rfl hk rfl rfl rfl fun a hk => ?_
     show wpList _ _ _ [] _ _
     refine wpList_nil ?_
     obtain rfl := Option.some.inj H
     obtain ⟨m43, hmm43, h30⟩ := h30
     show ∃ n', n' < _ ∧ I27 n' _ _
     refine ⟨m43, hmm43, ?_⟩
     rw [hI27]
     exact ⟨(u14.set u18.toNat y35), (w64 (u18 + 1)), _, h30, (hk.c 0 rfl (hk.c 1 rfl (hk.c 2 rfl (hk.c 7 rfl (hk.c 8 rfl hk.k))))), (hs.pick [(1, 1)] rfl), o41, lh42⟩
    ·have hk := hk.lit 19 c33 rfl
     refine cnd_false hk rfl rfl ?_
     refine wp_exit ?_
     obtain rfl := Option.some.inj H
     show R26 _ _
     rw [hR26]
     exact ⟨u14, _, h30.symm, (hk.c 0 rfl (hk.c 1 rfl (hk.c 2 rfl (hk.c 7 rfl hk.k)))), (hs.pick [(1, 1)] rfl), o16, lh17⟩
  ·intro a w hR0
   rw [hR26] at hR0
   obtain ⟨u19, k20, rfl, hk, hs, o21, lh22⟩ := hR0
   have H := HL25
   try dsimp only at H
   refine hK10 _ _ ?_
   have hs := hs.pick [(1, 1)] rfl
   apply wp_seq_k; intro K44 hK44
   apply wp_seq_k; intro K45 hK45
   apply wp_region_lit
   refine sa _ rfl hk rfl rfl rfl fun a hk => ?_
   show wpList _ _ _ [] _ _
   refine wpList_nil ?_
   refine hK45 _ _ ?_
   obtain ⟨o57, h58, HL59⟩ := bind_some H
   clear H
   obtain ⟨R60, hR60⟩ : ∃ R : Act → World → Prop, R = fun a w => ∃ (u53 : List Int) (k54 : Chunk), o57 = .out u53 ∧ Kn [(1, (.string x1)), (2, (.int .i64 x2)), (7, (.pointer (some ⟨b4, 0, none⟩)))] 105 a ∧ Sat [] w0 w [] [(1, k54)] ∧ Own (Lay.int .i64) 131 (some ⟨b4, 0, none⟩) 16 u53 k54 ∧ u53.length = 16 := ⟨_, rfl⟩
   refine wp_cutq R60 ?_ ?_
   ·refine wp_block ?_
    obtain ⟨fu62, h58⟩ := loopO_some h58
    obtain ⟨I61, hI61⟩ : ∃ I : Nat → Act → World → Prop, I = fun fu a w => ∃ (u48 : List Int) (u52 : Int) (k49 : Chunk), loopN (fun s => spec_l02Block.s1 x0 s.1 s.2) fu (u48, u52) = some o57 ∧ Kn [(0, (.string x0)), (1, (.string x1)), (2, (.int .i64 x2)), (7, (.pointer (some ⟨b4, 0, none⟩))), (9, (.int .i64 u52))] 105 a ∧ Sat [] w0 w [] [(1, k49)] ∧ Own (Lay.int .i64) 131 (some ⟨b4, 0, none⟩) 16 u48 k49 ∧ u48.length = 16 := ⟨_, rfl⟩
    refine wp_loop_ghost I61 fu62 ?_ ?_
    ·rw [hI61]
     exact ⟨u19, 0, _, h58, (hk.c 0 rfl (hk.c 1 rfl (hk.c 2 rfl (hk.c 7 rfl (hk.c 9 rfl hk.k))))), (hs.pick [(1, 1)] rfl), o21, lh22⟩
    ·clear h58 hk hs
     intro fu62 a w hI0
     rw [hI61] at hI0
     obtain ⟨u48, u52, k49, hi, hk, hs, o50, lh51⟩ := hI0
     obtain ⟨x63, H, h64⟩ := loop_round hi
     try dsimp only at H
     unfold spec_l02Block.s1 at H
     apply wp_seq_k; intro K65 hK65
     apply wp_seq_k; intro K66 hK66
     apply wp_region_lit
     refine sm _ rfl hk rfl rfl rfl fun a hk => ?_
     refine sv (.bool (decide (u52 < 8))) hk rfl rfl rfl fun a hk => ?_
     show wpList _ _ _ [] _ _
     refine wpList_nil ?_
     refine hK66 _ _ ?_
     rcases cond_some H with ⟨c67, H⟩ | ⟨c67, H⟩
     ·have hk := hk.lit 28 c67 rfl
      refine cnd_true hk rfl rfl ?_
      refine wp_skip ?_
      refine hK65 _ _ ?_
      apply wp_seq_k; intro K68 hK68
      refine wp_block ?_
      apply wp_region_lit
      refine sm _ rfl hk rfl rfl rfl fun a hk => ?_
      refine sv (.int .i64 (w64 (4 + u52))) hk rfl rfl rfl fun a hk => ?_
      refine sm _ rfl hk rfl rfl rfl fun a hk => ?_
      refine sm _ rfl hk rfl rfl rfl fun a hk => ?_
      refine sv (.int .i64 (w64 (4 * u52))) hk rfl rfl rfl fun a hk => ?_
      obtain ⟨y69, h70, H⟩ := bind_some H
      refine sc rfl en132 hk rfl rfl rfl (spec_l02Word_t _ x0 (w64 (4 * u52)) _ h70) ?_
      rintro _ w ⟨rfl, hG⟩ a hk
      have hs := hs.call0 hG
      rcases ite_some H with ⟨c71, H⟩ | ⟨_, H⟩
      rotate_left
      ·cases H
      obtain ⟨b72, q73, hAc71⟩ := (o50.view).some_ (w64 (4 + u52)) c71.1 (by rw [lh51]; exact c71.2)
      refine sia rfl hk rfl rfl rfl rfl un131 sz3 c71.1 c71.2 hAc71 fun a hk => ?_
      refine so (j := 0) 1 0 y69 hs rfl o50 c71.1 (by rw [lh51]; exact c71.2) rfl hk rfl rfl rfl rfl rfl sz3 (by simp [Value.cells, Value.oneCell']) (Nat.le_of_ble_eq_true rfl) (fun _ _ h => ⟨by rw [h.1]; rfl, h.2⟩) fun k74 w a hk o75 hs => ?_
      have lh76 : (u48.set (w64 (4 + u52)).toNat y69).length = 16 := by rw [List.length_set]; exact lh51
      show wpList _ _ _ [] _ _
      refine wpList_nil ?_
      refine hK68 _ _ ?_
      have hs := hs.pick [(1, 1)] rfl
      apply wp_region_lit
      refine sm _ rfl hk rfl rfl rfl fun a hk => ?_
      refine sv (.int .i64 (w64 (u52 + 1))) hk rfl rfl rfl fun a hk => ?_
      refine sa _ rfl hk rfl rfl rfl fun a hk => ?_
      show wpList _ _ _ [] _ _
      refine wpList_nil ?_
      obtain rfl := Option.some.inj H
      obtain ⟨m77, hmm77, h64⟩ := h64
      show ∃ n', n' < _ ∧ I61 n' _ _
      refine ⟨m77, hmm77, ?_⟩
      rw [hI61]
      exact ⟨(u48.set (w64 (4 + u52)).toNat y69), (w64 (u52 + 1)), _, h64, (hk.c 0 rfl (hk.c 1 rfl (hk.c 2 rfl (hk.c 7 rfl (hk.c 9 rfl hk.k))))), (hs.pick [(1, 1)] rfl), o75, lh76⟩
     ·have hk := hk.lit 28 c67 rfl
      refine cnd_false hk rfl rfl ?_
      refine wp_exit ?_
      obtain rfl := Option.some.inj H
      show R60 _ _
      rw [hR60]
      exact ⟨u48, _, h64.symm, (hk.c 1 rfl (hk.c 2 rfl (hk.c 7 rfl hk.k))), (hs.pick [(1, 1)] rfl), o50, lh51⟩
   ·intro a w hR0
    rw [hR60] at hR0
    obtain ⟨u53, k54, rfl, hk, hs, o55, lh56⟩ := hR0
    have H := HL59
    try dsimp only at H
    refine hK44 _ _ ?_
    apply wp_seq_k; intro K78 hK78
    apply wp_region_lit
    refine sm _ rfl hk rfl rfl rfl fun a hk => ?_
    rcases ite_some H with ⟨c79, H⟩ | ⟨_, H⟩
    rotate_left
    ·cases H
    obtain ⟨b80, q81, hAc79⟩ := (o55.view).some_ (12 : Int) c79.1 (by rw [lh56]; exact c79.2)
    refine sia rfl hk rfl rfl rfl rfl un131 sz3 c79.1 c79.2 hAc79 fun a hk => ?_
    refine so (j := 0) 1 0 x2 hs rfl o55 c79.1 (by rw [lh56]; exact c79.2) rfl hk rfl rfl rfl rfl rfl sz3 (by simp [Value.cells, Value.oneCell']) (Nat.le_of_ble_eq_true rfl) (fun _ _ h => ⟨by rw [h.1]; rfl, h.2⟩) fun k82 w a hk o83 hs => ?_
    have lh84 : (u53.set (12 : Int).toNat x2).length = 16 := by rw [List.length_set]; exact lh56
    show wpList _ _ _ [] _ _
    refine wpList_nil ?_
    refine hK78 _ _ ?_
    apply wp_seq_k; intro K85 hK85
    apply wp_seq_k; intro K86 hK86
    apply wp_region_lit
    refine sa _ rfl hk rfl rfl rfl fun a hk => ?_
    show wpList _ _ _ [] _ _
    refine wpList_nil ?_
    refine hK86 _ _ ?_
    have hs := hs.pick [(1, 1)] rfl
    obtain ⟨o98, h99, HL100⟩ := bind_some H
    clear H
    obtain ⟨R101, hR101⟩ : ∃ R : Act → World → Prop, R = fun a w => ∃ (u94 : List Int) (k95 : Chunk), o98 = .out u94 ∧ Kn [(7, (.pointer (some ⟨b4, 0, none⟩)))] 105 a ∧ Sat [] w0 w [] [(1, k95)] ∧ Own (Lay.int .i64) 131 (some ⟨b4, 0, none⟩) 16 u94 k95 ∧ u94.length = 16 := ⟨_, rfl⟩
    refine wp_cutq R101 ?_ ?_
    ·refine wp_block ?_
     obtain ⟨fu103, h99⟩ := loopO_some h99
     obtain ⟨I102, hI102⟩ : ∃ I : Nat → Act → World → Prop, I = fun fu a w => ∃ (u89 : List Int) (u93 : Int) (k90 : Chunk), loopN (fun s => spec_l02Block.s2 x1 s.1 s.2) fu (u89, u93) = some o98 ∧ Kn [(1, (.string x1)), (7, (.pointer (some ⟨b4, 0, none⟩))), (10, (.int .i64 u93))] 105 a ∧ Sat [] w0 w [] [(1, k90)] ∧ Own (Lay.int .i64) 131 (some ⟨b4, 0, none⟩) 16 u89 k90 ∧ u89.length = 16 := ⟨_, rfl⟩
     refine wp_loop_ghost I102 fu103 ?_ ?_
     ·rw [hI102]
      exact ⟨(u53.set (12 : Int).toNat x2), 0, _, h99, (hk.c 1 rfl (hk.c 7 rfl (hk.c 10 rfl hk.k))), (hs.pick [(1, 1)] rfl), o83, lh84⟩
     ·clear h99 hk hs
      intro fu103 a w hI0
      rw [hI102] at hI0
      obtain ⟨u89, u93, k90, hi, hk, hs, o91, lh92⟩ := hI0
      obtain ⟨x104, H, h105⟩ := loop_round hi
      try dsimp only at H
      unfold spec_l02Block.s2 at H
      apply wp_seq_k; intro K106 hK106
      apply wp_seq_k; intro K107 hK107
      apply wp_region_lit
      refine sm _ rfl hk rfl rfl rfl fun a hk => ?_
      refine sv (.bool (decide (u93 < 3))) hk rfl rfl rfl fun a hk => ?_
      show wpList _ _ _ [] _ _
      refine wpList_nil ?_
      refine hK107 _ _ ?_
      rcases cond_some H with ⟨c108, H⟩ | ⟨c108, H⟩
      ·have hk := hk.lit 41 c108 rfl
       refine cnd_true hk rfl rfl ?_
       refine wp_skip ?_
       refine hK106 _ _ ?_
       apply wp_seq_k; intro K109 hK109
       refine wp_block ?_
       apply wp_region_lit
       refine sm _ rfl hk rfl rfl rfl fun a hk => ?_
       refine sv (.int .i64 (w64 (13 + u93))) hk rfl rfl rfl fun a hk => ?_
       refine sm _ rfl hk rfl rfl rfl fun a hk => ?_
       refine sm _ rfl hk rfl rfl rfl fun a hk => ?_
       refine sv (.int .i64 (w64 (4 * u93))) hk rfl rfl rfl fun a hk => ?_
       obtain ⟨y110, h111, H⟩ := bind_some H
       refine sc rfl en132 hk rfl rfl rfl (spec_l02Word_t _ x1 (w64 (4 * u93)) _ h111) ?_
       rintro _ w ⟨rfl, hG⟩ a hk
       have hs := hs.call0 hG
       rcases ite_some H with ⟨c112, H⟩ | ⟨_, H⟩
       rotate_left
       ·cases H
       obtain ⟨b113, q114, hAc112⟩ := (o91.view).some_ (w64 (13 + u93)) c112.1 (by rw [lh92]; exact c112.2)
       refine sia rfl hk rfl rfl rfl rfl un131 sz3 c112.1 c112.2 hAc112 fun a hk => ?_
       refine so (j := 0) 1 0 y110 hs rfl o91 c112.1 (by rw [lh92]; exact c112.2) rfl hk rfl rfl rfl rfl rfl sz3 (by simp [Value.cells, Value.oneCell']) (Nat.le_of_ble_eq_true rfl) (fun _ _ h => ⟨by rw [h.1]; rfl, h.2⟩) fun k115 w a hk o116 hs => ?_
       have lh117 : (u89.set (w64 (13 + u93)).toNat y110).length = 16 := by rw [List.length_set]; exact lh92
       show wpList _ _ _ [] _ _
       refine wpList_nil ?_
       refine hK109 _ _ ?_
       apply wp_region_lit
       refine sm _ rfl hk rfl rfl rfl fun a hk => ?_
       refine sv (.int .i64 (w64 (u93 + 1))) hk rfl rfl rfl fun a hk => ?_
       refine sa _ rfl hk rfl rfl rfl fun a hk => ?_
       show wpList _ _ _ [] _ _
       refine wpList_nil ?_
       obtain rfl := Option.some.inj H
       obtain ⟨m118, hmm118, h105⟩ := h105
       show ∃ n', n' < _ ∧ I102 n' _ _
       refine ⟨m118, hmm118, ?_⟩
       rw [hI102]
       exact ⟨(u89.set (w64 (13 + u93)).toNat y110), (w64 (u93 + 1)), _, h105, (hk.c 1 rfl (hk.c 7 rfl (hk.c 10 rfl hk.k))), (hs.pick [(1, 1)] rfl), o116, lh117⟩
      ·have hk := hk.lit 41 c108 rfl
       refine cnd_false hk rfl rfl ?_
       refine wp_exit ?_
       obtain rfl := Option.some.inj H
       show R101 _ _
       rw [hR101]
       exact ⟨u89, _, h105.symm, (hk.c 7 rfl hk.k), (hs.pick [(1, 1)] rfl), o91, lh92⟩
    ·intro a w hR0
     rw [hR101] at hR0
     obtain ⟨u94, k95, rfl, hk, hs, o96, lh97⟩ := hR0
     have H := HL100
     try dsimp only at H
     refine hK85 _ _ ?_
     apply wp_seq_k; intro K119 hK119
     apply wp_region_lit
     refine slna (k := 1) hs rfl o96 lh97 rfl hk rfl rfl rfl ag131 sz131 fun a hk => ?_
     refine sala 5 ((Lay.int .i64)) (m := 16) (z := 0) (zc := [.int .i64 0]) hs rfl hk rfl rfl ze131 (by exact ⟨rfl, rfl⟩) rfl rfl rfl fun b120 k121 w a hk o122 hs => ?_
     have lh123 : (List.replicate 16 (0 : Int)).length = 16 := List.length_replicate
     refine sswa 5 u94 hs rfl o122 lh123 lh97 rfl rfl hk rfl rfl rfl rfl sz131 fun k124 w a hk o125 hs => ?_
     show wpList _ _ _ [] _ _
     refine wpList_nil ?_
     refine hK119 _ _ ?_
     apply wp_seq_k; intro K126 hK126
     apply wp_seq_k; intro K127 hK127
     apply wp_region_lit
     refine sa _ rfl hk rfl rfl rfl fun a hk => ?_
     show wpList _ _ _ [] _ _
     refine wpList_nil ?_
     refine hK127 _ _ ?_
     obtain ⟨o139, h140, HL141⟩ := bind_some H
     clear H
     obtain ⟨R142, hR142⟩ : ∃ R : Act → World → Prop, R = fun a w => ∃ (u135 : List Int) (k136 : Chunk), o139 = .out u135 ∧ Kn [(7, (.pointer (some ⟨b4, 0, none⟩))), (11, (.pointer (some ⟨b120, 0, none⟩)))] 105 a ∧ Sat [] w0 w [] [(1, k95), (5, k136)] ∧ Own (Lay.int .i64) 131 (some ⟨b120, 0, none⟩) 16 u135 k136 ∧ u135.length = 16 := ⟨_, rfl⟩
     refine wp_cutq R142 ?_ ?_
     ·refine wp_block ?_
      obtain ⟨fu144, h140⟩ := loopO_some h140
      obtain ⟨I143, hI143⟩ : ∃ I : Nat → Act → World → Prop, I = fun fu a w => ∃ (u130 : List Int) (u134 : Int) (k131 : Chunk), loopN (fun s => spec_l02Block.s3  s.1 s.2) fu (u130, u134) = some o139 ∧ Kn [(7, (.pointer (some ⟨b4, 0, none⟩))), (11, (.pointer (some ⟨b120, 0, none⟩))), (12, (.int .i64 u134))] 105 a ∧ Sat [] w0 w [] [(1, k95), (5, k131)] ∧ Own (Lay.int .i64) 131 (some ⟨b120, 0, none⟩) 16 u130 k131 ∧ u130.length = 16 := ⟨_, rfl⟩
      refine wp_loop_ghost I143 fu144 ?_ ?_
      ·rw [hI143]
       exact ⟨u94, 0, _, h140, (hk.c 7 rfl (hk.c 11 rfl (hk.c 12 rfl hk.k))), (hs.pick [(1, 1), (5, 5)] rfl), o125, lh97⟩
      ·clear h140 hk hs
       intro fu144 a w hI0
       rw [hI143] at hI0
       obtain ⟨u130, u134, k131, hi, hk, hs, o132, lh133⟩ := hI0
       obtain ⟨x145, H, h146⟩ := loop_round hi
       try dsimp only at H
       unfold spec_l02Block.s3 at H
       apply wp_seq_k; intro K147 hK147
       apply wp_seq_k; intro K148 hK148
       apply wp_region_lit
       refine sm _ rfl hk rfl rfl rfl fun a hk => ?_
       refine sv (.bool (decide (u134 < 10))) hk rfl rfl rfl fun a hk => ?_
       show wpList _ _ _ [] _ _
       refine wpList_nil ?_
       refine hK148 _ _ ?_
       have hs := hs.pick [(1, 1), (5, 5)] rfl
       rcases cond_some H with ⟨c149, H⟩ | ⟨c149, H⟩
       ·have hk := hk.lit 53 c149 rfl
        refine cnd_true hk rfl rfl ?_
        refine wp_skip ?_
        refine hK147 _ _ ?_
        apply wp_seq_k; intro K150 hK150
        refine wp_block ?_
        apply wp_seq_k; intro K151 hK151
        apply wp_seq_k; intro K152 hK152
        apply wp_region_lit
        refine sa _ rfl hk rfl rfl rfl fun a hk => ?_
        show wpList _ _ _ [] _ _
        refine wpList_nil ?_
        refine hK152 _ _ ?_
        obtain ⟨o164, h165, HL166⟩ := bind_some H
        clear H
        obtain ⟨R167, hR167⟩ : ∃ R : Act → World → Prop, R = fun a w => ∃ (u160 : List Int) (k161 : Chunk), o164 = .out u160 ∧ Kn [(7, (.pointer (some ⟨b4, 0, none⟩))), (11, (.pointer (some ⟨b120, 0, none⟩))), (12, (.int .i64 u134))] 105 a ∧ Sat [] w0 w [] [(1, k95), (5, k161)] ∧ Own (Lay.int .i64) 131 (some ⟨b120, 0, none⟩) 16 u160 k161 ∧ u160.length = 16 := ⟨_, rfl⟩
        refine wp_cutq R167 ?_ ?_
        ·refine wp_block ?_
         obtain ⟨fu169, h165⟩ := loopO_some h165
         obtain ⟨I168, hI168⟩ : ∃ I : Nat → Act → World → Prop, I = fun fu a w => ∃ (u155 : List Int) (u159 : Int) (k156 : Chunk), loopN (fun s => spec_l02Block.s4  s.1 s.2) fu (u155, u159) = some o164 ∧ Kn [(7, (.pointer (some ⟨b4, 0, none⟩))), (11, (.pointer (some ⟨b120, 0, none⟩))), (12, (.int .i64 u134)), (13, (.int .i64 u159))] 105 a ∧ Sat [] w0 w [] [(1, k95), (5, k156)] ∧ Own (Lay.int .i64) 131 (some ⟨b120, 0, none⟩) 16 u155 k156 ∧ u155.length = 16 := ⟨_, rfl⟩
         refine wp_loop_ghost I168 fu169 ?_ ?_
         ·rw [hI168]
          exact ⟨u130, 0, _, h165, (hk.c 7 rfl (hk.c 11 rfl (hk.c 12 rfl (hk.c 13 rfl hk.k)))), (hs.pick [(1, 1), (5, 5)] rfl), o132, lh133⟩
         ·clear h165 hk hs
          intro fu169 a w hI0
          rw [hI168] at hI0
          obtain ⟨u155, u159, k156, hi, hk, hs, o157, lh158⟩ := hI0
          obtain ⟨x170, H, h171⟩ := loop_round hi
          try dsimp only at H
          unfold spec_l02Block.s4 at H
          apply wp_seq_k; intro K172 hK172
          apply wp_seq_k; intro K173 hK173
          apply wp_region_lit
          refine sm _ rfl hk rfl rfl rfl fun a hk => ?_
          refine sv (.bool (decide (u159 < 4))) hk rfl rfl rfl fun a hk => ?_
          show wpList _ _ _ [] _ _
          refine wpList_nil ?_
          refine hK173 _ _ ?_
          rcases cond_some H with ⟨c174, H⟩ | ⟨c174, H⟩
          ·have hk := hk.lit 57 c174 rfl
           refine cnd_true hk rfl rfl ?_
           refine wp_skip ?_
           refine hK172 _ _ ?_
           have hs := hs.pick [(1, 1), (5, 5)] rfl
           apply wp_seq_k; intro K175 hK175
           refine wp_block ?_
           apply wp_region_lit
           refine slna (k := 5) hs rfl o157 lh158 rfl hk rfl rfl rfl ag131 sz131 fun a hk => ?_
           refine sm _ rfl hk rfl rfl rfl fun a hk => ?_
           refine sm _ rfl hk rfl rfl rfl fun a hk => ?_
           refine sv (.int .i64 (w64 (4 + u159))) hk rfl rfl rfl fun a hk => ?_
           refine sm _ rfl hk rfl rfl rfl fun a hk => ?_
           refine sv (.int .i64 (w64 (8 + u159))) hk rfl rfl rfl fun a hk => ?_
           refine sm _ rfl hk rfl rfl rfl fun a hk => ?_
           refine sv (.int .i64 (w64 (12 + u159))) hk rfl rfl rfl fun a hk => ?_
           obtain ⟨y176, h177, H⟩ := bind_some H
           refine sc rfl en133 hk rfl rfl rfl (spec_l02Round_t _ u155 lh158 u159 (w64 (4 + u159)) (w64 (8 + u159)) (w64 (12 + u159)) _ h177) ?_
           rintro _ w ⟨rfl, lh178, hG⟩ a hk
           have hs := hs.call0 hG
           refine sswa 5 y176 hs rfl o157 lh158 lh178 rfl rfl hk rfl rfl rfl rfl sz131 fun k179 w a hk o180 hs => ?_
           show wpList _ _ _ [] _ _
           refine wpList_nil ?_
           refine hK175 _ _ ?_
           apply wp_region_lit
           refine sm _ rfl hk rfl rfl rfl fun a hk => ?_
           refine sv (.int .i64 (w64 (u159 + 1))) hk rfl rfl rfl fun a hk => ?_
           refine sa _ rfl hk rfl rfl rfl fun a hk => ?_
           show wpList _ _ _ [] _ _
           refine wpList_nil ?_
           obtain rfl := Option.some.inj H
           obtain ⟨m181, hmm181, h171⟩ := h171
           show ∃ n', n' < _ ∧ I168 n' _ _
           refine ⟨m181, hmm181, ?_⟩
           rw [hI168]
           exact ⟨y176, (w64 (u159 + 1)), _, h171, (hk.c 7 rfl (hk.c 11 rfl (hk.c 12 rfl (hk.c 13 rfl hk.k)))), (hs.pick [(1, 1), (5, 5)] rfl), o180, lh178⟩
          ·have hk := hk.lit 57 c174 rfl
           refine cnd_false hk rfl rfl ?_
           refine wp_exit ?_
           obtain rfl := Option.some.inj H
           show R167 _ _
           rw [hR167]
           exact ⟨u155, _, h171.symm, (hk.c 7 rfl (hk.c 11 rfl (hk.c 12 rfl hk.k))), (hs.pick [(1, 1), (5, 5)] rfl), o157, lh158⟩
        ·intro a w hR0
         rw [hR167] at hR0
         obtain ⟨u160, k161, rfl, hk, hs, o162, lh163⟩ := hR0
         have H := HL166
         try dsimp only at H
         refine hK151 _ _ ?_
         apply wp_seq_k; intro K182 hK182
         apply wp_region_lit
         refine sa _ rfl hk rfl rfl rfl fun a hk => ?_
         show wpList _ _ _ [] _ _
         refine wpList_nil ?_
         refine hK182 _ _ ?_
         have hs := hs.pick [(1, 1), (5, 5)] rfl
         obtain ⟨o194, h195, HL196⟩ := bind_some H
         clear H
         obtain ⟨R197, hR197⟩ : ∃ R : Act → World → Prop, R = fun a w => ∃ (u190 : List Int) (k191 : Chunk), o194 = .out u190 ∧ Kn [(7, (.pointer (some ⟨b4, 0, none⟩))), (11, (.pointer (some ⟨b120, 0, none⟩))), (12, (.int .i64 u134))] 105 a ∧ Sat [] w0 w [] [(1, k95), (5, k191)] ∧ Own (Lay.int .i64) 131 (some ⟨b120, 0, none⟩) 16 u190 k191 ∧ u190.length = 16 := ⟨_, rfl⟩
         refine wp_cutq R197 ?_ ?_
         ·refine wp_block ?_
          obtain ⟨fu199, h195⟩ := loopO_some h195
          obtain ⟨I198, hI198⟩ : ∃ I : Nat → Act → World → Prop, I = fun fu a w => ∃ (u185 : List Int) (u189 : Int) (k186 : Chunk), loopN (fun s => spec_l02Block.s5  s.1 s.2) fu (u185, u189) = some o194 ∧ Kn [(7, (.pointer (some ⟨b4, 0, none⟩))), (11, (.pointer (some ⟨b120, 0, none⟩))), (12, (.int .i64 u134)), (14, (.int .i64 u189))] 105 a ∧ Sat [] w0 w [] [(1, k95), (5, k186)] ∧ Own (Lay.int .i64) 131 (some ⟨b120, 0, none⟩) 16 u185 k186 ∧ u185.length = 16 := ⟨_, rfl⟩
          refine wp_loop_ghost I198 fu199 ?_ ?_
          ·rw [hI198]
           exact ⟨u160, 0, _, h195, (hk.c 7 rfl (hk.c 11 rfl (hk.c 12 rfl (hk.c 14 rfl hk.k)))), (hs.pick [(1, 1), (5, 5)] rfl), o162, lh163⟩
          ·clear h195 hk hs
           intro fu199 a w hI0
           rw [hI198] at hI0
           obtain ⟨u185, u189, k186, hi, hk, hs, o187, lh188⟩ := hI0
           obtain ⟨x200, H, h201⟩ := loop_round hi
           try dsimp only at H
           unfold spec_l02Block.s5 at H
           apply wp_seq_k; intro K202 hK202
           apply wp_seq_k; intro K203 hK203
           apply wp_region_lit
           refine sm _ rfl hk rfl rfl rfl fun a hk => ?_
           refine sv (.bool (decide (u189 < 4))) hk rfl rfl rfl fun a hk => ?_
           show wpList _ _ _ [] _ _
           refine wpList_nil ?_
           refine hK203 _ _ ?_
           rcases cond_some H with ⟨c204, H⟩ | ⟨c204, H⟩
           ·have hk := hk.lit 70 c204 rfl
            refine cnd_true hk rfl rfl ?_
            refine wp_skip ?_
            refine hK202 _ _ ?_
            apply wp_seq_k; intro K205 hK205
            refine wp_block ?_
            apply wp_region_lit
            refine slna (k := 5) hs rfl o187 lh188 rfl hk rfl rfl rfl ag131 sz131 fun a hk => ?_
            refine sm _ rfl hk rfl rfl rfl fun a hk => ?_
            refine sm _ rfl hk rfl rfl rfl fun a hk => ?_
            refine sv (.int .i64 (w64 (u189 + 1))) hk rfl rfl rfl fun a hk => ?_
            refine sv (.int .i64 (Int.tmod (w64 (u189 + 1)) 4)) hk rfl rfl rfl fun a hk => ?_
            refine sv (.int .i64 (w64 (4 + (Int.tmod (w64 (u189 + 1)) 4)))) hk rfl rfl rfl fun a hk => ?_
            refine sm _ rfl hk rfl rfl rfl fun a hk => ?_
            refine sv (.int .i64 (w64 (u189 + 2))) hk rfl rfl rfl fun a hk => ?_
            refine sv (.int .i64 (Int.tmod (w64 (u189 + 2)) 4)) hk rfl rfl rfl fun a hk => ?_
            refine sv (.int .i64 (w64 (8 + (Int.tmod (w64 (u189 + 2)) 4)))) hk rfl rfl rfl fun a hk => ?_
            refine sm _ rfl hk rfl rfl rfl fun a hk => ?_
            refine sv (.int .i64 (w64 (u189 + 3))) hk rfl rfl rfl fun a hk => ?_
            refine sv (.int .i64 (Int.tmod (w64 (u189 + 3)) 4)) hk rfl rfl rfl fun a hk => ?_
            refine sv (.int .i64 (w64 (12 + (Int.tmod (w64 (u189 + 3)) 4)))) hk rfl rfl rfl fun a hk => ?_
            obtain ⟨y206, h207, H⟩ := bind_some H
            refine sc rfl en133 hk rfl rfl rfl (spec_l02Round_t _ u185 lh188 u189 (w64 (4 + (Int.tmod (w64 (u189 + 1)) 4))) (w64 (8 + (Int.tmod (w64 (u189 + 2)) 4))) (w64 (12 + (Int.tmod (w64 (u189 + 3)) 4))) _ h207) ?_
            rintro _ w ⟨rfl, lh208, hG⟩ a hk
            have hs := hs.call0 hG
            refine sswa 5 y206 hs rfl o187 lh188 lh208 rfl rfl hk rfl rfl rfl rfl sz131 fun k209 w a hk o210 hs => ?_
            show wpList _ _ _ [] _ _
            refine wpList_nil ?_
            refine hK205 _ _ ?_
            apply wp_region_lit
            refine sm _ rfl hk rfl rfl rfl fun a hk => ?_
            refine sv (.int .i64 (w64 (u189 + 1))) hk rfl rfl rfl fun a hk => ?_
            refine sa _ rfl hk rfl rfl rfl fun a hk => ?_
            show wpList _ _ _ [] _ _
            refine wpList_nil ?_
            obtain rfl := Option.some.inj H
            obtain ⟨m211, hmm211, h201⟩ := h201
            show ∃ n', n' < _ ∧ I198 n' _ _
            refine ⟨m211, hmm211, ?_⟩
            rw [hI198]
            exact ⟨y206, (w64 (u189 + 1)), _, h201, (hk.c 7 rfl (hk.c 11 rfl (hk.c 12 rfl (hk.c 14 rfl hk.k)))), (hs.pick [(1, 1), (5, 5)] rfl), o210, lh208⟩
           ·have hk := hk.lit 70 c204 rfl
            refine cnd_false hk rfl rfl ?_
            refine wp_exit ?_
            obtain rfl := Option.some.inj H
            show R197 _ _
            rw [hR197]
            exact ⟨u185, _, h201.symm, (hk.c 7 rfl (hk.c 11 rfl (hk.c 12 rfl hk.k))), (hs.pick [(1, 1), (5, 5)] rfl), o187, lh188⟩
         ·intro a w hR0
          rw [hR197] at hR0
          obtain ⟨u190, k191, rfl, hk, hs, o192, lh193⟩ := hR0
          have H := HL196
          try dsimp only at H
          refine hK150 _ _ ?_
          apply wp_region_lit
          refine sm _ rfl hk rfl rfl rfl fun a hk => ?_
          refine sv (.int .i64 (w64 (u134 + 1))) hk rfl rfl rfl fun a hk => ?_
          refine sa _ rfl hk rfl rfl rfl fun a hk => ?_
          show wpList _ _ _ [] _ _
          refine wpList_nil ?_
          obtain rfl := Option.some.inj H
          obtain ⟨m212, hmm212, h146⟩ := h146
          show ∃ n', n' < _ ∧ I143 n' _ _
          refine ⟨m212, hmm212, ?_⟩
          rw [hI143]
          exact ⟨u190, (w64 (u134 + 1)), _, h146, (hk.c 7 rfl (hk.c 11 rfl (hk.c 12 rfl hk.k))), (hs.pick [(1, 1), (5, 5)] rfl), o192, lh193⟩
       ·have hk := hk.lit 53 c149 rfl
        refine cnd_false hk rfl rfl ?_
        refine wp_exit ?_
        obtain rfl := Option.some.inj H
        show R142 _ _
        rw [hR142]
        exact ⟨u130, _, h146.symm, (hk.c 7 rfl (hk.c 11 rfl hk.k)), (hs.pick [(1, 1), (5, 5)] rfl), o132, lh133⟩
     ·intro a w hR0
      rw [hR142] at hR0
      obtain ⟨u135, k136, rfl, hk, hs, o137, lh138⟩ := hR0
      have H := HL141
      try dsimp only at H
      refine hK126 _ _ ?_
      have hs := hs.pick [(1, 1), (5, 5)] rfl
      apply wp_seq_k; intro K213 hK213
      apply wp_region_lit
      refine sbs0 9 (Lay.int .u8) hs rfl hk rfl rfl un22 sz5 fun b214 k215 w a hk o216 hs => ?_
      refine sa _ rfl hk rfl rfl rfl fun a hk => ?_
      show wpList _ _ _ [] _ _
      refine wpList_nil ?_
      refine hK213 _ _ ?_
      apply wp_seq_k; intro K217 hK217
      apply wp_seq_k; intro K218 hK218
      apply wp_region_lit
      refine sa _ rfl hk rfl rfl rfl fun a hk => ?_
      show wpList _ _ _ [] _ _
      refine wpList_nil ?_
      refine hK218 _ _ ?_
      obtain ⟨o236, h237, HL238⟩ := bind_some H
      clear H
      obtain ⟨R239, hR239⟩ : ∃ R : Act → World → Prop, R = fun a w => ∃ (u231 : List Int) (A234 : Option Addr) (p235 : Nat) (k232 : Chunk), o236 = .out u231 ∧ Kn [(15, (.slice A234 u231.length p235))] 105 a ∧ Sat [] w0 w [] [(9, k232)] ∧ Own (Lay.int .u8) 5 A234 p235 u231 k232 := ⟨_, rfl⟩
      refine wp_cutq R239 ?_ ?_
      ·refine wp_block ?_
       obtain ⟨fu241, h237⟩ := loopO_some h237
       obtain ⟨I240, hI240⟩ : ∃ I : Nat → Act → World → Prop, I = fun fu a w => ∃ (u226 : List Int) (u225 : Int) (A229 : Option Addr) (p230 : Nat) (k227 : Chunk), loopN (fun s => spec_l02Block.s6 u94 u135 s.1 s.2) fu (u226, u225) = some o236 ∧ Kn [(7, (.pointer (some ⟨b4, 0, none⟩))), (11, (.pointer (some ⟨b120, 0, none⟩))), (15, (.slice A229 u226.length p230)), (16, (.int .i64 u225))] 105 a ∧ Sat [] w0 w [] [(1, k95), (5, k136), (9, k227)] ∧ Own (Lay.int .u8) 5 A229 p230 u226 k227 := ⟨_, rfl⟩
       refine wp_loop_ghost I240 fu241 ?_ ?_
       ·rw [hI240]
        exact ⟨([] : List Int), 0, (some ⟨b214, 0, none⟩), 0, _, h237, (hk.c 7 rfl (hk.c 11 rfl (hk.c 15 rfl (hk.c 16 rfl hk.k)))), (hs.pick [(1, 1), (5, 5), (9, 9)] rfl), o216⟩
       ·clear h237 hk hs
        intro fu241 a w hI0
        rw [hI240] at hI0
        obtain ⟨u226, u225, A229, p230, k227, hi, hk, hs, o228⟩ := hI0
        obtain ⟨x242, H, h243⟩ := loop_round hi
        try dsimp only at H
        unfold spec_l02Block.s6 at H
        apply wp_seq_k; intro K244 hK244
        apply wp_seq_k; intro K245 hK245
        apply wp_region_lit
        refine sm _ rfl hk rfl rfl rfl fun a hk => ?_
        refine sv (.bool (decide (u225 < 16))) hk rfl rfl rfl fun a hk => ?_
        show wpList _ _ _ [] _ _
        refine wpList_nil ?_
        refine hK245 _ _ ?_
        rcases cond_some H with ⟨c246, H⟩ | ⟨c246, H⟩
        ·have hk := hk.lit 90 c246 rfl
         refine cnd_true hk rfl rfl ?_
         refine wp_skip ?_
         refine hK244 _ _ ?_
         have hs := hs.pick [(1, 1), (5, 5), (9, 9)] rfl
         apply wp_seq_k; intro K247 hK247
         refine wp_block ?_
         refine wp_region_tree (.q 0 (.q 1 (.q 2 (.q 3 (.alt 4 (.alt 5 (.alt 6 (.alt 7 (.alt 8 (.alt 9 (.last 10) .stop) .stop) .stop) .stop) .stop) .stop))))) mo (by kernel_rfl) (hs.pick [(1, 1), (5, 5)] rfl) fun _ => ?_
         have hs := hs.drew
         refine tqst (.slice A229 u226.length p230) hk rfl rfl rfl rfl (fun w hs => sm _ rfl hk rfl rfl rfl fun a hk => qe hk) fun a hk => ?_
         refine tqst (.int .i64 u225) hk rfl rfl rfl rfl (fun w hs => sm _ rfl hk rfl rfl rfl fun a hk => qe hk) fun a hk => ?_
         rcases ite_some H with ⟨c249, H⟩ | ⟨_, H⟩
         rotate_left
         ·cases H
         obtain ⟨b250, q251, hAc249⟩ := (o137.view).some_ u225 c249.1 (by rw [lh138]; exact c249.2)
         refine tqst (.pointer (some (padd (some ⟨b120, 0, none⟩) (u225.toNat * 1)))) hk rfl rfl rfl rfl (fun w hs => sia rfl hk rfl rfl rfl rfl un131 sz3 c249.1 c249.2 hAc249 fun a hk => qe hk) fun a hk => ?_
         obtain ⟨_, rfl, e252⟩ := (o137.view).at_ 0 u225 c249.1 (by rw [lh138]; exact c249.2)
         refine tqst (.int .i64 (u135.getD u225.toNat 0)) hk rfl rfl rfl rfl (fun w hs => sl (v := (.int .i64 (u135.getD u225.toNat 0))) rfl hk rfl rfl rfl ag3 ((e252 0 _ rfl).cell (hs.hasG (k := 5) rfl)) fun a hk => qe hk) fun a hk => ?_
         refine tsst hk rfl rfl (fun K_r248_4 hK_r248_4 w hF => ?_) wt_stop
         have hs := hs.f hF
         refine sm _ rfl hk rfl rfl rfl fun a hk => ?_
         refine se (hs.pick [(1, 1), (5, 5)] rfl) hk (hK_r248_4 _ _ ?_)
         refine tsst hk rfl rfl (fun K_r248_5 hK_r248_5 w hF => ?_) wt_stop
         have hs := hs.f hF
         rcases ite_some H with ⟨c253, H⟩ | ⟨_, H⟩
         rotate_left
         ·cases H
         obtain ⟨b254, q255, hAc253⟩ := (o96.view).some_ u225 c253.1 (by rw [lh97]; exact c253.2)
         refine sia rfl hk rfl rfl rfl rfl un131 sz3 c253.1 c253.2 hAc253 fun a hk => ?_
         refine se (hs.pick [(1, 1), (5, 5)] rfl) hk (hK_r248_5 _ _ ?_)
         refine tsst hk rfl rfl (fun K_r248_6 hK_r248_6 w hF => ?_) wt_stop
         have hs := hs.f hF
         obtain ⟨_, rfl, e256⟩ := (o96.view).at_ 0 u225 c253.1 (by rw [lh97]; exact c253.2)
         refine sl (v := (.int .i64 (u94.getD u225.toNat 0))) rfl hk rfl rfl rfl ag3 ((e256 0 _ rfl).cell (hs.hasG (k := 1) rfl)) fun a hk => ?_
         refine se (hs.pick [(1, 1), (5, 5)] rfl) hk (hK_r248_6 _ _ ?_)
         refine tsst hk rfl rfl (fun K_r248_7 hK_r248_7 w hF => ?_) wt_stop
         have hs := hs.f hF
         refine sv (.int .i64 (w64 ((u135.getD u225.toNat 0) + (u94.getD u225.toNat 0)))) hk rfl rfl rfl fun a hk => ?_
         refine se (hs.pick [(1, 1), (5, 5)] rfl) hk (hK_r248_7 _ _ ?_)
         refine tsst hk rfl rfl (fun K_r248_8 hK_r248_8 w hF => ?_) wt_stop
         have hs := hs.f hF
         refine sv (.int .i64 (IntKind.wrap .i64 ((BitVec.ofInt 64 (w64 ((u135.getD u225.toNat 0) + (u94.getD u225.toNat 0))) &&& BitVec.ofInt 64 4294967295).toNat : Int))) hk rfl rfl rfl fun a hk => ?_
         refine se (hs.pick [(1, 1), (5, 5)] rfl) hk (hK_r248_8 _ _ ?_)
         refine tsst hk rfl rfl (fun K_r248_9 hK_r248_9 w hF => ?_) wt_stop
         have hs := hs.f hF
         obtain ⟨y257, h258, H⟩ := bind_some H
         refine sc rfl en134 hk rfl rfl rfl (spec_l02Bytes_t _ A229 p230 u226 _ o228 (IntKind.wrap .i64 ((BitVec.ofInt 64 (w64 ((u135.getD u225.toNat 0) + (u94.getD u225.toNat 0))) &&& BitVec.ofInt 64 4294967295).toNat : Int)) ((hs.hand [(1, 9)] rfl).dpick [] rfl) _ h258) ?_
         rintro _ w ⟨A259, p260, k261, rfl, o262, hG⟩ a hk
         have hs := hs.back [(1, 9)] rfl hG [12] rfl
         refine se (hs.pick [(1, 1), (5, 5)] rfl) hk (hK_r248_9 _ _ ?_)
         refine tlst hk rfl rfl fun K_r248_10 hK_r248_10 w hF => ?_
         have hs := hs.f hF
         refine sa _ rfl hk rfl rfl rfl fun a hk => ?_
         refine se trivial hk (hK_r248_10 _ _ fun w hF => ?_)
         have hs := hs.f hF
         refine hK247 _ _ ?_
         apply wp_region_lit
         refine sm _ rfl hk rfl rfl rfl fun a hk => ?_
         refine sv (.int .i64 (w64 (u225 + 1))) hk rfl rfl rfl fun a hk => ?_
         refine sa _ rfl hk rfl rfl rfl fun a hk => ?_
         show wpList _ _ _ [] _ _
         refine wpList_nil ?_
         obtain rfl := Option.some.inj H
         obtain ⟨m263, hmm263, h243⟩ := h243
         show ∃ n', n' < _ ∧ I240 n' _ _
         refine ⟨m263, hmm263, ?_⟩
         rw [hI240]
         exact ⟨y257, (w64 (u225 + 1)), A259, p260, _, h243, (hk.c 7 rfl (hk.c 11 rfl (hk.c 15 rfl (hk.c 16 rfl hk.k)))), (hs.pick [(1, 1), (5, 5), (9, 12)] rfl), o262⟩
        ·have hk := hk.lit 90 c246 rfl
         refine cnd_false hk rfl rfl ?_
         refine wp_exit ?_
         obtain rfl := Option.some.inj H
         show R239 _ _
         rw [hR239]
         exact ⟨u226, A229, p230, _, h243.symm, (hk.c 15 rfl hk.k), (hs.pick [(9, 9)] rfl), o228⟩
      ·intro a w hR0
       rw [hR239] at hR0
       obtain ⟨u231, A234, p235, k232, rfl, hk, hs, o233⟩ := hR0
       have H := HL238
       try dsimp only at H
       refine hK217 _ _ ?_
       apply wp_seq_k; intro K264 hK264
       apply wp_region_lit
       refine sm _ rfl hk rfl rfl rfl fun a hk => ?_
       refine sbt (xs := u231) rfl hk rfl rfl rfl rfl un22 un5 un9 o233.view (hs.hasG (k := 9) rfl) fun a hk => ?_
       refine sa _ rfl hk rfl rfl rfl fun a hk => ?_
       show wpList _ _ _ [] _ _
       refine wpList_nil ?_
       refine hK264 _ _ ?_
       have hs := hs.pick [] rfl
       refine wp_ret ?_
       obtain rfl := Option.some.inj H
       exact fin hk _ [(.string (strOfNums u231))] rfl ⟨rfl, trivial⟩ ⟨rfl, (hs.pick [] rfl).dnil⟩

noncomputable def spec_l02Xor.s0 (x0 : ByteArray) (x1 : ByteArray) (x2 : Int) (x3 : ByteArray) (u17 : List Int) (u15 : ByteArray) (u16 : Int) : Option (((List Int) × ByteArray × Int) ⊕ Ex ((List Int)) (ByteArray)) :=
  (bif (decide (u16 < (x3.size : Int))) then (((bif ((Int.tmod u16 64) == 0) then ((spec_l02Block.f x0 x1 (w64 (x2 + (IntKind.wrap .i64 (Int.tdiv u16 64))))).bind fun y48 => (some y48)) else (some u15)) : Option (ByteArray)).bind fun u42 => (if 0 ≤ u16 ∧ u16 < (x3.size : Int) then (if 0 ≤ (Int.tmod u16 64) ∧ (Int.tmod u16 64) < (u42.size : Int) then (if u17.length + ([(IntKind.wrap .u8 ((BitVec.ofInt 8 (byteAt x3 u16) ^^^ BitVec.ofInt 8 (byteAt u42 (Int.tmod u16 64))).toNat : Int))]).length ≤ 1073741824 then (some (.inl ((u17 ++ ([(IntKind.wrap .u8 ((BitVec.ofInt 8 (byteAt x3 u16) ^^^ BitVec.ofInt 8 (byteAt u42 (Int.tmod u16 64))).toNat : Int))])), u42, (w64 (u16 + 1))))) else none) else none) else none)) else (some (.inr (.out u17))))
noncomputable def spec_l02Xor.f (x0 : ByteArray) (x1 : ByteArray) (x2 : Int) (x3 : ByteArray) : Option (ByteArray) :=
  ((loopO (fun s => spec_l02Xor.s0 x0 x1 x2 x3 s.1 s.2.1 s.2.2) (([] : List Int), (⟨#[]⟩ : ByteArray), 0)).bind fun o => match o with | .out u22 => (some (strOfNums u22)) | .ret r => (some r))
set_option maxRecDepth 100000 in
set_option maxHeartbeats 0 in
theorem spec_l02Xor_t (w0 : World) (x0 : ByteArray) (x1 : ByteArray) (x2 : Int) (x3 : ByteArray) (r : ByteArray) (H : spec_l02Xor.f x0 x1 x2 x3 = some r) :
    Calls Try.prog 63 #[.string x0, .string x1, .int .i64 x2, .string x3] w0 (Ret (fun v w => v = .string r ∧ Sat [] w0 w [] [])) := by
  have hs : Sat [] w0 w0 [] [] := Sat.init w0 [] [] (by simp) (by simp) List.nodup_nil (by simp [blks])
  unfold spec_l02Xor.f at H
  refine enter Try.func63 rfl Try.ntmps63 rfl fun a hk => ?_
  apply wp_seq_k; intro K1 hK1
  apply wp_region_lit
  refine sa _ rfl hk rfl rfl rfl fun a hk => ?_
  show wpList _ _ _ [] _ _
  refine wpList_nil ?_
  refine hK1 _ _ ?_
  apply wp_seq_k; intro K2 hK2
  apply wp_region_lit
  refine sbs0 1 (Lay.int .u8) hs rfl hk rfl rfl un22 sz5 fun b3 k4 w a hk o5 hs => ?_
  refine sa _ rfl hk rfl rfl rfl fun a hk => ?_
  show wpList _ _ _ [] _ _
  refine wpList_nil ?_
  refine hK2 _ _ ?_
  apply wp_seq_k; intro K6 hK6
  apply wp_region_lit
  refine sa _ rfl hk rfl rfl rfl fun a hk => ?_
  show wpList _ _ _ [] _ _
  refine wpList_nil ?_
  refine hK6 _ _ ?_
  apply wp_seq_k; intro K7 hK7
  apply wp_seq_k; intro K8 hK8
  apply wp_region_lit
  refine sa _ rfl hk rfl rfl rfl fun a hk => ?_
  show wpList _ _ _ [] _ _
  refine wpList_nil ?_
  refine hK8 _ _ ?_
  have hs := hs.pick [(1, 1)] rfl
  obtain ⟨o27, h28, HL29⟩ := bind_some H
  clear H
  obtain ⟨R30, hR30⟩ : ∃ R : Act → World → Prop, R = fun a w => ∃ (u22 : List Int) (A25 : Option Addr) (p26 : Nat) (k23 : Chunk), o27 = .out u22 ∧ Kn [(9, (.slice A25 u22.length p26))] 42 a ∧ Sat [] w0 w [] [(1, k23)] ∧ Own (Lay.int .u8) 5 A25 p26 u22 k23 := ⟨_, rfl⟩
  refine wp_cutq R30 ?_ ?_
  ·refine wp_block ?_
   obtain ⟨fu32, h28⟩ := loopO_some h28
   obtain ⟨I31, hI31⟩ : ∃ I : Nat → Act → World → Prop, I = fun fu a w => ∃ (u17 : List Int) (u15 : ByteArray) (u16 : Int) (A20 : Option Addr) (p21 : Nat) (k18 : Chunk), loopN (fun s => spec_l02Xor.s0 x0 x1 x2 x3 s.1 s.2.1 s.2.2) fu (u17, u15, u16) = some o27 ∧ Kn [(0, (.string x0)), (1, (.string x1)), (2, (.int .i64 x2)), (3, (.string x3)), (9, (.slice A20 u17.length p21)), (10, (.string u15)), (11, (.int .i64 u16))] 42 a ∧ Sat [] w0 w [] [(1, k18)] ∧ Own (Lay.int .u8) 5 A20 p21 u17 k18 := ⟨_, rfl⟩
   refine wp_loop_ghost I31 fu32 ?_ ?_
   ·rw [hI31]
    exact ⟨([] : List Int), (⟨#[]⟩ : ByteArray), 0, (some ⟨b3, 0, none⟩), 0, _, h28, (hk.c 0 rfl (hk.c 1 rfl (hk.c 2 rfl (hk.c 3 rfl (hk.c 9 rfl (hk.c 10 rfl (hk.c 11 rfl hk.k))))))), (hs.pick [(1, 1)] rfl), o5⟩
   ·clear h28 hk hs
    intro fu32 a w hI0
    rw [hI31] at hI0
    obtain ⟨u17, u15, u16, A20, p21, k18, hi, hk, hs, o19⟩ := hI0
    obtain ⟨x33, H, h34⟩ := loop_round hi
    try dsimp only at H
    unfold spec_l02Xor.s0 at H
    apply wp_seq_k; intro K35 hK35
    apply wp_seq_k; intro K36 hK36
    apply wp_region_lit
    refine sm _ rfl hk rfl rfl rfl fun a hk => ?_
    refine sm _ rfl hk rfl rfl rfl fun a hk => ?_
    refine sles rfl hk rfl rfl rfl un9 fun a hk => ?_
    refine sv (.bool (decide (u16 < (x3.size : Int)))) hk rfl rfl rfl fun a hk => ?_
    show wpList _ _ _ [] _ _
    refine wpList_nil ?_
    refine hK36 _ _ ?_
    rcases cond_some H with ⟨c37, H⟩ | ⟨c37, H⟩
    ·have hk := hk.lit 16 c37 rfl
     refine cnd_true hk rfl rfl ?_
     refine wp_skip ?_
     refine hK35 _ _ ?_
     apply wp_seq_k; intro K38 hK38
     refine wp_block ?_
     apply wp_seq_k; intro K39 hK39
     apply wp_seq_k; intro K40 hK40
     apply wp_region_lit
     refine sm _ rfl hk rfl rfl rfl fun a hk => ?_
     refine sv (.int .i64 (Int.tmod u16 64)) hk rfl rfl rfl fun a hk => ?_
     refine sv (.bool ((Int.tmod u16 64) == 0)) hk rfl rfl rfl fun a hk => ?_
     show wpList _ _ _ [] _ _
     refine wpList_nil ?_
     refine hK40 _ _ ?_
     obtain ⟨o43, h44, HL45⟩ := bind_some H
     clear H
     obtain ⟨R46, hR46⟩ : ∃ R : Act → World → Prop, R = fun a w => ∃ (u42 : ByteArray), u42 = o43 ∧ Kn [(0, (.string x0)), (1, (.string x1)), (2, (.int .i64 x2)), (3, (.string x3)), (9, (.slice A20 u17.length p21)), (10, (.string u42)), (11, (.int .i64 u16))] 42 a ∧ Sat [] w0 w [] [(1, k18)] := ⟨_, rfl⟩
     refine wp_cutq R46 ?_ ?_
     ·have H := h44
      rcases cond_some H with ⟨c47, H⟩ | ⟨c47, H⟩
      ·have hk := hk.lit 21 c47 rfl
       refine cnd_true hk rfl rfl ?_
       apply wp_region_lit
       refine sm _ rfl hk rfl rfl rfl fun a hk => ?_
       refine sm _ rfl hk rfl rfl rfl fun a hk => ?_
       refine sm _ rfl hk rfl rfl rfl fun a hk => ?_
       refine sm _ rfl hk rfl rfl rfl fun a hk => ?_
       refine sv (.int .i64 (IntKind.wrap .i64 (Int.tdiv u16 64))) hk rfl rfl rfl fun a hk => ?_
       refine sv (.int .i64 (w64 (x2 + (IntKind.wrap .i64 (Int.tdiv u16 64))))) hk rfl rfl rfl fun a hk => ?_
       obtain ⟨y48, h49, H⟩ := bind_some H
       refine sc rfl en108 hk rfl rfl rfl (spec_l02Block_t _ x0 x1 (w64 (x2 + (IntKind.wrap .i64 (Int.tdiv u16 64)))) _ h49) ?_
       rintro _ w ⟨rfl, hG⟩ a hk
       have hs := hs.call0 hG
       refine sa _ rfl hk rfl rfl rfl fun a hk => ?_
       show wpList _ _ _ [] _ _
       refine wpList_nil ?_
       obtain rfl := Option.some.inj H
       show R46 _ _
       rw [hR46]
       exact ⟨y48, rfl, (hk.c 0 rfl (hk.c 1 rfl (hk.c 2 rfl (hk.c 3 rfl (hk.c 9 rfl (hk.c 10 rfl (hk.c 11 rfl hk.k))))))), (hs.pick [(1, 1)] rfl)⟩
      ·have hk := hk.lit 21 c47 rfl
       refine cnd_false hk rfl rfl ?_
       refine wp_skip ?_
       obtain rfl := Option.some.inj H
       show R46 _ _
       rw [hR46]
       exact ⟨u15, rfl, (hk.c 0 rfl (hk.c 1 rfl (hk.c 2 rfl (hk.c 3 rfl (hk.c 9 rfl (hk.c 10 rfl (hk.c 11 rfl hk.k))))))), (hs.pick [(1, 1)] rfl)⟩
     ·intro a w hR0
      rw [hR46] at hR0
      obtain ⟨u42, rfl, hk, hs⟩ := hR0
      have H := HL45
      try dsimp only at H
      refine hK39 _ _ ?_
      have hs := hs.pick [(1, 1)] rfl
      refine wp_region_tree (.q 0 (.q 1 (.q 2 (.q 3 (.q 4 (.alt 5 (.alt 6 (.alt 7 (.alt 8 (.alt 9 (.alt 10 (.last 11) .stop) .stop) .stop) .stop) .stop) .stop)))))) mo (by kernel_rfl) (hs.pick [] rfl) fun _ => ?_
      have hs := hs.drew
      refine tqst (.slice A20 u17.length p21) hk rfl rfl rfl rfl (fun w hs => sm _ rfl hk rfl rfl rfl fun a hk => qe hk) fun a hk => ?_
      refine tqst (.string x3) hk rfl rfl rfl rfl (fun w hs => sm _ rfl hk rfl rfl rfl fun a hk => qe hk) fun a hk => ?_
      refine tqst (.int .i64 u16) hk rfl rfl rfl rfl (fun w hs => sm _ rfl hk rfl rfl rfl fun a hk => qe hk) fun a hk => ?_
      rcases ite_some H with ⟨c51, H⟩ | ⟨_, H⟩
      rotate_left
      ·cases H
      refine tqst (.int .u8 (byteAt x3 u16)) hk rfl rfl rfl rfl (fun w hs => six rfl hk rfl rfl rfl rfl un9 c51.1 c51.2 fun a hk => qe hk) fun a hk => ?_
      refine tqst (.string u42) hk rfl rfl rfl rfl (fun w hs => sm _ rfl hk rfl rfl rfl fun a hk => qe hk) fun a hk => ?_
      refine tsst hk rfl rfl (fun K_r50_5 hK_r50_5 w hF => ?_) wt_stop
      have hs := hs.f hF
      refine sm _ rfl hk rfl rfl rfl fun a hk => ?_
      refine se (hs.pick [] rfl) hk (hK_r50_5 _ _ ?_)
      refine tsst hk rfl rfl (fun K_r50_6 hK_r50_6 w hF => ?_) wt_stop
      have hs := hs.f hF
      refine sv (.int .i64 (Int.tmod u16 64)) hk rfl rfl rfl fun a hk => ?_
      refine se (hs.pick [] rfl) hk (hK_r50_6 _ _ ?_)
      refine tsst hk rfl rfl (fun K_r50_7 hK_r50_7 w hF => ?_) wt_stop
      have hs := hs.f hF
      rcases ite_some H with ⟨c52, H⟩ | ⟨_, H⟩
      rotate_left
      ·cases H
      refine six rfl hk rfl rfl rfl rfl un9 c52.1 c52.2 fun a hk => ?_
      refine se (hs.pick [] rfl) hk (hK_r50_7 _ _ ?_)
      refine tsst hk rfl rfl (fun K_r50_8 hK_r50_8 w hF => ?_) wt_stop
      have hs := hs.f hF
      refine sv (.int .u8 (IntKind.wrap .u8 ((BitVec.ofInt 8 (byteAt x3 u16) ^^^ BitVec.ofInt 8 (byteAt u42 (Int.tmod u16 64))).toNat : Int))) hk rfl rfl rfl fun a hk => ?_
      refine se (hs.pick [] rfl) hk (hK_r50_8 _ _ ?_)
      refine tsst hk rfl rfl (fun K_r50_9 hK_r50_9 w hF => ?_) wt_stop
      have hs := hs.f hF
      refine sbs (L := (Lay.int .u8)) (pv := [(0, (.int .u8 (IntKind.wrap .u8 ((BitVec.ofInt 8 (byteAt x3 u16) ^^^ BitVec.ofInt 8 (byteAt u42 (Int.tmod u16 64))).toNat : Int))))]) (xs := [(IntKind.wrap .u8 ((BitVec.ofInt 8 (byteAt x3 u16) ^^^ BitVec.ofInt 8 (byteAt u42 (Int.tmod u16 64))).toNat : Int))]) (ess := [[.int .u8 (IntKind.wrap .u8 ((BitVec.ofInt 8 (byteAt x3 u16) ^^^ BitVec.ofInt 8 (byteAt u42 (Int.tmod u16 64))).toNat : Int))]]) 5 hs rfl hk rfl rfl rfl un22 (bs5_1 (IntKind.wrap .u8 ((BitVec.ofInt 8 (byteAt x3 u16) ^^^ BitVec.ofInt 8 (byteAt u42 (Int.tmod u16 64))).toNat : Int))) (AllOwn.cons0 ⟨rfl, rfl⟩ AllOwn.nil) rfl rfl rfl fun b53 k54 w a hk o55 hs => ?_
      refine se (hs.pick [] rfl) hk (hK_r50_9 _ _ ?_)
      refine tsst hk rfl rfl (fun K_r50_10 hK_r50_10 w hF => ?_) wt_stop
      have hs := hs.f hF
      rcases ite_some H with ⟨c56, H⟩ | ⟨_, H⟩
      rotate_left
      ·cases H
      refine sap 1 (xs := u17) (ys := [(IntKind.wrap .u8 ((BitVec.ofInt 8 (byteAt x3 u16) ^^^ BitVec.ofInt 8 (byteAt u42 (Int.tmod u16 64))).toNat : Int))]) (flat_flat : ((Lay.int .u8)).Flat) hs rfl o19 o55.view (hs.hasG (k := 5) rfl) rfl hk rfl rfl rfl rfl rfl rfl un22 mk5 rfl rfl rfl c56 fun A57 p58 k59 w a hk o60 hs => ?_
      refine se (hs.pick [] rfl) hk (hK_r50_10 _ _ ?_)
      refine tlst hk rfl rfl fun K_r50_11 hK_r50_11 w hF => ?_
      have hs := hs.f hF
      refine sa _ rfl hk rfl rfl rfl fun a hk => ?_
      refine se trivial hk (hK_r50_11 _ _ fun w hF => ?_)
      have hs := hs.f hF
      refine hK38 _ _ ?_
      apply wp_region_lit
      refine sm _ rfl hk rfl rfl rfl fun a hk => ?_
      refine sv (.int .i64 (w64 (u16 + 1))) hk rfl rfl rfl fun a hk => ?_
      refine sa _ rfl hk rfl rfl rfl fun a hk => ?_
      show wpList _ _ _ [] _ _
      refine wpList_nil ?_
      obtain rfl := Option.some.inj H
      obtain ⟨m61, hmm61, h34⟩ := h34
      show ∃ n', n' < _ ∧ I31 n' _ _
      refine ⟨m61, hmm61, ?_⟩
      rw [hI31]
      exact ⟨(u17 ++ ([(IntKind.wrap .u8 ((BitVec.ofInt 8 (byteAt x3 u16) ^^^ BitVec.ofInt 8 (byteAt u42 (Int.tmod u16 64))).toNat : Int))])), u42, (w64 (u16 + 1)), A57, p58, _, h34, (hk.c 0 rfl (hk.c 1 rfl (hk.c 2 rfl (hk.c 3 rfl (hk.c 9 rfl (hk.c 10 rfl (hk.c 11 rfl hk.k))))))), (hs.pick [(1, 1)] rfl), o60⟩
    ·have hk := hk.lit 16 c37 rfl
     refine cnd_false hk rfl rfl ?_
     refine wp_exit ?_
     obtain rfl := Option.some.inj H
     show R30 _ _
     rw [hR30]
     exact ⟨u17, A20, p21, _, h34.symm, (hk.c 9 rfl hk.k), (hs.pick [(1, 1)] rfl), o19⟩
  ·intro a w hR0
   rw [hR30] at hR0
   obtain ⟨u22, A25, p26, k23, rfl, hk, hs, o24⟩ := hR0
   have H := HL29
   try dsimp only at H
   refine hK7 _ _ ?_
   apply wp_seq_k; intro K62 hK62
   apply wp_region_lit
   refine sm _ rfl hk rfl rfl rfl fun a hk => ?_
   refine sbt (xs := u22) rfl hk rfl rfl rfl rfl un22 un5 un9 o24.view (hs.hasG (k := 1) rfl) fun a hk => ?_
   refine sa _ rfl hk rfl rfl rfl fun a hk => ?_
   show wpList _ _ _ [] _ _
   refine wpList_nil ?_
   refine hK62 _ _ ?_
   refine wp_ret ?_
   obtain rfl := Option.some.inj H
   exact fin hk _ [(.string (strOfNums u22))] rfl ⟨rfl, trivial⟩ ⟨rfl, (hs.pick [] rfl).dnil⟩

noncomputable def spec_ChaXor.f (x0 : ByteArray) (x1 : ByteArray) (x2 : Int) (x3 : ByteArray) : Option (ByteArray × Int) :=
  (((bif (decide ((x0.size : Int) > 65536)) then (some true) else (bif (decide ((x1.size : Int) > 65536)) then (some true) else (some (decide ((x3.size : Int) > 65536))))) : Option (Bool)).bind fun u5 => (bif u5 then (some ((⟨#[]⟩ : ByteArray), 2)) else ((spec_l02Ask.f x0 x1 x2).bind fun y16 => (bif (y16 != 0) then (some ((⟨#[]⟩ : ByteArray), y16)) else ((spec_l02Xor.f x0 x1 x2 x3).bind fun y22 => (some (y22, 0)))))))
set_option maxRecDepth 100000 in
set_option maxHeartbeats 0 in
theorem spec_ChaXor_t (w0 : World) (x0 : ByteArray) (x1 : ByteArray) (x2 : Int) (x3 : ByteArray) (r : ByteArray × Int) (H : spec_ChaXor.f x0 x1 x2 x3 = some r) :
    Calls Try.prog 25 #[.string x0, .string x1, .int .i64 x2, .string x3] w0 (Ret (fun v w => v = .tuple #[.string r.1, .int .i64 r.2] ∧ Sat [] w0 w [] [])) := by
  have hs : Sat [] w0 w0 [] [] := Sat.init w0 [] [] (by simp) (by simp) List.nodup_nil (by simp [blks])
  unfold spec_ChaXor.f at H
  refine enter Try.func25 rfl Try.ntmps25 rfl fun a hk => ?_
  apply wp_seq_k; intro K1 hK1
  apply wp_region_lit
  refine sa _ rfl hk rfl rfl rfl fun a hk => ?_
  refine sa _ rfl hk rfl rfl rfl fun a hk => ?_
  show wpList _ _ _ [] _ _
  refine wpList_nil ?_
  refine hK1 _ _ ?_
  apply wp_seq_k; intro K2 hK2
  apply wp_seq_k; intro K3 hK3
  obtain ⟨o6, h7, HL8⟩ := bind_some H
  clear H
  obtain ⟨R9, hR9⟩ : ∃ R : Act → World → Prop, R = fun a w => ∃ (u5 : Bool), u5 = o6 ∧ Kn [(0, (.string x0)), (1, (.string x1)), (2, (.int .i64 x2)), (3, (.string x3)), (23, (.bool u5))] 36 a ∧ Sat [] w0 w [] [] := ⟨_, rfl⟩
  refine wp_cutq R9 ?_ ?_
  ·have H := h7
   apply wp_region_lit
   refine sm _ rfl hk rfl rfl rfl fun a hk => ?_
   refine sles rfl hk rfl rfl rfl un9 fun a hk => ?_
   refine sv (.bool (decide ((x0.size : Int) > 65536))) hk rfl rfl rfl fun a hk => ?_
   refine sm _ rfl hk rfl rfl rfl fun a hk => ?_
   rcases cond_some H with ⟨c10, H⟩ | ⟨c10, H⟩
   ·have hk := hk.lit 14 c10 rfl
    refine sk hk rfl rfl rfl fun a hk => ?_
    refine sk hk rfl rfl rfl fun a hk => ?_
    refine sk hk rfl rfl rfl fun a hk => ?_
    refine sv (.bool true) hk rfl rfl rfl fun a hk => ?_
    refine sm _ rfl hk rfl rfl rfl fun a hk => ?_
    refine sk hk rfl rfl rfl fun a hk => ?_
    refine sk hk rfl rfl rfl fun a hk => ?_
    refine sk hk rfl rfl rfl fun a hk => ?_
    refine sv (.bool true) hk rfl rfl rfl fun a hk => ?_
    show wpList _ _ _ [] _ _
    refine wpList_nil ?_
    obtain rfl := Option.some.inj H
    show R9 _ _
    rw [hR9]
    exact ⟨true, rfl, (hk.c 0 rfl (hk.c 1 rfl (hk.c 2 rfl (hk.c 3 rfl (hk.c 23 rfl hk.k))))), (hs.pick [] rfl)⟩
   ·have hk := hk.lit 14 c10 rfl
    refine sm _ rfl hk rfl rfl rfl fun a hk => ?_
    refine sles rfl hk rfl rfl rfl un9 fun a hk => ?_
    refine sv (.bool (decide ((x1.size : Int) > 65536))) hk rfl rfl rfl fun a hk => ?_
    refine sv (.bool (decide ((x1.size : Int) > 65536))) hk rfl rfl rfl fun a hk => ?_
    refine sm _ rfl hk rfl rfl rfl fun a hk => ?_
    rcases cond_some H with ⟨c11, H⟩ | ⟨c11, H⟩
    ·have hk := hk.lit 19 c11 rfl
     refine sk hk rfl rfl rfl fun a hk => ?_
     refine sk hk rfl rfl rfl fun a hk => ?_
     refine sk hk rfl rfl rfl fun a hk => ?_
     refine sv (.bool true) hk rfl rfl rfl fun a hk => ?_
     show wpList _ _ _ [] _ _
     refine wpList_nil ?_
     obtain rfl := Option.some.inj H
     show R9 _ _
     rw [hR9]
     exact ⟨true, rfl, (hk.c 0 rfl (hk.c 1 rfl (hk.c 2 rfl (hk.c 3 rfl (hk.c 23 rfl hk.k))))), (hs.pick [] rfl)⟩
    ·have hk := hk.lit 19 c11 rfl
     refine sm _ rfl hk rfl rfl rfl fun a hk => ?_
     refine sles rfl hk rfl rfl rfl un9 fun a hk => ?_
     refine sv (.bool (decide ((x3.size : Int) > 65536))) hk rfl rfl rfl fun a hk => ?_
     refine sv (.bool (decide ((x3.size : Int) > 65536))) hk rfl rfl rfl fun a hk => ?_
     show wpList _ _ _ [] _ _
     refine wpList_nil ?_
     obtain rfl := Option.some.inj H
     show R9 _ _
     rw [hR9]
     exact ⟨(decide ((x3.size : Int) > 65536)), rfl, (hk.c 0 rfl (hk.c 1 rfl (hk.c 2 rfl (hk.c 3 rfl (hk.c 23 rfl hk.k))))), (hs.pick [] rfl)⟩
  ·intro a w hR0
   rw [hR9] at hR0
   obtain ⟨u5, rfl, hk, hs⟩ := hR0
   have H := HL8
   try dsimp only at H
   refine hK3 _ _ ?_
   rcases cond_some H with ⟨c12, H⟩ | ⟨c12, H⟩
   ·have hk := hk.lit 23 c12 rfl
    refine cnd_true hk rfl rfl ?_
    apply wp_seq_k; intro K13 hK13
    apply wp_region_lit
    refine sa _ rfl hk rfl rfl rfl fun a hk => ?_
    refine sa _ rfl hk rfl rfl rfl fun a hk => ?_
    show wpList _ _ _ [] _ _
    refine wpList_nil ?_
    refine hK13 _ _ ?_
    refine wp_ret ?_
    obtain rfl := Option.some.inj H
    exact fin hk _ [(.string (⟨#[]⟩ : ByteArray)), (.int .i64 2)] rfl ⟨rfl, ⟨rfl, trivial⟩⟩ ⟨rfl, (hs.pick [] rfl).dnil⟩
   ·have hk := hk.lit 23 c12 rfl
    refine cnd_false hk rfl rfl ?_
    refine wp_skip ?_
    refine hK2 _ _ ?_
    apply wp_seq_k; intro K14 hK14
    apply wp_seq_k; intro K15 hK15
    apply wp_region_lit
    refine sm _ rfl hk rfl rfl rfl fun a hk => ?_
    refine sm _ rfl hk rfl rfl rfl fun a hk => ?_
    refine sm _ rfl hk rfl rfl rfl fun a hk => ?_
    obtain ⟨y16, h17, H⟩ := bind_some H
    refine sc rfl en62 hk rfl rfl rfl (spec_l02Ask_t _ x0 x1 x2 _ h17) ?_
    rintro _ w ⟨rfl, hG⟩ a hk
    have hs := hs.call0 hG
    refine sa _ rfl hk rfl rfl rfl fun a hk => ?_
    show wpList _ _ _ [] _ _
    refine wpList_nil ?_
    refine hK15 _ _ ?_
    have hs := hs.pick [] rfl
    apply wp_seq_k; intro K18 hK18
    apply wp_region_lit
    refine sm _ rfl hk rfl rfl rfl fun a hk => ?_
    refine sv (.bool (y16 != 0)) hk rfl rfl rfl fun a hk => ?_
    show wpList _ _ _ [] _ _
    refine wpList_nil ?_
    refine hK18 _ _ ?_
    rcases cond_some H with ⟨c19, H⟩ | ⟨c19, H⟩
    ·have hk := hk.lit 29 c19 rfl
     refine cnd_true hk rfl rfl ?_
     apply wp_seq_k; intro K20 hK20
     apply wp_region_lit
     refine sm _ rfl hk rfl rfl rfl fun a hk => ?_
     refine sa _ rfl hk rfl rfl rfl fun a hk => ?_
     refine sa _ rfl hk rfl rfl rfl fun a hk => ?_
     show wpList _ _ _ [] _ _
     refine wpList_nil ?_
     refine hK20 _ _ ?_
     refine wp_ret ?_
     obtain rfl := Option.some.inj H
     exact fin hk _ [(.string (⟨#[]⟩ : ByteArray)), (.int .i64 y16)] rfl ⟨rfl, ⟨rfl, trivial⟩⟩ ⟨rfl, (hs.pick [] rfl).dnil⟩
    ·have hk := hk.lit 29 c19 rfl
     refine cnd_false hk rfl rfl ?_
     refine wp_skip ?_
     refine hK14 _ _ ?_
     apply wp_seq_k; intro K21 hK21
     apply wp_region_lit
     refine sm _ rfl hk rfl rfl rfl fun a hk => ?_
     refine sm _ rfl hk rfl rfl rfl fun a hk => ?_
     refine sm _ rfl hk rfl rfl rfl fun a hk => ?_
     refine sm _ rfl hk rfl rfl rfl fun a hk => ?_
     obtain ⟨y22, h23, H⟩ := bind_some H
     refine sc rfl en63 hk rfl rfl rfl (spec_l02Xor_t _ x0 x1 x2 x3 _ h23) ?_
     rintro _ w ⟨rfl, hG⟩ a hk
     have hs := hs.call0 hG
     refine sa _ rfl hk rfl rfl rfl fun a hk => ?_
     refine sa _ rfl hk rfl rfl rfl fun a hk => ?_
     show wpList _ _ _ [] _ _
     refine wpList_nil ?_
     refine hK21 _ _ ?_
     refine wp_ret ?_
     obtain rfl := Option.some.inj H
     exact fin hk _ [(.string y22), (.int .i64 0)] rfl ⟨rfl, ⟨rfl, trivial⟩⟩ ⟨rfl, (hs.pick [] rfl).dnil⟩

noncomputable def impl_ChaBlock.f (x0 : ByteArray) (x1 : ByteArray) (x2 : Int) : Option (ByteArray × Int) :=
  ((impl_streamCode.f x0 x1 x2).bind fun y4 => (bif (y4 != 0) then (some ((⟨#[]⟩ : ByteArray), y4)) else ((impl_stream.f x0 x1 x2).bind fun y10 => (some (y10, 0)))))
set_option maxRecDepth 100000 in
set_option maxHeartbeats 0 in
theorem impl_ChaBlock_t (w0 : World) (x0 : ByteArray) (x1 : ByteArray) (x2 : Int) (r : ByteArray × Int) (H : impl_ChaBlock.f x0 x1 x2 = some r) :
    Calls Try.prog 26 #[.string x0, .string x1, .int .i64 x2] w0 (Ret (fun v w => v = .tuple #[.string r.1, .int .i64 r.2] ∧ Sat [] w0 w [] [])) := by
  have hs : Sat [] w0 w0 [] [] := Sat.init w0 [] [] (by simp) (by simp) List.nodup_nil (by simp [blks])
  unfold impl_ChaBlock.f at H
  refine enter Try.func26 rfl Try.ntmps26 rfl fun a hk => ?_
  apply wp_seq_k; intro K1 hK1
  apply wp_region_lit
  refine sa _ rfl hk rfl rfl rfl fun a hk => ?_
  refine sa _ rfl hk rfl rfl rfl fun a hk => ?_
  show wpList _ _ _ [] _ _
  refine wpList_nil ?_
  refine hK1 _ _ ?_
  apply wp_seq_k; intro K2 hK2
  apply wp_seq_k; intro K3 hK3
  apply wp_region_lit
  refine sm _ rfl hk rfl rfl rfl fun a hk => ?_
  refine sm _ rfl hk rfl rfl rfl fun a hk => ?_
  refine sm _ rfl hk rfl rfl rfl fun a hk => ?_
  obtain ⟨y4, h5, H⟩ := bind_some H
  refine sc rfl en60 hk rfl rfl rfl (impl_streamCode_t _ x0 x1 x2 _ h5) ?_
  rintro _ w ⟨rfl, hG⟩ a hk
  have hs := hs.call0 hG
  refine sa _ rfl hk rfl rfl rfl fun a hk => ?_
  show wpList _ _ _ [] _ _
  refine wpList_nil ?_
  refine hK3 _ _ ?_
  apply wp_seq_k; intro K6 hK6
  apply wp_region_lit
  refine sm _ rfl hk rfl rfl rfl fun a hk => ?_
  refine sv (.bool (y4 != 0)) hk rfl rfl rfl fun a hk => ?_
  show wpList _ _ _ [] _ _
  refine wpList_nil ?_
  refine hK6 _ _ ?_
  rcases cond_some H with ⟨c7, H⟩ | ⟨c7, H⟩
  ·have hk := hk.lit 14 c7 rfl
   refine cnd_true hk rfl rfl ?_
   apply wp_seq_k; intro K8 hK8
   apply wp_region_lit
   refine sm _ rfl hk rfl rfl rfl fun a hk => ?_
   refine sa _ rfl hk rfl rfl rfl fun a hk => ?_
   refine sa _ rfl hk rfl rfl rfl fun a hk => ?_
   show wpList _ _ _ [] _ _
   refine wpList_nil ?_
   refine hK8 _ _ ?_
   have hs := hs.pick [] rfl
   refine wp_ret ?_
   obtain rfl := Option.some.inj H
   exact fin hk _ [(.string (⟨#[]⟩ : ByteArray)), (.int .i64 y4)] rfl ⟨rfl, ⟨rfl, trivial⟩⟩ ⟨rfl, (hs.pick [] rfl).dnil⟩
  ·have hk := hk.lit 14 c7 rfl
   refine cnd_false hk rfl rfl ?_
   refine wp_skip ?_
   refine hK2 _ _ ?_
   have hs := hs.pick [] rfl
   apply wp_seq_k; intro K9 hK9
   apply wp_region_lit
   refine sm _ rfl hk rfl rfl rfl fun a hk => ?_
   refine sm _ rfl hk rfl rfl rfl fun a hk => ?_
   refine sm _ rfl hk rfl rfl rfl fun a hk => ?_
   obtain ⟨y10, h11, H⟩ := bind_some H
   refine sc rfl en64 hk rfl rfl rfl (impl_stream_t _ x0 x1 x2 _ h11) ?_
   rintro _ w ⟨rfl, hG⟩ a hk
   have hs := hs.call0 hG
   refine sa _ rfl hk rfl rfl rfl fun a hk => ?_
   refine sa _ rfl hk rfl rfl rfl fun a hk => ?_
   show wpList _ _ _ [] _ _
   refine wpList_nil ?_
   refine hK9 _ _ ?_
   refine wp_ret ?_
   obtain rfl := Option.some.inj H
   exact fin hk _ [(.string y10), (.int .i64 0)] rfl ⟨rfl, ⟨rfl, trivial⟩⟩ ⟨rfl, (hs.pick [] rfl).dnil⟩

noncomputable def impl_XorOf.f (x0 : ByteArray) (x1 : ByteArray) : Option (ByteArray × Int) :=
  ((impl_areShort.f ([x0, x1])).bind fun y7 => (bif (!y7) then (some ((⟨#[]⟩ : ByteArray), 2)) else (bif ((x0.size : Int) != (x1.size : Int)) then (some ((⟨#[]⟩ : ByteArray), 8)) else ((impl_xor.f x0 x1).bind fun y15 => (some (y15, 0))))))
set_option maxRecDepth 100000 in
set_option maxHeartbeats 0 in
theorem impl_XorOf_t (w0 : World) (x0 : ByteArray) (x1 : ByteArray) (r : ByteArray × Int) (H : impl_XorOf.f x0 x1 = some r) :
    Calls Try.prog 27 #[.string x0, .string x1] w0 (Ret (fun v w => v = .tuple #[.string r.1, .int .i64 r.2] ∧ Sat [] w0 w [] [])) := by
  have hs : Sat [] w0 w0 [] [] := Sat.init w0 [] [] (by simp) (by simp) List.nodup_nil (by simp [blks])
  unfold impl_XorOf.f at H
  refine enter Try.func27 rfl Try.ntmps27 rfl fun a hk => ?_
  apply wp_seq_k; intro K1 hK1
  apply wp_region_lit
  refine sa _ rfl hk rfl rfl rfl fun a hk => ?_
  refine sa _ rfl hk rfl rfl rfl fun a hk => ?_
  show wpList _ _ _ [] _ _
  refine wpList_nil ?_
  refine hK1 _ _ ?_
  apply wp_seq_k; intro K2 hK2
  refine wp_block ?_
  apply wp_seq_k; intro K3 hK3
  apply wp_region_lit
  refine sm _ rfl hk rfl rfl rfl fun a hk => ?_
  refine sm _ rfl hk rfl rfl rfl fun a hk => ?_
  refine sbs (L := Lay.str) (pv := [(0, (.string x0)), (1, (.string x1))]) (xs := [x0, x1]) (ess := [[.string x0], [.string x1]]) 1 hs rfl hk rfl rfl rfl un86 (bs9_2 x0 x1) (AllOwn.cons0 ⟨rfl, rfl⟩ (AllOwn.cons0 ⟨rfl, rfl⟩ AllOwn.nil)) rfl rfl rfl fun b4 k5 w a hk o6 hs => ?_
  obtain ⟨y7, h8, H⟩ := bind_some H
  refine sc rfl en45 hk rfl rfl rfl (impl_areShort_t _ (some ⟨b4, 0, none⟩) 2 ([x0, x1]) _ o6.view (hs.hasG (k := 1) rfl) _ h8) ?_
  rintro _ w ⟨rfl, hG⟩ a hk
  have hs := hs.call0 hG
  refine sv (.bool (!y7)) hk rfl rfl rfl fun a hk => ?_
  refine sa _ rfl hk rfl rfl rfl fun a hk => ?_
  show wpList _ _ _ [] _ _
  refine wpList_nil ?_
  refine hK3 _ _ ?_
  rcases cond_some H with ⟨c9, H⟩ | ⟨c9, H⟩
  ·have hk := hk.lit 6 c9 rfl
   refine cnd_true hk rfl rfl ?_
   apply wp_seq_k; intro K10 hK10
   apply wp_region_lit
   refine sa _ rfl hk rfl rfl rfl fun a hk => ?_
   refine sa _ rfl hk rfl rfl rfl fun a hk => ?_
   show wpList _ _ _ [] _ _
   refine wpList_nil ?_
   refine hK10 _ _ ?_
   refine wp_ret ?_
   obtain rfl := Option.some.inj H
   exact fin hk _ [(.string (⟨#[]⟩ : ByteArray)), (.int .i64 2)] rfl ⟨rfl, ⟨rfl, trivial⟩⟩ ⟨rfl, (hs.pick [] rfl).dnil⟩
  ·have hk := hk.lit 6 c9 rfl
   refine cnd_false hk rfl rfl ?_
   apply wp_seq_k; intro K11 hK11
   apply wp_region_lit
   refine sm _ rfl hk rfl rfl rfl fun a hk => ?_
   refine sles rfl hk rfl rfl rfl un9 fun a hk => ?_
   refine sm _ rfl hk rfl rfl rfl fun a hk => ?_
   refine sles rfl hk rfl rfl rfl un9 fun a hk => ?_
   refine sv (.bool ((x0.size : Int) != (x1.size : Int))) hk rfl rfl rfl fun a hk => ?_
   refine sa _ rfl hk rfl rfl rfl fun a hk => ?_
   show wpList _ _ _ [] _ _
   refine wpList_nil ?_
   refine hK11 _ _ ?_
   rcases cond_some H with ⟨c12, H⟩ | ⟨c12, H⟩
   ·have hk := hk.lit 12 c12 rfl
    refine cnd_true hk rfl rfl ?_
    apply wp_seq_k; intro K13 hK13
    apply wp_region_lit
    refine sa _ rfl hk rfl rfl rfl fun a hk => ?_
    refine sa _ rfl hk rfl rfl rfl fun a hk => ?_
    show wpList _ _ _ [] _ _
    refine wpList_nil ?_
    refine hK13 _ _ ?_
    have hs := hs.pick [] rfl
    refine wp_ret ?_
    obtain rfl := Option.some.inj H
    exact fin hk _ [(.string (⟨#[]⟩ : ByteArray)), (.int .i64 8)] rfl ⟨rfl, ⟨rfl, trivial⟩⟩ ⟨rfl, (hs.pick [] rfl).dnil⟩
   ·have hk := hk.lit 12 c12 rfl
    refine cnd_false hk rfl rfl ?_
    refine wp_skip ?_
    refine hK2 _ _ ?_
    have hs := hs.pick [] rfl
    apply wp_seq_k; intro K14 hK14
    apply wp_region_lit
    refine sm _ rfl hk rfl rfl rfl fun a hk => ?_
    refine sm _ rfl hk rfl rfl rfl fun a hk => ?_
    obtain ⟨y15, h16, H⟩ := bind_some H
    refine sc rfl en65 hk rfl rfl rfl (impl_xor_t _ x0 x1 _ h16) ?_
    rintro _ w ⟨rfl, hG⟩ a hk
    have hs := hs.call0 hG
    refine sa _ rfl hk rfl rfl rfl fun a hk => ?_
    refine sa _ rfl hk rfl rfl rfl fun a hk => ?_
    show wpList _ _ _ [] _ _
    refine wpList_nil ?_
    refine hK14 _ _ ?_
    refine wp_ret ?_
    obtain rfl := Option.some.inj H
    exact fin hk _ [(.string y15), (.int .i64 0)] rfl ⟨rfl, ⟨rfl, trivial⟩⟩ ⟨rfl, (hs.pick [] rfl).dnil⟩

noncomputable def slices_IndexFunc_int_int.s0 (l0 : List Int) (q1 : Int → Option (Bool)) (u6 : Int) : Option ((Int) ⊕ Ex (Unit) (Int)) :=
  (bif (decide (u6 < (l0.length : Int))) then (if 0 ≤ u6 ∧ u6 < (l0.length : Int) then ((q1 (l0.getD u6.toNat 0)).bind fun y25 => (bif y25 then (some (.inr (.ret u6))) else (some (.inl (w64 (u6 + 1)))))) else none) else (some (.inr (.out ()))))
noncomputable def slices_IndexFunc_int_int.f (l0 : List Int) (q1 : Int → Option (Bool)) : Option (Int) :=
  ((loopO (fun s => slices_IndexFunc_int_int.s0 l0 q1 s) 0).bind fun o => match o with | .out _ => (some (-1)) | .ret r => (some r))
set_option maxRecDepth 100000 in
set_option maxHeartbeats 0 in
theorem slices_IndexFunc_int_int_t (w0 : World) (A0_ : Option Addr) (p0_ : Nat) (l0 : List Int) (k0_ : Chunk) (v0_ : View (Lay.int .i64) A0_ p0_ l0 k0_) (w0_ : Has w0 k0_) (f1_ : FuncId) (c1_ : List Value) (e1_ : Enters Try.prog f1_) (q1 : Int → Option (Bool)) (k1_ : Chunk) (t1_ : ∀ w, Has w k1_ → ∀ (z0 : Int) (r : Bool), q1 z0 = some r → Calls Try.prog f1_ (([.int .i64 z0] : List Value) ++ c1_).toArray w (Ret (fun v w2 => v = .bool r ∧ Sat [] w w2 [] []))) (w1_ : Has w0 k1_) (r : Int) (H : slices_IndexFunc_int_int.f l0 q1 = some r) :
    Calls Try.prog 129 #[.slice A0_ l0.length p0_, .func (.func f1_) #[] c1_.toArray] w0 (Ret (fun v w => v = .int .i64 r ∧ Sat [] w0 w [] [])) := by
  have hs : Sat [] w0 w0 [(1, k0_), (2, k1_)] [] := Sat.init w0 [(1, k0_), (2, k1_)] [] (by simp only [List.mem_cons, List.not_mem_nil, or_false]; rintro x (rfl | rfl) <;> assumption) (by simp) List.nodup_nil (by simp [blks])
  unfold slices_IndexFunc_int_int.f at H
  refine enter Try.func129 rfl Try.ntmps129 rfl fun a hk => ?_
  apply wp_seq_k; intro K1 hK1
  apply wp_region_lit
  refine sa _ rfl hk rfl rfl rfl fun a hk => ?_
  show wpList _ _ _ [] _ _
  refine wpList_nil ?_
  refine hK1 _ _ ?_
  apply wp_seq_k; intro K2 hK2
  apply wp_seq_k; intro K3 hK3
  apply wp_region_lit
  refine sm _ rfl hk rfl rfl rfl fun a hk => ?_
  refine sle rfl hk rfl rfl rfl un47 fun a hk => ?_
  refine sm _ rfl hk rfl rfl rfl fun a hk => ?_
  show wpList _ _ _ [] _ _
  refine wpList_nil ?_
  refine hK3 _ _ ?_
  obtain ⟨o7, h8, HL9⟩ := bind_some H
  clear H
  obtain ⟨R10, hR10⟩ : ∃ R : Act → World → Prop, R = fun a w => o7 = .out () ∧ Kn [] 19 a ∧ Sat [] w0 w [(1, k0_), (2, k1_)] [] := ⟨_, rfl⟩
  refine wp_cutq R10 ?_ ?_
  ·refine wp_block ?_
   obtain ⟨fu12, h8⟩ := loopO_some h8
   obtain ⟨I11, hI11⟩ : ∃ I : Nat → Act → World → Prop, I = fun fu a w => ∃ (u6 : Int), loopN (fun s => slices_IndexFunc_int_int.s0 l0 q1 s) fu u6 = some o7 ∧ Kn [(0, (.slice A0_ l0.length p0_)), (1, (.func (.func f1_) #[] c1_.toArray)), (7, (.int .i64 (l0.length : Int))), (8, (.int .i64 u6))] 19 a ∧ Sat [] w0 w [(1, k0_), (2, k1_)] [] := ⟨_, rfl⟩
   refine wp_loop_ghost I11 fu12 ?_ ?_
   ·rw [hI11]
    exact ⟨0, h8, (hk.c 0 rfl (hk.c 1 rfl (hk.c 7 rfl (hk.c 8 rfl hk.k)))), (hs.pick [] rfl)⟩
   ·clear h8 hk hs
    intro fu12 a w hI0
    rw [hI11] at hI0
    obtain ⟨u6, hi, hk, hs⟩ := hI0
    obtain ⟨x13, H, h14⟩ := loop_round hi
    try dsimp only at H
    unfold slices_IndexFunc_int_int.s0 at H
    apply wp_seq_k; intro K15 hK15
    apply wp_region_lit
    refine sv (.bool (decide (u6 < (l0.length : Int)))) hk rfl rfl rfl fun a hk => ?_
    show wpList _ _ _ [] _ _
    refine wpList_nil ?_
    refine hK15 _ _ ?_
    apply wp_seq_k; intro K16 hK16
    rcases cond_some H with ⟨c17, H⟩ | ⟨c17, H⟩
    ·have hk := hk.lit 9 c17 rfl
     refine cnd_true hk rfl rfl ?_
     refine wp_skip ?_
     refine hK16 _ _ ?_
     have hs := hs.pick [] rfl
     apply wp_seq_k; intro K18 hK18
     refine wp_block ?_
     apply wp_seq_k; intro K19 hK19
     apply wp_region_lit
     refine sm _ rfl hk rfl rfl rfl fun a hk => ?_
     refine sa _ rfl hk rfl rfl rfl fun a hk => ?_
     show wpList _ _ _ [] _ _
     refine wpList_nil ?_
     refine hK19 _ _ ?_
     apply wp_seq_k; intro K20 hK20
     apply wp_region_lit
     refine sm _ rfl hk rfl rfl rfl fun a hk => ?_
     refine sm _ rfl hk rfl rfl rfl fun a hk => ?_
     refine sm _ rfl hk rfl rfl rfl fun a hk => ?_
     rcases ite_some H with ⟨c21, H⟩ | ⟨_, H⟩
     rotate_left
     ·cases H
     obtain ⟨b22, q23, hAc21⟩ := (v0_).some_ u6 c21.1 c21.2
     refine si rfl hk rfl rfl rfl rfl un47 sz3 c21.1 c21.2 hAc21 fun a hk => ?_
     obtain ⟨_, rfl, e24⟩ := (v0_).at_ 0 u6 c21.1 c21.2
     refine sl (v := (.int .i64 (l0.getD u6.toNat 0))) rfl hk rfl rfl rfl ag3 ((e24 0 _ rfl).cell (hs.hasD (k := 1) rfl)) fun a hk => ?_
     obtain ⟨y25, h26, H⟩ := bind_some H
     refine scv (vs := ([(.int .i64 (l0.getD u6.toNat 0))] : List Value) ++ c1_) rfl rfl e1_ hk rfl rfl rfl (t1_ _ (hs.hasD (k := 2) rfl) (l0.getD u6.toNat 0) _ h26) ?_
     rintro _ w ⟨rfl, hG⟩ a hk
     have hs := hs.call0 hG
     show wpList _ _ _ [] _ _
     refine wpList_nil ?_
     refine hK20 _ _ ?_
     rcases cond_some H with ⟨c27, H⟩ | ⟨c27, H⟩
     ·have hk := hk.lit 16 c27 rfl
      refine cnd_true hk rfl rfl ?_
      apply wp_seq_k; intro K28 hK28
      apply wp_region_lit
      refine sm _ rfl hk rfl rfl rfl fun a hk => ?_
      refine sa _ rfl hk rfl rfl rfl fun a hk => ?_
      show wpList _ _ _ [] _ _
      refine wpList_nil ?_
      refine hK28 _ _ ?_
      refine wp_ret ?_
      obtain rfl := Option.some.inj H
      have ho7 := h14
      try dsimp only at ho7
      subst ho7
      have H := HL9
      try dsimp only at H
      obtain rfl := Option.some.inj H
      exact fin hk _ [(.int .i64 u6)] rfl ⟨rfl, trivial⟩ ⟨rfl, (hs.pick [] rfl).dnil⟩
     ·have hk := hk.lit 16 c27 rfl
      refine cnd_false hk rfl rfl ?_
      refine wp_skip ?_
      refine hK18 _ _ ?_
      apply wp_region_lit
      refine sv (.int .i64 (w64 (u6 + 1))) hk rfl rfl rfl fun a hk => ?_
      refine sm _ rfl hk rfl rfl rfl fun a hk => ?_
      show wpList _ _ _ [] _ _
      refine wpList_nil ?_
      obtain rfl := Option.some.inj H
      obtain ⟨m29, hmm29, h14⟩ := h14
      show ∃ n', n' < _ ∧ I11 n' _ _
      refine ⟨m29, hmm29, ?_⟩
      rw [hI11]
      exact ⟨(w64 (u6 + 1)), h14, (hk.c 0 rfl (hk.c 1 rfl (hk.c 7 rfl (hk.c 8 rfl hk.k)))), (hs.pick [] rfl)⟩
    ·have hk := hk.lit 9 c17 rfl
     refine cnd_false hk rfl rfl ?_
     refine wp_exit ?_
     obtain rfl := Option.some.inj H
     show R10 _ _
     rw [hR10]
     exact ⟨h14.symm, hk.k, (hs.pick [] rfl)⟩
  ·intro a w hR0
   rw [hR10] at hR0
   obtain ⟨rfl, hk, hs⟩ := hR0
   have H := HL9
   try dsimp only at H
   refine hK2 _ _ ?_
   apply wp_seq_k; intro K30 hK30
   apply wp_region_lit
   refine sa _ rfl hk rfl rfl rfl fun a hk => ?_
   show wpList _ _ _ [] _ _
   refine wpList_nil ?_
   refine hK30 _ _ ?_
   have hs := hs.pick [] rfl
   refine wp_ret ?_
   obtain rfl := Option.some.inj H
   exact fin hk _ [(.int .i64 (-1))] rfl ⟨rfl, trivial⟩ ⟨rfl, (hs.pick [] rfl).dnil⟩

noncomputable def slices_ContainsFunc_int_int.f (l0 : List Int) (q1 : Int → Option (Bool)) : Option (Bool) :=
  ((slices_IndexFunc_int_int.f l0 q1).bind fun y3 => (some (decide (y3 ≥ 0))))
set_option maxRecDepth 100000 in
set_option maxHeartbeats 0 in
theorem slices_ContainsFunc_int_int_t (w0 : World) (A0_ : Option Addr) (p0_ : Nat) (l0 : List Int) (k0_ : Chunk) (v0_ : View (Lay.int .i64) A0_ p0_ l0 k0_) (w0_ : Has w0 k0_) (f1_ : FuncId) (c1_ : List Value) (e1_ : Enters Try.prog f1_) (q1 : Int → Option (Bool)) (k1_ : Chunk) (t1_ : ∀ w, Has w k1_ → ∀ (z0 : Int) (r : Bool), q1 z0 = some r → Calls Try.prog f1_ (([.int .i64 z0] : List Value) ++ c1_).toArray w (Ret (fun v w2 => v = .bool r ∧ Sat [] w w2 [] []))) (w1_ : Has w0 k1_) (r : Bool) (H : slices_ContainsFunc_int_int.f l0 q1 = some r) :
    Calls Try.prog 95 #[.slice A0_ l0.length p0_, .func (.func f1_) #[] c1_.toArray] w0 (Ret (fun v w => v = .bool r ∧ Sat [] w0 w [] [])) := by
  have hs : Sat [] w0 w0 [(1, k0_), (2, k1_)] [] := Sat.init w0 [(1, k0_), (2, k1_)] [] (by simp only [List.mem_cons, List.not_mem_nil, or_false]; rintro x (rfl | rfl) <;> assumption) (by simp) List.nodup_nil (by simp [blks])
  unfold slices_ContainsFunc_int_int.f at H
  refine enter Try.func95 rfl Try.ntmps95 rfl fun a hk => ?_
  apply wp_seq_k; intro K1 hK1
  apply wp_region_lit
  refine sa _ rfl hk rfl rfl rfl fun a hk => ?_
  show wpList _ _ _ [] _ _
  refine wpList_nil ?_
  refine hK1 _ _ ?_
  apply wp_seq_k; intro K2 hK2
  apply wp_region_lit
  refine sm _ rfl hk rfl rfl rfl fun a hk => ?_
  refine sm _ rfl hk rfl rfl rfl fun a hk => ?_
  obtain ⟨y3, h4, H⟩ := bind_some H
  refine sc rfl en129 hk rfl rfl rfl (slices_IndexFunc_int_int_t _ A0_ p0_ l0 _ v0_ (hs.hasD (k := 1) rfl) f1_ c1_ e1_ q1 k1_ t1_ (hs.hasD (k := 2) rfl) _ h4) ?_
  rintro _ w ⟨rfl, hG⟩ a hk
  have hs := hs.call0 hG
  refine sv (.bool (decide (y3 ≥ 0))) hk rfl rfl rfl fun a hk => ?_
  refine sa _ rfl hk rfl rfl rfl fun a hk => ?_
  show wpList _ _ _ [] _ _
  refine wpList_nil ?_
  refine hK2 _ _ ?_
  refine wp_ret ?_
  obtain rfl := Option.some.inj H
  exact fin hk _ [(.bool (decide (y3 ≥ 0)))] rfl ⟨rfl, trivial⟩ ⟨rfl, (hs.pick [] rfl).dnil⟩

noncomputable def impl_areAll_int__c1.f (x0 : Int) (q1 : Int → Option (Bool)) : Option (Bool) :=
  ((q1 x0).bind fun y3 => (some (!y3)))
set_option maxRecDepth 100000 in
set_option maxHeartbeats 0 in
theorem impl_areAll_int__c1_t (w0 : World) (x0 : Int) (b1_ : Nat) (f1_ : FuncId) (c1_ : List Value) (e1_ : Enters Try.prog f1_) (q1 : Int → Option (Bool)) (k1_ : Chunk) (t1_ : ∀ w, Has w k1_ → ∀ (z0 : Int) (r : Bool), q1 z0 = some r → Calls Try.prog f1_ (([.int .i64 z0] : List Value) ++ c1_).toArray w (Ret (fun v w2 => v = .bool r ∧ Sat [] w w2 [] []))) (w1_ : Has w0 k1_) (h1_ : Has w0 [(b1_, .cells #[.func (.func f1_) #[] c1_.toArray] 61 (0, 0))]) (r : Bool) (H : impl_areAll_int__c1.f x0 q1 = some r) :
    Calls Try.prog 96 #[.int .i64 x0, .pointer (some ⟨b1_, 0, none⟩)] w0 (Ret (fun v w => v = .bool r ∧ Sat [] w0 w [] [])) := by
  have hs : Sat [] w0 w0 [(2, k1_), (1, [(b1_, .cells #[.func (.func f1_) #[] c1_.toArray] 61 (0, 0))])] [] := Sat.init w0 [(2, k1_), (1, [(b1_, .cells #[.func (.func f1_) #[] c1_.toArray] 61 (0, 0))])] [] (by simp only [List.mem_cons, List.not_mem_nil, or_false]; rintro x (rfl | rfl) <;> assumption) (by simp) List.nodup_nil (by simp [blks])
  unfold impl_areAll_int__c1.f at H
  refine enter Try.func96 rfl Try.ntmps96 rfl fun a hk => ?_
  apply wp_seq_k; intro K1 hK1
  apply wp_region_lit
  refine sa _ rfl hk rfl rfl rfl fun a hk => ?_
  show wpList _ _ _ [] _ _
  refine wpList_nil ?_
  refine hK1 _ _ ?_
  apply wp_seq_k; intro K2 hK2
  apply wp_region_lit
  refine sl rfl hk rfl rfl rfl ag61 (box_cellD hs (k := 1) rfl rfl) fun a hk => ?_
  refine sm _ rfl hk rfl rfl rfl fun a hk => ?_
  obtain ⟨y3, h4, H⟩ := bind_some H
  refine scv (vs := ([(.int .i64 x0)] : List Value) ++ c1_) rfl rfl e1_ hk rfl rfl rfl (t1_ _ (hs.hasD (k := 2) rfl) x0 _ h4) ?_
  rintro _ w ⟨rfl, hG⟩ a hk
  have hs := hs.call0 hG
  refine sv (.bool (!y3)) hk rfl rfl rfl fun a hk => ?_
  refine sa _ rfl hk rfl rfl rfl fun a hk => ?_
  show wpList _ _ _ [] _ _
  refine wpList_nil ?_
  refine hK2 _ _ ?_
  refine wp_ret ?_
  obtain rfl := Option.some.inj H
  exact fin hk _ [(.bool (!y3))] rfl ⟨rfl, trivial⟩ ⟨rfl, (hs.pick [] rfl).dnil⟩

noncomputable def impl_areAll_int.f (l0 : List Int) (q1 : Int → Option (Bool)) : Option (Bool) :=
  ((slices_ContainsFunc_int_int.f l0 (fun z0 => impl_areAll_int__c1.f z0 q1)).bind fun y4 => (some (!y4)))
set_option maxRecDepth 100000 in
set_option maxHeartbeats 0 in
theorem impl_areAll_int_t (w0 : World) (A0_ : Option Addr) (p0_ : Nat) (l0 : List Int) (k0_ : Chunk) (v0_ : View (Lay.int .i64) A0_ p0_ l0 k0_) (w0_ : Has w0 k0_) (f1_ : FuncId) (c1_ : List Value) (e1_ : Enters Try.prog f1_) (q1 : Int → Option (Bool)) (k1_ : Chunk) (t1_ : ∀ w, Has w k1_ → ∀ (z0 : Int) (r : Bool), q1 z0 = some r → Calls Try.prog f1_ (([.int .i64 z0] : List Value) ++ c1_).toArray w (Ret (fun v w2 => v = .bool r ∧ Sat [] w w2 [] []))) (w1_ : Has w0 k1_) (r : Bool) (H : impl_areAll_int.f l0 q1 = some r) :
    Calls Try.prog 51 #[.slice A0_ l0.length p0_, .func (.func f1_) #[] c1_.toArray] w0 (Ret (fun v w => v = .bool r ∧ Sat [] w0 w [] [])) := by
  have hs : Sat [] w0 w0 [(1, k0_), (2, k1_)] [] := Sat.init w0 [(1, k0_), (2, k1_)] [] (by simp only [List.mem_cons, List.not_mem_nil, or_false]; rintro x (rfl | rfl) <;> assumption) (by simp) List.nodup_nil (by simp [blks])
  unfold impl_areAll_int.f at H
  refine enter Try.func51 rfl Try.ntmps51 rfl fun a hk => ?_
  apply wp_seq_k; intro K1 hK1
  apply wp_region_lit
  refine sbx 3 hs rfl hk rfl rfl rfl rfl fun b2 w a hk hs => ?_
  refine sa _ rfl hk rfl rfl rfl fun a hk => ?_
  show wpList _ _ _ [] _ _
  refine wpList_nil ?_
  refine hK1 _ _ ?_
  apply wp_seq_k; intro K3 hK3
  apply wp_region_lit
  refine sm _ rfl hk rfl rfl rfl fun a hk => ?_
  refine smf (cs := [.pointer (some ⟨b2, 0, none⟩)]) rfl hk rfl rfl rfl fun a hk => ?_
  obtain ⟨y4, h5, H⟩ := bind_some H
  refine sc rfl en95 hk rfl rfl rfl (slices_ContainsFunc_int_int_t _ A0_ p0_ l0 _ v0_ (hs.hasD (k := 1) rfl) 96 [.pointer (some ⟨b2, 0, none⟩)] en96 (fun z0 => impl_areAll_int__c1.f z0 q1) ([(b2, .cells #[.func (.func f1_) #[] c1_.toArray] 61 (0, 0))] ++ k1_) (fun w hz z0 r h => impl_areAll_int__c1_t w z0 _ f1_ c1_ e1_ q1 k1_ t1_ (Has.right hz) (Has.left hz) r h) (Has.app (hs.hasG (k := 3) rfl) (hs.hasD (k := 2) rfl)) _ h5) ?_
  rintro _ w ⟨rfl, hG⟩ a hk
  have hs := hs.call0 hG
  refine sv (.bool (!y4)) hk rfl rfl rfl fun a hk => ?_
  refine sa _ rfl hk rfl rfl rfl fun a hk => ?_
  show wpList _ _ _ [] _ _
  refine wpList_nil ?_
  refine hK3 _ _ ?_
  refine wp_ret ?_
  obtain rfl := Option.some.inj H
  exact fin hk _ [(.bool (!y4))] rfl ⟨rfl, trivial⟩ ⟨rfl, (hs.pick [] rfl).dnil⟩

noncomputable def impl_isWord.f (x0 : Int) : Option (Bool) :=
  ((impl_within.f x0 0 4294967295).bind fun y3 => (some y3))
set_option maxRecDepth 100000 in
set_option maxHeartbeats 0 in
theorem impl_isWord_t (w0 : World) (x0 : Int) (r : Bool) (H : impl_isWord.f x0 = some r) :
    Calls Try.prog 52 #[.int .i64 x0] w0 (Ret (fun v w => v = .bool r ∧ Sat [] w0 w [] [])) := by
  have hs : Sat [] w0 w0 [] [] := Sat.init w0 [] [] (by simp) (by simp) List.nodup_nil (by simp [blks])
  unfold impl_isWord.f at H
  refine enter Try.func52 rfl Try.ntmps52 rfl fun a hk => ?_
  apply wp_seq_k; intro K1 hK1
  apply wp_region_lit
  refine sa _ rfl hk rfl rfl rfl fun a hk => ?_
  show wpList _ _ _ [] _ _
  refine wpList_nil ?_
  refine hK1 _ _ ?_
  apply wp_seq_k; intro K2 hK2
  apply wp_region_lit
  refine sm _ rfl hk rfl rfl rfl fun a hk => ?_
  obtain ⟨y3, h4, H⟩ := bind_some H
  refine sc rfl en50 hk rfl rfl rfl (impl_within_t _ x0 0 4294967295 _ h4) ?_
  rintro _ w ⟨rfl, hG⟩ a hk
  have hs := hs.call0 hG
  refine sa _ rfl hk rfl rfl rfl fun a hk => ?_
  show wpList _ _ _ [] _ _
  refine wpList_nil ?_
  refine hK2 _ _ ?_
  refine wp_ret ?_
  obtain rfl := Option.some.inj H
  exact fin hk _ [(.bool y3)] rfl ⟨rfl, trivial⟩ ⟨rfl, (hs.pick [] rfl).dnil⟩

noncomputable def impl_QuarterRound.f (x0 : List Int) : Option ((List Int) × Int) :=
  ((impl_areAll_int.f x0 impl_isWord.f).bind fun y11 => (bif (!y11) then (some ((List.replicate 4 (0 : Int)), 4)) else (if 0 ≤ (0 : Int) ∧ (0 : Int) < (4 : Int) then (if 0 ≤ (1 : Int) ∧ (1 : Int) < (4 : Int) then (if 0 ≤ (2 : Int) ∧ (2 : Int) < (4 : Int) then (if 0 ≤ (3 : Int) ∧ (3 : Int) < (4 : Int) then ((impl_quarter.f (IntKind.wrap .u32 (x0.getD (0 : Int).toNat 0)) (IntKind.wrap .u32 (x0.getD (1 : Int).toNat 0)) (IntKind.wrap .u32 (x0.getD (2 : Int).toNat 0)) (IntKind.wrap .u32 (x0.getD (3 : Int).toNat 0))).bind fun y35 => (some (([(IntKind.wrap .i64 y35.1), (IntKind.wrap .i64 y35.2.1), (IntKind.wrap .i64 y35.2.2.1), (IntKind.wrap .i64 y35.2.2.2)] : List Int), 0))) else none) else none) else none) else none)))
set_option maxRecDepth 100000 in
set_option maxHeartbeats 0 in
theorem impl_QuarterRound_t (w0 : World) (x0 : List Int) (e0_ : x0.length = 4) (r : (List Int) × Int) (H : impl_QuarterRound.f x0 = some r) :
    Calls Try.prog 28 #[aggI .i64 x0] w0 (Ret (fun v w => v = .tuple #[aggI .i64 r.1, .int .i64 r.2] ∧ r.1.length = 4 ∧ Sat [] w0 w [] [])) := by
  have hs : Sat [] w0 w0 [] [] := Sat.init w0 [] [] (by simp) (by simp) List.nodup_nil (by simp [blks])
  unfold impl_QuarterRound.f at H
  refine enter Try.func28 rfl Try.ntmps28 rfl fun a hk => ?_
  apply wp_seq_k; intro K1 hK1
  apply wp_region_lit
  refine sbxa 1 hs rfl hk rfl rfl rfl e0_ rfl fun b2 k3 w a hk o4 hs => ?_
  refine sala 2 ((Lay.int .i64)) (m := 4) (z := 0) (zc := [.int .i64 0]) hs rfl hk rfl rfl ze41 (by exact ⟨rfl, rfl⟩) rfl rfl rfl fun b5 k6 w a hk o7 hs => ?_
  have lh8 : (List.replicate 4 (0 : Int)).length = 4 := List.length_replicate
  refine sa _ rfl hk rfl rfl rfl fun a hk => ?_
  show wpList _ _ _ [] _ _
  refine wpList_nil ?_
  refine hK1 _ _ ?_
  apply wp_seq_k; intro K9 hK9
  apply wp_seq_k; intro K10 hK10
  apply wp_region_lit
  refine slar rfl hk rfl rfl rfl un41 sz3 fun a hk => ?_
  have hk := hk.re 8 (v' := (.slice (some ⟨b2, 0, none⟩) x0.length 4)) rfl (by rw [e0_])
  obtain ⟨y11, h12, H⟩ := bind_some H
  refine sc rfl en51 hk rfl rfl rfl (impl_areAll_int_t _ (some ⟨b2, 0, none⟩) 4 x0 _ o4.view (hs.hasG (k := 1) rfl) 52 [] en52 impl_isWord.f [] (fun w _ z0 r h => impl_isWord_t w z0 r h) (Has.nil _) _ h12) ?_
  rintro _ w ⟨rfl, hG⟩ a hk
  have hs := hs.call0 hG
  refine sv (.bool (!y11)) hk rfl rfl rfl fun a hk => ?_
  show wpList _ _ _ [] _ _
  refine wpList_nil ?_
  refine hK10 _ _ ?_
  rcases cond_some H with ⟨c13, H⟩ | ⟨c13, H⟩
  ·have hk := hk.lit 10 c13 rfl
   refine cnd_true hk rfl rfl ?_
   apply wp_seq_k; intro K14 hK14
   apply wp_region_lit
   refine sbd (pv := []) rfl hk rfl rfl rfl bd41_9 fun a hk => ?_
   have lh15 : (List.replicate 4 (0 : Int)).length = 4 := List.length_replicate
   refine sswa 2 (List.replicate 4 (0 : Int)) hs rfl o7 lh8 lh15 rfl rfl hk rfl rfl rfl rfl sz41 fun k16 w a hk o17 hs => ?_
   refine sa _ rfl hk rfl rfl rfl fun a hk => ?_
   show wpList _ _ _ [] _ _
   refine wpList_nil ?_
   refine hK14 _ _ ?_
   refine wp_ret ?_
   obtain rfl := Option.some.inj H
   exact fin hk _ [(aggI .i64 (List.replicate 4 (0 : Int))), (.int .i64 4)] rfl ⟨⟨_, rfl, run_loadA ag41 sz41 o17 lh15 hs (q := 2) rfl⟩, ⟨rfl, trivial⟩⟩ ⟨rfl, lh15, (hs.pick [] rfl).dnil⟩
  ·have hk := hk.lit 10 c13 rfl
   refine cnd_false hk rfl rfl ?_
   refine wp_skip ?_
   refine hK9 _ _ ?_
   apply wp_seq_k; intro K18 hK18
   apply wp_region_lit
   rcases ite_some H with ⟨c19, H⟩ | ⟨_, H⟩
   rotate_left
   ·cases H
   obtain ⟨b20, q21, hAc19⟩ := (o4.view).some_ (0 : Int) c19.1 (by rw [e0_]; exact c19.2)
   refine sia rfl hk rfl rfl rfl rfl un41 sz3 c19.1 c19.2 hAc19 fun a hk => ?_
   obtain ⟨_, rfl, e22⟩ := (o4.view).at_ 0 (0 : Int) c19.1 (by rw [e0_]; exact c19.2)
   refine sl (v := (.int .i64 (x0.getD (0 : Int).toNat 0))) rfl hk rfl rfl rfl ag3 ((e22 0 _ rfl).cell (hs.hasG (k := 1) rfl)) fun a hk => ?_
   refine scn rfl hk rfl rfl rfl un67 un3 fun a hk => ?_
   rcases ite_some H with ⟨c23, H⟩ | ⟨_, H⟩
   rotate_left
   ·cases H
   obtain ⟨b24, q25, hAc23⟩ := (o4.view).some_ (1 : Int) c23.1 (by rw [e0_]; exact c23.2)
   refine sia rfl hk rfl rfl rfl rfl un41 sz3 c23.1 c23.2 hAc23 fun a hk => ?_
   obtain ⟨_, rfl, e26⟩ := (o4.view).at_ 0 (1 : Int) c23.1 (by rw [e0_]; exact c23.2)
   refine sl (v := (.int .i64 (x0.getD (1 : Int).toNat 0))) rfl hk rfl rfl rfl ag3 ((e26 0 _ rfl).cell (hs.hasG (k := 1) rfl)) fun a hk => ?_
   refine scn rfl hk rfl rfl rfl un67 un3 fun a hk => ?_
   rcases ite_some H with ⟨c27, H⟩ | ⟨_, H⟩
   rotate_left
   ·cases H
   obtain ⟨b28, q29, hAc27⟩ := (o4.view).some_ (2 : Int) c27.1 (by rw [e0_]; exact c27.2)
   refine sia rfl hk rfl rfl rfl rfl un41 sz3 c27.1 c27.2 hAc27 fun a hk => ?_
   obtain ⟨_, rfl, e30⟩ := (o4.view).at_ 0 (2 : Int) c27.1 (by rw [e0_]; exact c27.2)
   refine sl (v := (.int .i64 (x0.getD (2 : Int).toNat 0))) rfl hk rfl rfl rfl ag3 ((e30 0 _ rfl).cell (hs.hasG (k := 1) rfl)) fun a hk => ?_
   refine scn rfl hk rfl rfl rfl un67 un3 fun a hk => ?_
   rcases ite_some H with ⟨c31, H⟩ | ⟨_, H⟩
   rotate_left
   ·cases H
   obtain ⟨b32, q33, hAc31⟩ := (o4.view).some_ (3 : Int) c31.1 (by rw [e0_]; exact c31.2)
   refine sia rfl hk rfl rfl rfl rfl un41 sz3 c31.1 c31.2 hAc31 fun a hk => ?_
   obtain ⟨_, rfl, e34⟩ := (o4.view).at_ 0 (3 : Int) c31.1 (by rw [e0_]; exact c31.2)
   refine sl (v := (.int .i64 (x0.getD (3 : Int).toNat 0))) rfl hk rfl rfl rfl ag3 ((e34 0 _ rfl).cell (hs.hasG (k := 1) rfl)) fun a hk => ?_
   refine scn rfl hk rfl rfl rfl un67 un3 fun a hk => ?_
   obtain ⟨y35, h36, H⟩ := bind_some H
   refine sc rfl en66 hk rfl rfl rfl (impl_quarter_t _ (IntKind.wrap .u32 (x0.getD (0 : Int).toNat 0)) (IntKind.wrap .u32 (x0.getD (1 : Int).toNat 0)) (IntKind.wrap .u32 (x0.getD (2 : Int).toNat 0)) (IntKind.wrap .u32 (x0.getD (3 : Int).toNat 0)) _ h36) ?_
   rintro _ w ⟨rfl, hG⟩ a hk
   have hs := hs.call0 hG
   refine sm _ rfl hk rfl rfl rfl fun a hk => ?_
   refine sv (.int .u32 y35.1) hk rfl rfl rfl fun a hk => ?_
   refine sv (.int .u32 y35.2.1) hk rfl rfl rfl fun a hk => ?_
   refine sv (.int .u32 y35.2.2.1) hk rfl rfl rfl fun a hk => ?_
   refine sv (.int .u32 y35.2.2.2) hk rfl rfl rfl fun a hk => ?_
   refine sa _ rfl hk rfl rfl rfl fun a hk => ?_
   refine sa _ rfl hk rfl rfl rfl fun a hk => ?_
   refine sa _ rfl hk rfl rfl rfl fun a hk => ?_
   refine sa _ rfl hk rfl rfl rfl fun a hk => ?_
   show wpList _ _ _ [] _ _
   refine wpList_nil ?_
   refine hK18 _ _ ?_
   have hs := hs.pick [(2, 2)] rfl
   apply wp_seq_k; intro K37 hK37
   apply wp_region_lit
   refine sm _ rfl hk rfl rfl rfl fun a hk => ?_
   refine scn rfl hk rfl rfl rfl un3 un67 fun a hk => ?_
   refine sm _ rfl hk rfl rfl rfl fun a hk => ?_
   refine scn rfl hk rfl rfl rfl un3 un67 fun a hk => ?_
   refine sm _ rfl hk rfl rfl rfl fun a hk => ?_
   refine scn rfl hk rfl rfl rfl un3 un67 fun a hk => ?_
   refine sm _ rfl hk rfl rfl rfl fun a hk => ?_
   refine scn rfl hk rfl rfl rfl un3 un67 fun a hk => ?_
   refine sbd (pv := [(0, (.int .i64 (IntKind.wrap .i64 y35.1))), (1, (.int .i64 (IntKind.wrap .i64 y35.2.1))), (2, (.int .i64 (IntKind.wrap .i64 y35.2.2.1))), (3, (.int .i64 (IntKind.wrap .i64 y35.2.2.2)))]) rfl hk rfl rfl rfl (bd41_6 (IntKind.wrap .i64 y35.1) (IntKind.wrap .i64 y35.2.1) (IntKind.wrap .i64 y35.2.2.1) (IntKind.wrap .i64 y35.2.2.2)) fun a hk => ?_
   have lh38 : ([(IntKind.wrap .i64 y35.1), (IntKind.wrap .i64 y35.2.1), (IntKind.wrap .i64 y35.2.2.1), (IntKind.wrap .i64 y35.2.2.2)] : List Int).length = 4 := rfl
   refine sswa 2 ([(IntKind.wrap .i64 y35.1), (IntKind.wrap .i64 y35.2.1), (IntKind.wrap .i64 y35.2.2.1), (IntKind.wrap .i64 y35.2.2.2)] : List Int) hs rfl o7 lh8 lh38 rfl rfl hk rfl rfl rfl rfl sz41 fun k39 w a hk o40 hs => ?_
   refine sa _ rfl hk rfl rfl rfl fun a hk => ?_
   show wpList _ _ _ [] _ _
   refine wpList_nil ?_
   refine hK37 _ _ ?_
   refine wp_ret ?_
   obtain rfl := Option.some.inj H
   exact fin hk _ [(aggI .i64 ([(IntKind.wrap .i64 y35.1), (IntKind.wrap .i64 y35.2.1), (IntKind.wrap .i64 y35.2.2.1), (IntKind.wrap .i64 y35.2.2.2)] : List Int)), (.int .i64 0)] rfl ⟨⟨_, rfl, run_loadA ag41 sz41 o40 lh38 hs (q := 2) rfl⟩, ⟨rfl, trivial⟩⟩ ⟨rfl, lh38, (hs.pick [] rfl).dnil⟩

noncomputable def spec_QuarterRound.s0 (x0 : List Int) (u13 : Int) : Option ((Int) ⊕ Ex (Unit) ((List Int) × Int)) :=
  (bif (decide (u13 < 4)) then (if 0 ≤ u13 ∧ u13 < (4 : Int) then ((spec_l01In.f (x0.getD u13.toNat 0) 0 4294967295).bind fun y31 => (bif (!y31) then (some (.inr (.ret ((List.replicate 4 (0 : Int)), 4)))) else (some (.inl (w64 (u13 + 1)))))) else none) else (some (.inr (.out ()))))
noncomputable def spec_QuarterRound.f (x0 : List Int) : Option ((List Int) × Int) :=
  ((loopO (fun s => spec_QuarterRound.s0 x0 s) 0).bind fun o => match o with | .out _ => (if 0 ≤ (0 : Int) ∧ (0 : Int) < (4 : Int) then (if 0 ≤ (1 : Int) ∧ (1 : Int) < (4 : Int) then (if 0 ≤ (2 : Int) ∧ (2 : Int) < (4 : Int) then (if 0 ≤ (3 : Int) ∧ (3 : Int) < (4 : Int) then ((spec_l02Quarter.f (x0.getD (0 : Int).toNat 0) (x0.getD (1 : Int).toNat 0) (x0.getD (2 : Int).toNat 0) (x0.getD (3 : Int).toNat 0)).bind fun y56 => (some (y56, 0))) else none) else none) else none) else none) | .ret r => (some r))
set_option maxRecDepth 100000 in
set_option maxHeartbeats 0 in
theorem spec_QuarterRound_t (w0 : World) (x0 : List Int) (e0_ : x0.length = 4) (r : (List Int) × Int) (H : spec_QuarterRound.f x0 = some r) :
    Calls Try.prog 29 #[aggI .i64 x0] w0 (Ret (fun v w => v = .tuple #[aggI .i64 r.1, .int .i64 r.2] ∧ r.1.length = 4 ∧ Sat [] w0 w [] [])) := by
  have hs : Sat [] w0 w0 [] [] := Sat.init w0 [] [] (by simp) (by simp) List.nodup_nil (by simp [blks])
  unfold spec_QuarterRound.f at H
  refine enter Try.func29 rfl Try.ntmps29 rfl fun a hk => ?_
  apply wp_seq_k; intro K1 hK1
  apply wp_region_lit
  refine sbxa 1 hs rfl hk rfl rfl rfl e0_ rfl fun b2 k3 w a hk o4 hs => ?_
  refine sala 2 ((Lay.int .i64)) (m := 4) (z := 0) (zc := [.int .i64 0]) hs rfl hk rfl rfl ze41 (by exact ⟨rfl, rfl⟩) rfl rfl rfl fun b5 k6 w a hk o7 hs => ?_
  have lh8 : (List.replicate 4 (0 : Int)).length = 4 := List.length_replicate
  refine sa _ rfl hk rfl rfl rfl fun a hk => ?_
  show wpList _ _ _ [] _ _
  refine wpList_nil ?_
  refine hK1 _ _ ?_
  apply wp_seq_k; intro K9 hK9
  apply wp_seq_k; intro K10 hK10
  apply wp_region_lit
  refine sa _ rfl hk rfl rfl rfl fun a hk => ?_
  show wpList _ _ _ [] _ _
  refine wpList_nil ?_
  refine hK10 _ _ ?_
  obtain ⟨o14, h15, HL16⟩ := bind_some H
  clear H
  obtain ⟨R17, hR17⟩ : ∃ R : Act → World → Prop, R = fun a w => o14 = .out () ∧ Kn [(1, (.pointer (some ⟨b2, 0, none⟩))), (2, (.pointer (some ⟨b5, 0, none⟩)))] 24 a ∧ Sat [] w0 w [] [(1, k3), (2, k6)] := ⟨_, rfl⟩
  refine wp_cutq R17 ?_ ?_
  ·refine wp_block ?_
   obtain ⟨fu19, h15⟩ := loopO_some h15
   obtain ⟨I18, hI18⟩ : ∃ I : Nat → Act → World → Prop, I = fun fu a w => ∃ (u13 : Int), loopN (fun s => spec_QuarterRound.s0 x0 s) fu u13 = some o14 ∧ Kn [(1, (.pointer (some ⟨b2, 0, none⟩))), (2, (.pointer (some ⟨b5, 0, none⟩))), (4, (.int .i64 u13))] 24 a ∧ Sat [] w0 w [] [(1, k3), (2, k6)] := ⟨_, rfl⟩
   refine wp_loop_ghost I18 fu19 ?_ ?_
   ·rw [hI18]
    exact ⟨0, h15, (hk.c 1 rfl (hk.c 2 rfl (hk.c 4 rfl hk.k))), (hs.pick [(1, 1), (2, 2)] rfl)⟩
   ·clear h15 hk hs
    intro fu19 a w hI0
    rw [hI18] at hI0
    obtain ⟨u13, hi, hk, hs⟩ := hI0
    obtain ⟨x20, H, h21⟩ := loop_round hi
    try dsimp only at H
    unfold spec_QuarterRound.s0 at H
    apply wp_seq_k; intro K22 hK22
    apply wp_seq_k; intro K23 hK23
    apply wp_region_lit
    refine sm _ rfl hk rfl rfl rfl fun a hk => ?_
    refine sv (.bool (decide (u13 < 4))) hk rfl rfl rfl fun a hk => ?_
    show wpList _ _ _ [] _ _
    refine wpList_nil ?_
    refine hK23 _ _ ?_
    rcases cond_some H with ⟨c24, H⟩ | ⟨c24, H⟩
    ·have hk := hk.lit 6 c24 rfl
     refine cnd_true hk rfl rfl ?_
     refine wp_skip ?_
     refine hK22 _ _ ?_
     have hs := hs.pick [(1, 1), (2, 2)] rfl
     apply wp_seq_k; intro K25 hK25
     refine wp_block ?_
     apply wp_seq_k; intro K26 hK26
     apply wp_region_lit
     refine sm _ rfl hk rfl rfl rfl fun a hk => ?_
     rcases ite_some H with ⟨c27, H⟩ | ⟨_, H⟩
     rotate_left
     ·cases H
     obtain ⟨b28, q29, hAc27⟩ := (o4.view).some_ u13 c27.1 (by rw [e0_]; exact c27.2)
     refine sia rfl hk rfl rfl rfl rfl un41 sz3 c27.1 c27.2 hAc27 fun a hk => ?_
     obtain ⟨_, rfl, e30⟩ := (o4.view).at_ 0 u13 c27.1 (by rw [e0_]; exact c27.2)
     refine sl (v := (.int .i64 (x0.getD u13.toNat 0))) rfl hk rfl rfl rfl ag3 ((e30 0 _ rfl).cell (hs.hasG (k := 1) rfl)) fun a hk => ?_
     obtain ⟨y31, h32, H⟩ := bind_some H
     refine sc rfl en67 hk rfl rfl rfl (spec_l01In_t _ (x0.getD u13.toNat 0) 0 4294967295 _ h32) ?_
     rintro _ w ⟨rfl, hG⟩ a hk
     have hs := hs.call0 hG
     refine sv (.bool (!y31)) hk rfl rfl rfl fun a hk => ?_
     show wpList _ _ _ [] _ _
     refine wpList_nil ?_
     refine hK26 _ _ ?_
     rcases cond_some H with ⟨c33, H⟩ | ⟨c33, H⟩
     ·have hk := hk.lit 13 c33 rfl
      refine cnd_true hk rfl rfl ?_
      apply wp_seq_k; intro K34 hK34
      apply wp_region_lit
      refine sbd (pv := []) rfl hk rfl rfl rfl bd41_9 fun a hk => ?_
      have lh35 : (List.replicate 4 (0 : Int)).length = 4 := List.length_replicate
      refine sswa 2 (List.replicate 4 (0 : Int)) hs rfl o7 lh8 lh35 rfl rfl hk rfl rfl rfl rfl sz41 fun k36 w a hk o37 hs => ?_
      refine sa _ rfl hk rfl rfl rfl fun a hk => ?_
      show wpList _ _ _ [] _ _
      refine wpList_nil ?_
      refine hK34 _ _ ?_
      refine wp_ret ?_
      obtain rfl := Option.some.inj H
      have ho14 := h21
      try dsimp only at ho14
      subst ho14
      have H := HL16
      try dsimp only at H
      obtain rfl := Option.some.inj H
      exact fin hk _ [(aggI .i64 (List.replicate 4 (0 : Int))), (.int .i64 4)] rfl ⟨⟨_, rfl, run_loadA ag41 sz41 o37 lh35 hs (q := 2) rfl⟩, ⟨rfl, trivial⟩⟩ ⟨rfl, lh35, (hs.pick [] rfl).dnil⟩
     ·have hk := hk.lit 13 c33 rfl
      refine cnd_false hk rfl rfl ?_
      refine wp_skip ?_
      refine hK25 _ _ ?_
      apply wp_region_lit
      refine sm _ rfl hk rfl rfl rfl fun a hk => ?_
      refine sv (.int .i64 (w64 (u13 + 1))) hk rfl rfl rfl fun a hk => ?_
      refine sa _ rfl hk rfl rfl rfl fun a hk => ?_
      show wpList _ _ _ [] _ _
      refine wpList_nil ?_
      obtain rfl := Option.some.inj H
      obtain ⟨m38, hmm38, h21⟩ := h21
      show ∃ n', n' < _ ∧ I18 n' _ _
      refine ⟨m38, hmm38, ?_⟩
      rw [hI18]
      exact ⟨(w64 (u13 + 1)), h21, (hk.c 1 rfl (hk.c 2 rfl (hk.c 4 rfl hk.k))), (hs.pick [(1, 1), (2, 2)] rfl)⟩
    ·have hk := hk.lit 6 c24 rfl
     refine cnd_false hk rfl rfl ?_
     refine wp_exit ?_
     obtain rfl := Option.some.inj H
     show R17 _ _
     rw [hR17]
     exact ⟨h21.symm, (hk.c 1 rfl (hk.c 2 rfl hk.k)), (hs.pick [(1, 1), (2, 2)] rfl)⟩
  ·intro a w hR0
   rw [hR17] at hR0
   obtain ⟨rfl, hk, hs⟩ := hR0
   have H := HL16
   try dsimp only at H
   refine hK9 _ _ ?_
   apply wp_seq_k; intro K39 hK39
   apply wp_region_lit
   rcases ite_some H with ⟨c40, H⟩ | ⟨_, H⟩
   rotate_left
   ·cases H
   obtain ⟨b41, q42, hAc40⟩ := (o4.view).some_ (0 : Int) c40.1 (by rw [e0_]; exact c40.2)
   refine sia rfl hk rfl rfl rfl rfl un41 sz3 c40.1 c40.2 hAc40 fun a hk => ?_
   obtain ⟨_, rfl, e43⟩ := (o4.view).at_ 0 (0 : Int) c40.1 (by rw [e0_]; exact c40.2)
   refine sl (v := (.int .i64 (x0.getD (0 : Int).toNat 0))) rfl hk rfl rfl rfl ag3 ((e43 0 _ rfl).cell (hs.hasG (k := 1) rfl)) fun a hk => ?_
   rcases ite_some H with ⟨c44, H⟩ | ⟨_, H⟩
   rotate_left
   ·cases H
   obtain ⟨b45, q46, hAc44⟩ := (o4.view).some_ (1 : Int) c44.1 (by rw [e0_]; exact c44.2)
   refine sia rfl hk rfl rfl rfl rfl un41 sz3 c44.1 c44.2 hAc44 fun a hk => ?_
   obtain ⟨_, rfl, e47⟩ := (o4.view).at_ 0 (1 : Int) c44.1 (by rw [e0_]; exact c44.2)
   refine sl (v := (.int .i64 (x0.getD (1 : Int).toNat 0))) rfl hk rfl rfl rfl ag3 ((e47 0 _ rfl).cell (hs.hasG (k := 1) rfl)) fun a hk => ?_
   rcases ite_some H with ⟨c48, H⟩ | ⟨_, H⟩
   rotate_left
   ·cases H
   obtain ⟨b49, q50, hAc48⟩ := (o4.view).some_ (2 : Int) c48.1 (by rw [e0_]; exact c48.2)
   refine sia rfl hk rfl rfl rfl rfl un41 sz3 c48.1 c48.2 hAc48 fun a hk => ?_
   obtain ⟨_, rfl, e51⟩ := (o4.view).at_ 0 (2 : Int) c48.1 (by rw [e0_]; exact c48.2)
   refine sl (v := (.int .i64 (x0.getD (2 : Int).toNat 0))) rfl hk rfl rfl rfl ag3 ((e51 0 _ rfl).cell (hs.hasG (k := 1) rfl)) fun a hk => ?_
   rcases ite_some H with ⟨c52, H⟩ | ⟨_, H⟩
   rotate_left
   ·cases H
   obtain ⟨b53, q54, hAc52⟩ := (o4.view).some_ (3 : Int) c52.1 (by rw [e0_]; exact c52.2)
   refine sia rfl hk rfl rfl rfl rfl un41 sz3 c52.1 c52.2 hAc52 fun a hk => ?_
   obtain ⟨_, rfl, e55⟩ := (o4.view).at_ 0 (3 : Int) c52.1 (by rw [e0_]; exact c52.2)
   refine sl (v := (.int .i64 (x0.getD (3 : Int).toNat 0))) rfl hk rfl rfl rfl ag3 ((e55 0 _ rfl).cell (hs.hasG (k := 1) rfl)) fun a hk => ?_
   obtain ⟨y56, h57, H⟩ := bind_some H
   refine sc rfl en68 hk rfl rfl rfl (spec_l02Quarter_t _ (x0.getD (0 : Int).toNat 0) (x0.getD (1 : Int).toNat 0) (x0.getD (2 : Int).toNat 0) (x0.getD (3 : Int).toNat 0) _ h57) ?_
   rintro _ w ⟨rfl, lh58, hG⟩ a hk
   have hs := hs.call0 hG
   refine sswa 2 y56 hs rfl o7 lh8 lh58 rfl rfl hk rfl rfl rfl rfl sz41 fun k59 w a hk o60 hs => ?_
   refine sa _ rfl hk rfl rfl rfl fun a hk => ?_
   show wpList _ _ _ [] _ _
   refine wpList_nil ?_
   refine hK39 _ _ ?_
   have hs := hs.pick [(2, 2)] rfl
   refine wp_ret ?_
   obtain rfl := Option.some.inj H
   exact fin hk _ [(aggI .i64 y56), (.int .i64 0)] rfl ⟨⟨_, rfl, run_loadA ag41 sz41 o60 lh58 hs (q := 2) rfl⟩, ⟨rfl, trivial⟩⟩ ⟨rfl, lh58, (hs.pick [] rfl).dnil⟩

noncomputable def laws_FnStream.f (l0 : List Int) (l1 : List Int) : Option (Bool) :=
  (((bif (decide ((l0.length : Int) > 1048576)) then (some true) else (some (decide ((l1.length : Int) > 1048576)))) : Option (Bool)).bind fun u5 => (bif u5 then (some true) else ((spec_KeyOf.f l0).bind fun y14 => ((spec_NonceDrawn.f l1).bind fun y17 => ((laws_at.f l0 0 80).bind fun y20 => ((spec_BytesOf.f l1 (w64 (70 + y20))).bind fun y22 => ((impl_ChaXor.f y14 y17 3 y22).bind fun y25 => ((spec_ChaXor.f y14 y17 3 y22).bind fun y28 => ((impl_ChaXor.f y14 y17 3 y25.1).bind fun y31 => (if 0 ≤ (64 : Int) ∧ (64 : Int) ≤ (y22.size : Int) then ((impl_ChaXor.f y14 y17 4 (y22.extract (64 : Int).toNat y22.size)).bind fun y35 => ((impl_ChaBlock.f y14 y17 3).bind fun y38 => (if 0 ≤ (64 : Int) ∧ (64 : Int) ≤ (y22.size : Int) then ((impl_XorOf.f y38.1 (y22.extract 0 (64 : Int).toNat)).bind fun y42 => ((laws_at.f l0 1 9).bind fun y45 => ((laws_at.f l0 2 9).bind fun y47 => ((laws_at.f l1 3 9).bind fun y49 => ((laws_at.f l1 4 9).bind fun y51 => ((impl_QuarterRound.f ([y45, y47, y49, y51] : List Int)).bind fun y54 => ((laws_at.f l0 1 9).bind fun y64 => ((laws_at.f l0 2 9).bind fun y66 => ((laws_at.f l1 3 9).bind fun y68 => ((laws_at.f l1 4 9).bind fun y70 => ((spec_QuarterRound.f ([y64, y66, y68, y70] : List Int)).bind fun y73 => (((bif (y25.2 == 0) then (bif (y25.1.toList == y28.1.toList) then (bif (y31.2 == 0) then (bif (y31.1.toList == y22.toList) then (bif (y35.2 == 0) then (if 0 ≤ (64 : Int) ∧ (64 : Int) ≤ (y25.1.size : Int) then (bif ((y25.1.extract (64 : Int).toNat y25.1.size).toList == y35.1.toList) then (bif (y38.2 == 0) then (bif (y42.2 == 0) then (if 0 ≤ (64 : Int) ∧ (64 : Int) ≤ (y25.1.size : Int) then (bif ((y25.1.extract 0 (64 : Int).toNat).toList == y42.1.toList) then (bif (y54.2 == 0) then (some (y54.1 == y73.1)) else (some false)) else (some false)) else none) else (some false)) else (some false)) else (some false)) else none) else (some false)) else (some false)) else (some false)) else (some false)) else (some false)) : Option (Bool)).bind fun u84 => (some u84))))))))))))) else none))) else none))))))))))
set_option maxRecDepth 100000 in
set_option maxHeartbeats 0 in
theorem laws_FnStream_t (w0 : World) (A0_ : Option Addr) (p0_ : Nat) (l0 : List Int) (k0_ : Chunk) (v0_ : View (Lay.int .u8) A0_ p0_ l0 k0_) (w0_ : Has w0 k0_) (A1_ : Option Addr) (p1_ : Nat) (l1 : List Int) (k1_ : Chunk) (v1_ : View (Lay.int .u8) A1_ p1_ l1 k1_) (w1_ : Has w0 k1_) (r : Bool) (H : laws_FnStream.f l0 l1 = some r) :
    Calls Try.prog 5 #[.slice A0_ l0.length p0_, .slice A1_ l1.length p1_] w0 (Ret (fun v w => v = .bool r ∧ Sat [] w0 w [] [])) := by
  have hs : Sat [] w0 w0 [(1, k0_), (2, k1_)] [] := Sat.init w0 [(1, k0_), (2, k1_)] [] (by simp only [List.mem_cons, List.not_mem_nil, or_false]; rintro x (rfl | rfl) <;> assumption) (by simp) List.nodup_nil (by simp [blks])
  unfold laws_FnStream.f at H
  refine enter Try.func5 rfl Try.ntmps5 rfl fun a hk => ?_
  apply wp_seq_k; intro K1 hK1
  apply wp_region_lit
  refine sa _ rfl hk rfl rfl rfl fun a hk => ?_
  show wpList _ _ _ [] _ _
  refine wpList_nil ?_
  refine hK1 _ _ ?_
  apply wp_seq_k; intro K2 hK2
  apply wp_seq_k; intro K3 hK3
  obtain ⟨o6, h7, HL8⟩ := bind_some H
  clear H
  obtain ⟨R9, hR9⟩ : ∃ R : Act → World → Prop, R = fun a w => ∃ (u5 : Bool), u5 = o6 ∧ Kn [(0, (.slice A0_ l0.length p0_)), (1, (.slice A1_ l1.length p1_)), (31, (.bool u5))] 158 a ∧ Sat [] w0 w [(1, k0_), (2, k1_)] [] := ⟨_, rfl⟩
  refine wp_cutq R9 ?_ ?_
  ·have H := h7
   apply wp_region_lit
   refine sm _ rfl hk rfl rfl rfl fun a hk => ?_
   refine sle rfl hk rfl rfl rfl un22 fun a hk => ?_
   refine sv (.bool (decide ((l0.length : Int) > 1048576))) hk rfl rfl rfl fun a hk => ?_
   refine sm _ rfl hk rfl rfl rfl fun a hk => ?_
   rcases cond_some H with ⟨c10, H⟩ | ⟨c10, H⟩
   ·have hk := hk.lit 27 c10 rfl
    refine sk hk rfl rfl rfl fun a hk => ?_
    refine sk hk rfl rfl rfl fun a hk => ?_
    refine sk hk rfl rfl rfl fun a hk => ?_
    refine sv (.bool true) hk rfl rfl rfl fun a hk => ?_
    show wpList _ _ _ [] _ _
    refine wpList_nil ?_
    obtain rfl := Option.some.inj H
    show R9 _ _
    rw [hR9]
    exact ⟨true, rfl, (hk.c 0 rfl (hk.c 1 rfl (hk.c 31 rfl hk.k))), (hs.pick [] rfl)⟩
   ·have hk := hk.lit 27 c10 rfl
    refine sm _ rfl hk rfl rfl rfl fun a hk => ?_
    refine sle rfl hk rfl rfl rfl un22 fun a hk => ?_
    refine sv (.bool (decide ((l1.length : Int) > 1048576))) hk rfl rfl rfl fun a hk => ?_
    refine sv (.bool (decide ((l1.length : Int) > 1048576))) hk rfl rfl rfl fun a hk => ?_
    show wpList _ _ _ [] _ _
    refine wpList_nil ?_
    obtain rfl := Option.some.inj H
    show R9 _ _
    rw [hR9]
    exact ⟨(decide ((l1.length : Int) > 1048576)), rfl, (hk.c 0 rfl (hk.c 1 rfl (hk.c 31 rfl hk.k))), (hs.pick [] rfl)⟩
  ·intro a w hR0
   rw [hR9] at hR0
   obtain ⟨u5, rfl, hk, hs⟩ := hR0
   have H := HL8
   try dsimp only at H
   refine hK3 _ _ ?_
   rcases cond_some H with ⟨c11, H⟩ | ⟨c11, H⟩
   ·have hk := hk.lit 31 c11 rfl
    refine cnd_true hk rfl rfl ?_
    apply wp_seq_k; intro K12 hK12
    apply wp_region_lit
    refine sa _ rfl hk rfl rfl rfl fun a hk => ?_
    show wpList _ _ _ [] _ _
    refine wpList_nil ?_
    refine hK12 _ _ ?_
    refine wp_ret ?_
    obtain rfl := Option.some.inj H
    exact fin hk _ [(.bool true)] rfl ⟨rfl, trivial⟩ ⟨rfl, (hs.pick [] rfl).dnil⟩
   ·have hk := hk.lit 31 c11 rfl
    refine cnd_false hk rfl rfl ?_
    refine wp_skip ?_
    refine hK2 _ _ ?_
    apply wp_seq_k; intro K13 hK13
    apply wp_region_lit
    refine sm _ rfl hk rfl rfl rfl fun a hk => ?_
    obtain ⟨y14, h15, H⟩ := bind_some H
    refine sc rfl en16 hk rfl rfl rfl (spec_KeyOf_t _ A0_ p0_ l0 _ v0_ (hs.hasD (k := 1) rfl) _ h15) ?_
    rintro _ w ⟨rfl, hG⟩ a hk
    have hs := hs.call0 hG
    refine sa _ rfl hk rfl rfl rfl fun a hk => ?_
    show wpList _ _ _ [] _ _
    refine wpList_nil ?_
    refine hK13 _ _ ?_
    have hs := hs.pick [] rfl
    apply wp_seq_k; intro K16 hK16
    apply wp_region_lit
    refine sm _ rfl hk rfl rfl rfl fun a hk => ?_
    obtain ⟨y17, h18, H⟩ := bind_some H
    refine sc rfl en22 hk rfl rfl rfl (spec_NonceDrawn_t _ A1_ p1_ l1 _ v1_ (hs.hasD (k := 2) rfl) _ h18) ?_
    rintro _ w ⟨rfl, hG⟩ a hk
    have hs := hs.call0 hG
    refine sa _ rfl hk rfl rfl rfl fun a hk => ?_
    show wpList _ _ _ [] _ _
    refine wpList_nil ?_
    refine hK16 _ _ ?_
    apply wp_seq_k; intro K19 hK19
    apply wp_region_lit
    refine sm _ rfl hk rfl rfl rfl fun a hk => ?_
    refine sm _ rfl hk rfl rfl rfl fun a hk => ?_
    obtain ⟨y20, h21, H⟩ := bind_some H
    refine sc rfl en11 hk rfl rfl rfl (laws_at_t _ A0_ p0_ l0 _ v0_ (hs.hasD (k := 1) rfl) 0 80 _ h21) ?_
    rintro _ w ⟨rfl, hG⟩ a hk
    have hs := hs.call0 hG
    refine sv (.int .i64 (w64 (70 + y20))) hk rfl rfl rfl fun a hk => ?_
    obtain ⟨y22, h23, H⟩ := bind_some H
    refine sc rfl en23 hk rfl rfl rfl (spec_BytesOf_t _ A1_ p1_ l1 _ v1_ (hs.hasD (k := 2) rfl) (w64 (70 + y20)) _ h23) ?_
    rintro _ w ⟨rfl, hG⟩ a hk
    have hs := hs.call0 hG
    refine sa _ rfl hk rfl rfl rfl fun a hk => ?_
    show wpList _ _ _ [] _ _
    refine wpList_nil ?_
    refine hK19 _ _ ?_
    apply wp_seq_k; intro K24 hK24
    apply wp_region_lit
    refine sm _ rfl hk rfl rfl rfl fun a hk => ?_
    refine sm _ rfl hk rfl rfl rfl fun a hk => ?_
    refine sm _ rfl hk rfl rfl rfl fun a hk => ?_
    obtain ⟨y25, h26, H⟩ := bind_some H
    refine sc rfl en24 hk rfl rfl rfl (impl_ChaXor_t _ y14 y17 3 y22 _ h26) ?_
    rintro _ w ⟨rfl, hG⟩ a hk
    have hs := hs.call0 hG
    refine sm _ rfl hk rfl rfl rfl fun a hk => ?_
    refine sv (.string y25.1) hk rfl rfl rfl fun a hk => ?_
    refine sv (.int .i64 y25.2) hk rfl rfl rfl fun a hk => ?_
    refine sa _ rfl hk rfl rfl rfl fun a hk => ?_
    refine sa _ rfl hk rfl rfl rfl fun a hk => ?_
    show wpList _ _ _ [] _ _
    refine wpList_nil ?_
    refine hK24 _ _ ?_
    apply wp_seq_k; intro K27 hK27
    apply wp_region_lit
    refine sm _ rfl hk rfl rfl rfl fun a hk => ?_
    refine sm _ rfl hk rfl rfl rfl fun a hk => ?_
    refine sm _ rfl hk rfl rfl rfl fun a hk => ?_
    obtain ⟨y28, h29, H⟩ := bind_some H
    refine sc rfl en25 hk rfl rfl rfl (spec_ChaXor_t _ y14 y17 3 y22 _ h29) ?_
    rintro _ w ⟨rfl, hG⟩ a hk
    have hs := hs.call0 hG
    refine sm _ rfl hk rfl rfl rfl fun a hk => ?_
    refine sv (.string y28.1) hk rfl rfl rfl fun a hk => ?_
    refine sv (.int .i64 y28.2) hk rfl rfl rfl fun a hk => ?_
    refine sa _ rfl hk rfl rfl rfl fun a hk => ?_
    refine sa _ rfl hk rfl rfl rfl fun a hk => ?_
    show wpList _ _ _ [] _ _
    refine wpList_nil ?_
    refine hK27 _ _ ?_
    have hs := hs.pick [] rfl
    apply wp_seq_k; intro K30 hK30
    apply wp_region_lit
    refine sm _ rfl hk rfl rfl rfl fun a hk => ?_
    refine sm _ rfl hk rfl rfl rfl fun a hk => ?_
    refine sm _ rfl hk rfl rfl rfl fun a hk => ?_
    obtain ⟨y31, h32, H⟩ := bind_some H
    refine sc rfl en24 hk rfl rfl rfl (impl_ChaXor_t _ y14 y17 3 y25.1 _ h32) ?_
    rintro _ w ⟨rfl, hG⟩ a hk
    have hs := hs.call0 hG
    refine sm _ rfl hk rfl rfl rfl fun a hk => ?_
    refine sv (.string y31.1) hk rfl rfl rfl fun a hk => ?_
    refine sv (.int .i64 y31.2) hk rfl rfl rfl fun a hk => ?_
    refine sa _ rfl hk rfl rfl rfl fun a hk => ?_
    refine sa _ rfl hk rfl rfl rfl fun a hk => ?_
    show wpList _ _ _ [] _ _
    refine wpList_nil ?_
    refine hK30 _ _ ?_
    apply wp_seq_k; intro K33 hK33
    apply wp_region_lit
    refine sm _ rfl hk rfl rfl rfl fun a hk => ?_
    refine sm _ rfl hk rfl rfl rfl fun a hk => ?_
    refine sm _ rfl hk rfl rfl rfl fun a hk => ?_
    rcases ite_some H with ⟨c34, H⟩ | ⟨_, H⟩
    rotate_left
    ·cases H
    refine ssl_l rfl hk rfl rfl rfl rfl un9 c34.1 c34.2 fun a hk => ?_
    obtain ⟨y35, h36, H⟩ := bind_some H
    refine sc rfl en24 hk rfl rfl rfl (impl_ChaXor_t _ y14 y17 4 (y22.extract (64 : Int).toNat y22.size) _ h36) ?_
    rintro _ w ⟨rfl, hG⟩ a hk
    have hs := hs.call0 hG
    refine sm _ rfl hk rfl rfl rfl fun a hk => ?_
    refine sv (.string y35.1) hk rfl rfl rfl fun a hk => ?_
    refine sv (.int .i64 y35.2) hk rfl rfl rfl fun a hk => ?_
    refine sa _ rfl hk rfl rfl rfl fun a hk => ?_
    refine sa _ rfl hk rfl rfl rfl fun a hk => ?_
    show wpList _ _ _ [] _ _
    refine wpList_nil ?_
    refine hK33 _ _ ?_
    apply wp_seq_k; intro K37 hK37
    apply wp_region_lit
    refine sm _ rfl hk rfl rfl rfl fun a hk => ?_
    refine sm _ rfl hk rfl rfl rfl fun a hk => ?_
    obtain ⟨y38, h39, H⟩ := bind_some H
    refine sc rfl en26 hk rfl rfl rfl (impl_ChaBlock_t _ y14 y17 3 _ h39) ?_
    rintro _ w ⟨rfl, hG⟩ a hk
    have hs := hs.call0 hG
    refine sm _ rfl hk rfl rfl rfl fun a hk => ?_
    refine sv (.string y38.1) hk rfl rfl rfl fun a hk => ?_
    refine sv (.int .i64 y38.2) hk rfl rfl rfl fun a hk => ?_
    refine sa _ rfl hk rfl rfl rfl fun a hk => ?_
    refine sa _ rfl hk rfl rfl rfl fun a hk => ?_
    show wpList _ _ _ [] _ _
    refine wpList_nil ?_
    refine hK37 _ _ ?_
    apply wp_seq_k; intro K40 hK40
    apply wp_region_lit
    refine sm _ rfl hk rfl rfl rfl fun a hk => ?_
    refine sm _ rfl hk rfl rfl rfl fun a hk => ?_
    rcases ite_some H with ⟨c41, H⟩ | ⟨_, H⟩
    rotate_left
    ·cases H
    refine ssl_h rfl hk rfl rfl rfl rfl un9 c41.1 c41.2 fun a hk => ?_
    obtain ⟨y42, h43, H⟩ := bind_some H
    refine sc rfl en27 hk rfl rfl rfl (impl_XorOf_t _ y38.1 (y22.extract 0 (64 : Int).toNat) _ h43) ?_
    rintro _ w ⟨rfl, hG⟩ a hk
    have hs := hs.call0 hG
    refine sm _ rfl hk rfl rfl rfl fun a hk => ?_
    refine sv (.string y42.1) hk rfl rfl rfl fun a hk => ?_
    refine sv (.int .i64 y42.2) hk rfl rfl rfl fun a hk => ?_
    refine sa _ rfl hk rfl rfl rfl fun a hk => ?_
    refine sa _ rfl hk rfl rfl rfl fun a hk => ?_
    show wpList _ _ _ [] _ _
    refine wpList_nil ?_
    refine hK40 _ _ ?_
    have hs := hs.pick [] rfl
    apply wp_seq_k; intro K44 hK44
    apply wp_region_lit
    refine sm _ rfl hk rfl rfl rfl fun a hk => ?_
    obtain ⟨y45, h46, H⟩ := bind_some H
    refine sc rfl en11 hk rfl rfl rfl (laws_at_t _ A0_ p0_ l0 _ v0_ (hs.hasD (k := 1) rfl) 1 9 _ h46) ?_
    rintro _ w ⟨rfl, hG⟩ a hk
    have hs := hs.call0 hG
    refine sm _ rfl hk rfl rfl rfl fun a hk => ?_
    obtain ⟨y47, h48, H⟩ := bind_some H
    refine sc rfl en11 hk rfl rfl rfl (laws_at_t _ A0_ p0_ l0 _ v0_ (hs.hasD (k := 1) rfl) 2 9 _ h48) ?_
    rintro _ w ⟨rfl, hG⟩ a hk
    have hs := hs.call0 hG
    refine sm _ rfl hk rfl rfl rfl fun a hk => ?_
    obtain ⟨y49, h50, H⟩ := bind_some H
    refine sc rfl en11 hk rfl rfl rfl (laws_at_t _ A1_ p1_ l1 _ v1_ (hs.hasD (k := 2) rfl) 3 9 _ h50) ?_
    rintro _ w ⟨rfl, hG⟩ a hk
    have hs := hs.call0 hG
    refine sm _ rfl hk rfl rfl rfl fun a hk => ?_
    obtain ⟨y51, h52, H⟩ := bind_some H
    refine sc rfl en11 hk rfl rfl rfl (laws_at_t _ A1_ p1_ l1 _ v1_ (hs.hasD (k := 2) rfl) 4 9 _ h52) ?_
    rintro _ w ⟨rfl, hG⟩ a hk
    have hs := hs.call0 hG
    refine sbd (pv := [(0, (.int .i64 y45)), (1, (.int .i64 y47)), (2, (.int .i64 y49)), (3, (.int .i64 y51))]) rfl hk rfl rfl rfl (bd41_6 y45 y47 y49 y51) fun a hk => ?_
    have lh53 : ([y45, y47, y49, y51] : List Int).length = 4 := rfl
    obtain ⟨y54, h55, H⟩ := bind_some H
    refine sc rfl en28 hk rfl rfl rfl (impl_QuarterRound_t _ ([y45, y47, y49, y51] : List Int) lh53 _ h55) ?_
    rintro _ w ⟨rfl, lh56, hG⟩ a hk
    have hs := hs.call0 hG
    refine sm _ rfl hk rfl rfl rfl fun a hk => ?_
    refine sv (aggI .i64 y54.1) hk rfl rfl rfl fun a hk => ?_
    refine sv (.int .i64 y54.2) hk rfl rfl rfl fun a hk => ?_
    refine sala 4 ((Lay.int .i64)) (m := 4) (z := 0) (zc := [.int .i64 0]) hs rfl hk rfl rfl ze41 (by exact ⟨rfl, rfl⟩) rfl rfl rfl fun b57 k58 w a hk o59 hs => ?_
    have lh60 : (List.replicate 4 (0 : Int)).length = 4 := List.length_replicate
    refine sswa 4 y54.1 hs rfl o59 lh60 lh56 rfl rfl hk rfl rfl rfl rfl sz41 fun k61 w a hk o62 hs => ?_
    refine sa _ rfl hk rfl rfl rfl fun a hk => ?_
    show wpList _ _ _ [] _ _
    refine wpList_nil ?_
    refine hK44 _ _ ?_
    apply wp_seq_k; intro K63 hK63
    apply wp_region_lit
    refine sm _ rfl hk rfl rfl rfl fun a hk => ?_
    obtain ⟨y64, h65, H⟩ := bind_some H
    refine sc rfl en11 hk rfl rfl rfl (laws_at_t _ A0_ p0_ l0 _ v0_ (hs.hasD (k := 1) rfl) 1 9 _ h65) ?_
    rintro _ w ⟨rfl, hG⟩ a hk
    have hs := hs.call0 hG
    refine sm _ rfl hk rfl rfl rfl fun a hk => ?_
    obtain ⟨y66, h67, H⟩ := bind_some H
    refine sc rfl en11 hk rfl rfl rfl (laws_at_t _ A0_ p0_ l0 _ v0_ (hs.hasD (k := 1) rfl) 2 9 _ h67) ?_
    rintro _ w ⟨rfl, hG⟩ a hk
    have hs := hs.call0 hG
    refine sm _ rfl hk rfl rfl rfl fun a hk => ?_
    obtain ⟨y68, h69, H⟩ := bind_some H
    refine sc rfl en11 hk rfl rfl rfl (laws_at_t _ A1_ p1_ l1 _ v1_ (hs.hasD (k := 2) rfl) 3 9 _ h69) ?_
    rintro _ w ⟨rfl, hG⟩ a hk
    have hs := hs.call0 hG
    refine sm _ rfl hk rfl rfl rfl fun a hk => ?_
    obtain ⟨y70, h71, H⟩ := bind_some H
    refine sc rfl en11 hk rfl rfl rfl (laws_at_t _ A1_ p1_ l1 _ v1_ (hs.hasD (k := 2) rfl) 4 9 _ h71) ?_
    rintro _ w ⟨rfl, hG⟩ a hk
    have hs := hs.call0 hG
    refine sbd (pv := [(0, (.int .i64 y64)), (1, (.int .i64 y66)), (2, (.int .i64 y68)), (3, (.int .i64 y70))]) rfl hk rfl rfl rfl (bd41_6 y64 y66 y68 y70) fun a hk => ?_
    have lh72 : ([y64, y66, y68, y70] : List Int).length = 4 := rfl
    obtain ⟨y73, h74, H⟩ := bind_some H
    refine sc rfl en29 hk rfl rfl rfl (spec_QuarterRound_t _ ([y64, y66, y68, y70] : List Int) lh72 _ h74) ?_
    rintro _ w ⟨rfl, lh75, hG⟩ a hk
    have hs := hs.call0 hG
    refine sm _ rfl hk rfl rfl rfl fun a hk => ?_
    refine sv (aggI .i64 y73.1) hk rfl rfl rfl fun a hk => ?_
    refine sv (.int .i64 y73.2) hk rfl rfl rfl fun a hk => ?_
    refine sala 5 ((Lay.int .i64)) (m := 4) (z := 0) (zc := [.int .i64 0]) hs rfl hk rfl rfl ze41 (by exact ⟨rfl, rfl⟩) rfl rfl rfl fun b76 k77 w a hk o78 hs => ?_
    have lh79 : (List.replicate 4 (0 : Int)).length = 4 := List.length_replicate
    refine sswa 5 y73.1 hs rfl o78 lh79 lh75 rfl rfl hk rfl rfl rfl rfl sz41 fun k80 w a hk o81 hs => ?_
    refine sa _ rfl hk rfl rfl rfl fun a hk => ?_
    show wpList _ _ _ [] _ _
    refine wpList_nil ?_
    refine hK63 _ _ ?_
    apply wp_seq_k; intro K82 hK82
    obtain ⟨o85, h86, HL87⟩ := bind_some H
    clear H
    obtain ⟨R88, hR88⟩ : ∃ R : Act → World → Prop, R = fun a w => ∃ (u84 : Bool), u84 = o85 ∧ Kn [(4, (.bool u84))] 158 a ∧ Sat [] w0 w [(1, k0_), (2, k1_)] [] := ⟨_, rfl⟩
    refine wp_cutq R88 ?_ ?_
    ·have H := h86
     apply wp_region_lit
     refine sm _ rfl hk rfl rfl rfl fun a hk => ?_
     refine sv (.bool (y25.2 == 0)) hk rfl rfl rfl fun a hk => ?_
     refine sm _ rfl hk rfl rfl rfl fun a hk => ?_
     rcases cond_some H with ⟨c89, H⟩ | ⟨c89, H⟩
     ·have hk := hk.lit 111 c89 rfl
      refine sm _ rfl hk rfl rfl rfl fun a hk => ?_
      refine sm _ rfl hk rfl rfl rfl fun a hk => ?_
      refine sv (.bool (y25.1.toList == y28.1.toList)) hk rfl rfl rfl fun a hk => ?_
      refine sv (.bool (y25.1.toList == y28.1.toList)) hk rfl rfl rfl fun a hk => ?_
      refine sm _ rfl hk rfl rfl rfl fun a hk => ?_
      rcases cond_some H with ⟨c90, H⟩ | ⟨c90, H⟩
      ·have hk := hk.lit 116 c90 rfl
       refine sm _ rfl hk rfl rfl rfl fun a hk => ?_
       refine sv (.bool (y31.2 == 0)) hk rfl rfl rfl fun a hk => ?_
       refine sv (.bool (y31.2 == 0)) hk rfl rfl rfl fun a hk => ?_
       refine sm _ rfl hk rfl rfl rfl fun a hk => ?_
       rcases cond_some H with ⟨c91, H⟩ | ⟨c91, H⟩
       ·have hk := hk.lit 120 c91 rfl
        refine sm _ rfl hk rfl rfl rfl fun a hk => ?_
        refine sm _ rfl hk rfl rfl rfl fun a hk => ?_
        refine sv (.bool (y31.1.toList == y22.toList)) hk rfl rfl rfl fun a hk => ?_
        refine sv (.bool (y31.1.toList == y22.toList)) hk rfl rfl rfl fun a hk => ?_
        refine sm _ rfl hk rfl rfl rfl fun a hk => ?_
        rcases cond_some H with ⟨c92, H⟩ | ⟨c92, H⟩
        ·have hk := hk.lit 125 c92 rfl
         refine sm _ rfl hk rfl rfl rfl fun a hk => ?_
         refine sv (.bool (y35.2 == 0)) hk rfl rfl rfl fun a hk => ?_
         refine sv (.bool (y35.2 == 0)) hk rfl rfl rfl fun a hk => ?_
         refine sm _ rfl hk rfl rfl rfl fun a hk => ?_
         rcases cond_some H with ⟨c93, H⟩ | ⟨c93, H⟩
         ·have hk := hk.lit 129 c93 rfl
          refine sm _ rfl hk rfl rfl rfl fun a hk => ?_
          rcases ite_some H with ⟨c94, H⟩ | ⟨_, H⟩
          rotate_left
          ·cases H
          refine ssl_l rfl hk rfl rfl rfl rfl un9 c94.1 c94.2 fun a hk => ?_
          refine sm _ rfl hk rfl rfl rfl fun a hk => ?_
          refine sv (.bool ((y25.1.extract (64 : Int).toNat y25.1.size).toList == y35.1.toList)) hk rfl rfl rfl fun a hk => ?_
          refine sv (.bool ((y25.1.extract (64 : Int).toNat y25.1.size).toList == y35.1.toList)) hk rfl rfl rfl fun a hk => ?_
          refine sm _ rfl hk rfl rfl rfl fun a hk => ?_
          rcases cond_some H with ⟨c95, H⟩ | ⟨c95, H⟩
          ·have hk := hk.lit 135 c95 rfl
           refine sm _ rfl hk rfl rfl rfl fun a hk => ?_
           refine sv (.bool (y38.2 == 0)) hk rfl rfl rfl fun a hk => ?_
           refine sv (.bool (y38.2 == 0)) hk rfl rfl rfl fun a hk => ?_
           refine sm _ rfl hk rfl rfl rfl fun a hk => ?_
           rcases cond_some H with ⟨c96, H⟩ | ⟨c96, H⟩
           ·have hk := hk.lit 139 c96 rfl
            refine sm _ rfl hk rfl rfl rfl fun a hk => ?_
            refine sv (.bool (y42.2 == 0)) hk rfl rfl rfl fun a hk => ?_
            refine sv (.bool (y42.2 == 0)) hk rfl rfl rfl fun a hk => ?_
            refine sm _ rfl hk rfl rfl rfl fun a hk => ?_
            rcases cond_some H with ⟨c97, H⟩ | ⟨c97, H⟩
            ·have hk := hk.lit 143 c97 rfl
             refine sm _ rfl hk rfl rfl rfl fun a hk => ?_
             rcases ite_some H with ⟨c98, H⟩ | ⟨_, H⟩
             rotate_left
             ·cases H
             refine ssl_h rfl hk rfl rfl rfl rfl un9 c98.1 c98.2 fun a hk => ?_
             refine sm _ rfl hk rfl rfl rfl fun a hk => ?_
             refine sv (.bool ((y25.1.extract 0 (64 : Int).toNat).toList == y42.1.toList)) hk rfl rfl rfl fun a hk => ?_
             refine sv (.bool ((y25.1.extract 0 (64 : Int).toNat).toList == y42.1.toList)) hk rfl rfl rfl fun a hk => ?_
             refine sm _ rfl hk rfl rfl rfl fun a hk => ?_
             rcases cond_some H with ⟨c99, H⟩ | ⟨c99, H⟩
             ·have hk := hk.lit 149 c99 rfl
              refine sm _ rfl hk rfl rfl rfl fun a hk => ?_
              refine sv (.bool (y54.2 == 0)) hk rfl rfl rfl fun a hk => ?_
              refine sv (.bool (y54.2 == 0)) hk rfl rfl rfl fun a hk => ?_
              refine sm _ rfl hk rfl rfl rfl fun a hk => ?_
              rcases cond_some H with ⟨c100, H⟩ | ⟨c100, H⟩
              ·have hk := hk.lit 153 c100 rfl
               refine slna (k := 4) hs rfl o62 lh56 rfl hk rfl rfl rfl ag41 sz41 fun a hk => ?_
               refine slna (k := 5) hs rfl o81 lh75 rfl hk rfl rfl rfl ag41 sz41 fun a hk => ?_
               refine seqi rfl hk rfl rfl rfl rfl eg41 un41 (by kernel_rfl) cz_3 un3 ag3 lh56 lh75 fun a hk => ?_
               refine sv (.bool (y54.1 == y73.1)) hk rfl rfl rfl fun a hk => ?_
               refine sa _ rfl hk rfl rfl rfl fun a hk => ?_
               show wpList _ _ _ [] _ _
               refine wpList_nil ?_
               obtain rfl := Option.some.inj H
               show R88 _ _
               rw [hR88]
               exact ⟨(y54.1 == y73.1), rfl, (hk.c 4 rfl hk.k), (hs.pick [] rfl)⟩
              ·have hk := hk.lit 153 c100 rfl
               refine sk hk rfl rfl rfl fun a hk => ?_
               refine sk hk rfl rfl rfl fun a hk => ?_
               refine sk hk rfl rfl rfl fun a hk => ?_
               refine sv (.bool false) hk rfl rfl rfl fun a hk => ?_
               refine sa _ rfl hk rfl rfl rfl fun a hk => ?_
               show wpList _ _ _ [] _ _
               refine wpList_nil ?_
               obtain rfl := Option.some.inj H
               show R88 _ _
               rw [hR88]
               exact ⟨false, rfl, (hk.c 4 rfl hk.k), (hs.pick [] rfl)⟩
             ·have hk := hk.lit 149 c99 rfl
              refine sk hk rfl rfl rfl fun a hk => ?_
              refine sk hk rfl rfl rfl fun a hk => ?_
              refine sv (.bool false) hk rfl rfl rfl fun a hk => ?_
              refine sm _ rfl hk rfl rfl rfl fun a hk => ?_
              refine sk hk rfl rfl rfl fun a hk => ?_
              refine sk hk rfl rfl rfl fun a hk => ?_
              refine sk hk rfl rfl rfl fun a hk => ?_
              refine sv (.bool false) hk rfl rfl rfl fun a hk => ?_
              refine sa _ rfl hk rfl rfl rfl fun a hk => ?_
              show wpList _ _ _ [] _ _
              refine wpList_nil ?_
              obtain rfl := Option.some.inj H
              show R88 _ _
              rw [hR88]
              exact ⟨false, rfl, (hk.c 4 rfl hk.k), (hs.pick [] rfl)⟩
            ·have hk := hk.lit 143 c97 rfl
             refine sk hk rfl rfl rfl fun a hk => ?_
             refine sk hk rfl rfl rfl fun a hk => ?_
             refine sk hk rfl rfl rfl fun a hk => ?_
             refine sk hk rfl rfl rfl fun a hk => ?_
             refine sv (.bool false) hk rfl rfl rfl fun a hk => ?_
             refine sm _ rfl hk rfl rfl rfl fun a hk => ?_
             refine sk hk rfl rfl rfl fun a hk => ?_
             refine sk hk rfl rfl rfl fun a hk => ?_
             refine sv (.bool false) hk rfl rfl rfl fun a hk => ?_
             refine sm _ rfl hk rfl rfl rfl fun a hk => ?_
             refine sk hk rfl rfl rfl fun a hk => ?_
             refine sk hk rfl rfl rfl fun a hk => ?_
             refine sk hk rfl rfl rfl fun a hk => ?_
             refine sv (.bool false) hk rfl rfl rfl fun a hk => ?_
             refine sa _ rfl hk rfl rfl rfl fun a hk => ?_
             show wpList _ _ _ [] _ _
             refine wpList_nil ?_
             obtain rfl := Option.some.inj H
             show R88 _ _
             rw [hR88]
             exact ⟨false, rfl, (hk.c 4 rfl hk.k), (hs.pick [] rfl)⟩
           ·have hk := hk.lit 139 c96 rfl
            refine sk hk rfl rfl rfl fun a hk => ?_
            refine sk hk rfl rfl rfl fun a hk => ?_
            refine sv (.bool false) hk rfl rfl rfl fun a hk => ?_
            refine sm _ rfl hk rfl rfl rfl fun a hk => ?_
            refine sk hk rfl rfl rfl fun a hk => ?_
            refine sk hk rfl rfl rfl fun a hk => ?_
            refine sk hk rfl rfl rfl fun a hk => ?_
            refine sk hk rfl rfl rfl fun a hk => ?_
            refine sv (.bool false) hk rfl rfl rfl fun a hk => ?_
            refine sm _ rfl hk rfl rfl rfl fun a hk => ?_
            refine sk hk rfl rfl rfl fun a hk => ?_
            refine sk hk rfl rfl rfl fun a hk => ?_
            refine sv (.bool false) hk rfl rfl rfl fun a hk => ?_
            refine sm _ rfl hk rfl rfl rfl fun a hk => ?_
            refine sk hk rfl rfl rfl fun a hk => ?_
            refine sk hk rfl rfl rfl fun a hk => ?_
            refine sk hk rfl rfl rfl fun a hk => ?_
            refine sv (.bool false) hk rfl rfl rfl fun a hk => ?_
            refine sa _ rfl hk rfl rfl rfl fun a hk => ?_
            show wpList _ _ _ [] _ _
            refine wpList_nil ?_
            obtain rfl := Option.some.inj H
            show R88 _ _
            rw [hR88]
            exact ⟨false, rfl, (hk.c 4 rfl hk.k), (hs.pick [] rfl)⟩
          ·have hk := hk.lit 135 c95 rfl
           refine sk hk rfl rfl rfl fun a hk => ?_
           refine sk hk rfl rfl rfl fun a hk => ?_
           refine sv (.bool false) hk rfl rfl rfl fun a hk => ?_
           refine sm _ rfl hk rfl rfl rfl fun a hk => ?_
           refine sk hk rfl rfl rfl fun a hk => ?_
           refine sk hk rfl rfl rfl fun a hk => ?_
           refine sv (.bool false) hk rfl rfl rfl fun a hk => ?_
           refine sm _ rfl hk rfl rfl rfl fun a hk => ?_
           refine sk hk rfl rfl rfl fun a hk => ?_
           refine sk hk rfl rfl rfl fun a hk => ?_
           refine sk hk rfl rfl rfl fun a hk => ?_
           refine sk hk rfl rfl rfl fun a hk => ?_
           refine sv (.bool false) hk rfl rfl rfl fun a hk => ?_
           refine sm _ rfl hk rfl rfl rfl fun a hk => ?_
           refine sk hk rfl rfl rfl fun a hk => ?_
           refine sk hk rfl rfl rfl fun a hk => ?_
           refine sv (.bool false) hk rfl rfl rfl fun a hk => ?_
           refine sm _ rfl hk rfl rfl rfl fun a hk => ?_
           refine sk hk rfl rfl rfl fun a hk => ?_
           refine sk hk rfl rfl rfl fun a hk => ?_
           refine sk hk rfl rfl rfl fun a hk => ?_
           refine sv (.bool false) hk rfl rfl rfl fun a hk => ?_
           refine sa _ rfl hk rfl rfl rfl fun a hk => ?_
           show wpList _ _ _ [] _ _
           refine wpList_nil ?_
           obtain rfl := Option.some.inj H
           show R88 _ _
           rw [hR88]
           exact ⟨false, rfl, (hk.c 4 rfl hk.k), (hs.pick [] rfl)⟩
         ·have hk := hk.lit 129 c93 rfl
          refine sk hk rfl rfl rfl fun a hk => ?_
          refine sk hk rfl rfl rfl fun a hk => ?_
          refine sk hk rfl rfl rfl fun a hk => ?_
          refine sk hk rfl rfl rfl fun a hk => ?_
          refine sv (.bool false) hk rfl rfl rfl fun a hk => ?_
          refine sm _ rfl hk rfl rfl rfl fun a hk => ?_
          refine sk hk rfl rfl rfl fun a hk => ?_
          refine sk hk rfl rfl rfl fun a hk => ?_
          refine sv (.bool false) hk rfl rfl rfl fun a hk => ?_
          refine sm _ rfl hk rfl rfl rfl fun a hk => ?_
          refine sk hk rfl rfl rfl fun a hk => ?_
          refine sk hk rfl rfl rfl fun a hk => ?_
          refine sv (.bool false) hk rfl rfl rfl fun a hk => ?_
          refine sm _ rfl hk rfl rfl rfl fun a hk => ?_
          refine sk hk rfl rfl rfl fun a hk => ?_
          refine sk hk rfl rfl rfl fun a hk => ?_
          refine sk hk rfl rfl rfl fun a hk => ?_
          refine sk hk rfl rfl rfl fun a hk => ?_
          refine sv (.bool false) hk rfl rfl rfl fun a hk => ?_
          refine sm _ rfl hk rfl rfl rfl fun a hk => ?_
          refine sk hk rfl rfl rfl fun a hk => ?_
          refine sk hk rfl rfl rfl fun a hk => ?_
          refine sv (.bool false) hk rfl rfl rfl fun a hk => ?_
          refine sm _ rfl hk rfl rfl rfl fun a hk => ?_
          refine sk hk rfl rfl rfl fun a hk => ?_
          refine sk hk rfl rfl rfl fun a hk => ?_
          refine sk hk rfl rfl rfl fun a hk => ?_
          refine sv (.bool false) hk rfl rfl rfl fun a hk => ?_
          refine sa _ rfl hk rfl rfl rfl fun a hk => ?_
          show wpList _ _ _ [] _ _
          refine wpList_nil ?_
          obtain rfl := Option.some.inj H
          show R88 _ _
          rw [hR88]
          exact ⟨false, rfl, (hk.c 4 rfl hk.k), (hs.pick [] rfl)⟩
        ·have hk := hk.lit 125 c92 rfl
         refine sk hk rfl rfl rfl fun a hk => ?_
         refine sk hk rfl rfl rfl fun a hk => ?_
         refine sv (.bool false) hk rfl rfl rfl fun a hk => ?_
         refine sm _ rfl hk rfl rfl rfl fun a hk => ?_
         refine sk hk rfl rfl rfl fun a hk => ?_
         refine sk hk rfl rfl rfl fun a hk => ?_
         refine sk hk rfl rfl rfl fun a hk => ?_
         refine sk hk rfl rfl rfl fun a hk => ?_
         refine sv (.bool false) hk rfl rfl rfl fun a hk => ?_
         refine sm _ rfl hk rfl rfl rfl fun a hk => ?_
         refine sk hk rfl rfl rfl fun a hk => ?_
         refine sk hk rfl rfl rfl fun a hk => ?_
         refine sv (.bool false) hk rfl rfl rfl fun a hk => ?_
         refine sm _ rfl hk rfl rfl rfl fun a hk => ?_
         refine sk hk rfl rfl rfl fun a hk => ?_
         refine sk hk rfl rfl rfl fun a hk => ?_
         refine sv (.bool false) hk rfl rfl rfl fun a hk => ?_
         refine sm _ rfl hk rfl rfl rfl fun a hk => ?_
         refine sk hk rfl rfl rfl fun a hk => ?_
         refine sk hk rfl rfl rfl fun a hk => ?_
         refine sk hk rfl rfl rfl fun a hk => ?_
         refine sk hk rfl rfl rfl fun a hk => ?_
         refine sv (.bool false) hk rfl rfl rfl fun a hk => ?_
         refine sm _ rfl hk rfl rfl rfl fun a hk => ?_
         refine sk hk rfl rfl rfl fun a hk => ?_
         refine sk hk rfl rfl rfl fun a hk => ?_
         refine sv (.bool false) hk rfl rfl rfl fun a hk => ?_
         refine sm _ rfl hk rfl rfl rfl fun a hk => ?_
         refine sk hk rfl rfl rfl fun a hk => ?_
         refine sk hk rfl rfl rfl fun a hk => ?_
         refine sk hk rfl rfl rfl fun a hk => ?_
         refine sv (.bool false) hk rfl rfl rfl fun a hk => ?_
         refine sa _ rfl hk rfl rfl rfl fun a hk => ?_
         show wpList _ _ _ [] _ _
         refine wpList_nil ?_
         obtain rfl := Option.some.inj H
         show R88 _ _
         rw [hR88]
         exact ⟨false, rfl, (hk.c 4 rfl hk.k), (hs.pick [] rfl)⟩
       ·have hk := hk.lit 120 c91 rfl
        refine sk hk rfl rfl rfl fun a hk => ?_
        refine sk hk rfl rfl rfl fun a hk => ?_
        refine sk hk rfl rfl rfl fun a hk => ?_
        refine sv (.bool false) hk rfl rfl rfl fun a hk => ?_
        refine sm _ rfl hk rfl rfl rfl fun a hk => ?_
        refine sk hk rfl rfl rfl fun a hk => ?_
        refine sk hk rfl rfl rfl fun a hk => ?_
        refine sv (.bool false) hk rfl rfl rfl fun a hk => ?_
        refine sm _ rfl hk rfl rfl rfl fun a hk => ?_
        refine sk hk rfl rfl rfl fun a hk => ?_
        refine sk hk rfl rfl rfl fun a hk => ?_
        refine sk hk rfl rfl rfl fun a hk => ?_
        refine sk hk rfl rfl rfl fun a hk => ?_
        refine sv (.bool false) hk rfl rfl rfl fun a hk => ?_
        refine sm _ rfl hk rfl rfl rfl fun a hk => ?_
        refine sk hk rfl rfl rfl fun a hk => ?_
        refine sk hk rfl rfl rfl fun a hk => ?_
        refine sv (.bool false) hk rfl rfl rfl fun a hk => ?_
        refine sm _ rfl hk rfl rfl rfl fun a hk => ?_
        refine sk hk rfl rfl rfl fun a hk => ?_
        refine sk hk rfl rfl rfl fun a hk => ?_
        refine sv (.bool false) hk rfl rfl rfl fun a hk => ?_
        refine sm _ rfl hk rfl rfl rfl fun a hk => ?_
        refine sk hk rfl rfl rfl fun a hk => ?_
        refine sk hk rfl rfl rfl fun a hk => ?_
        refine sk hk rfl rfl rfl fun a hk => ?_
        refine sk hk rfl rfl rfl fun a hk => ?_
        refine sv (.bool false) hk rfl rfl rfl fun a hk => ?_
        refine sm _ rfl hk rfl rfl rfl fun a hk => ?_
        refine sk hk rfl rfl rfl fun a hk => ?_
        refine sk hk rfl rfl rfl fun a hk => ?_
        refine sv (.bool false) hk rfl rfl rfl fun a hk => ?_
        refine sm _ rfl hk rfl rfl rfl fun a hk => ?_
        refine sk hk rfl rfl rfl fun a hk => ?_
        refine sk hk rfl rfl rfl fun a hk => ?_
        refine sk hk rfl rfl rfl fun a hk => ?_
        refine sv (.bool false) hk rfl rfl rfl fun a hk => ?_
        refine sa _ rfl hk rfl rfl rfl fun a hk => ?_
        show wpList _ _ _ [] _ _
        refine wpList_nil ?_
        obtain rfl := Option.some.inj H
        show R88 _ _
        rw [hR88]
        exact ⟨false, rfl, (hk.c 4 rfl hk.k), (hs.pick [] rfl)⟩
      ·have hk := hk.lit 116 c90 rfl
       refine sk hk rfl rfl rfl fun a hk => ?_
       refine sk hk rfl rfl rfl fun a hk => ?_
       refine sv (.bool false) hk rfl rfl rfl fun a hk => ?_
       refine sm _ rfl hk rfl rfl rfl fun a hk => ?_
       refine sk hk rfl rfl rfl fun a hk => ?_
       refine sk hk rfl rfl rfl fun a hk => ?_
       refine sk hk rfl rfl rfl fun a hk => ?_
       refine sv (.bool false) hk rfl rfl rfl fun a hk => ?_
       refine sm _ rfl hk rfl rfl rfl fun a hk => ?_
       refine sk hk rfl rfl rfl fun a hk => ?_
       refine sk hk rfl rfl rfl fun a hk => ?_
       refine sv (.bool false) hk rfl rfl rfl fun a hk => ?_
       refine sm _ rfl hk rfl rfl rfl fun a hk => ?_
       refine sk hk rfl rfl rfl fun a hk => ?_
       refine sk hk rfl rfl rfl fun a hk => ?_
       refine sk hk rfl rfl rfl fun a hk => ?_
       refine sk hk rfl rfl rfl fun a hk => ?_
       refine sv (.bool false) hk rfl rfl rfl fun a hk => ?_
       refine sm _ rfl hk rfl rfl rfl fun a hk => ?_
       refine sk hk rfl rfl rfl fun a hk => ?_
       refine sk hk rfl rfl rfl fun a hk => ?_
       refine sv (.bool false) hk rfl rfl rfl fun a hk => ?_
       refine sm _ rfl hk rfl rfl rfl fun a hk => ?_
       refine sk hk rfl rfl rfl fun a hk => ?_
       refine sk hk rfl rfl rfl fun a hk => ?_
       refine sv (.bool false) hk rfl rfl rfl fun a hk => ?_
       refine sm _ rfl hk rfl rfl rfl fun a hk => ?_
       refine sk hk rfl rfl rfl fun a hk => ?_
       refine sk hk rfl rfl rfl fun a hk => ?_
       refine sk hk rfl rfl rfl fun a hk => ?_
       refine sk hk rfl rfl rfl fun a hk => ?_
       refine sv (.bool false) hk rfl rfl rfl fun a hk => ?_
       refine sm _ rfl hk rfl rfl rfl fun a hk => ?_
       refine sk hk rfl rfl rfl fun a hk => ?_
       refine sk hk rfl rfl rfl fun a hk => ?_
       refine sv (.bool false) hk rfl rfl rfl fun a hk => ?_
       refine sm _ rfl hk rfl rfl rfl fun a hk => ?_
       refine sk hk rfl rfl rfl fun a hk => ?_
       refine sk hk rfl rfl rfl fun a hk => ?_
       refine sk hk rfl rfl rfl fun a hk => ?_
       refine sv (.bool false) hk rfl rfl rfl fun a hk => ?_
       refine sa _ rfl hk rfl rfl rfl fun a hk => ?_
       show wpList _ _ _ [] _ _
       refine wpList_nil ?_
       obtain rfl := Option.some.inj H
       show R88 _ _
       rw [hR88]
       exact ⟨false, rfl, (hk.c 4 rfl hk.k), (hs.pick [] rfl)⟩
     ·have hk := hk.lit 111 c89 rfl
      refine sk hk rfl rfl rfl fun a hk => ?_
      refine sk hk rfl rfl rfl fun a hk => ?_
      refine sk hk rfl rfl rfl fun a hk => ?_
      refine sv (.bool false) hk rfl rfl rfl fun a hk => ?_
      refine sm _ rfl hk rfl rfl rfl fun a hk => ?_
      refine sk hk rfl rfl rfl fun a hk => ?_
      refine sk hk rfl rfl rfl fun a hk => ?_
      refine sv (.bool false) hk rfl rfl rfl fun a hk => ?_
      refine sm _ rfl hk rfl rfl rfl fun a hk => ?_
      refine sk hk rfl rfl rfl fun a hk => ?_
      refine sk hk rfl rfl rfl fun a hk => ?_
      refine sk hk rfl rfl rfl fun a hk => ?_
      refine sv (.bool false) hk rfl rfl rfl fun a hk => ?_
      refine sm _ rfl hk rfl rfl rfl fun a hk => ?_
      refine sk hk rfl rfl rfl fun a hk => ?_
      refine sk hk rfl rfl rfl fun a hk => ?_
      refine sv (.bool false) hk rfl rfl rfl fun a hk => ?_
      refine sm _ rfl hk rfl rfl rfl fun a hk => ?_
      refine sk hk rfl rfl rfl fun a hk => ?_
      refine sk hk rfl rfl rfl fun a hk => ?_
      refine sk hk rfl rfl rfl fun a hk => ?_
      refine sk hk rfl rfl rfl fun a hk => ?_
      refine sv (.bool false) hk rfl rfl rfl fun a hk => ?_
      refine sm _ rfl hk rfl rfl rfl fun a hk => ?_
      refine sk hk rfl rfl rfl fun a hk => ?_
      refine sk hk rfl rfl rfl fun a hk => ?_
      refine sv (.bool false) hk rfl rfl rfl fun a hk => ?_
      refine sm _ rfl hk rfl rfl rfl fun a hk => ?_
      refine sk hk rfl rfl rfl fun a hk => ?_
      refine sk hk rfl rfl rfl fun a hk => ?_
      refine sv (.bool false) hk rfl rfl rfl fun a hk => ?_
      refine sm _ rfl hk rfl rfl rfl fun a hk => ?_
      refine sk hk rfl rfl rfl fun a hk => ?_
      refine sk hk rfl rfl rfl fun a hk => ?_
      refine sk hk rfl rfl rfl fun a hk => ?_
      refine sk hk rfl rfl rfl fun a hk => ?_
      refine sv (.bool false) hk rfl rfl rfl fun a hk => ?_
      refine sm _ rfl hk rfl rfl rfl fun a hk => ?_
      refine sk hk rfl rfl rfl fun a hk => ?_
      refine sk hk rfl rfl rfl fun a hk => ?_
      refine sv (.bool false) hk rfl rfl rfl fun a hk => ?_
      refine sm _ rfl hk rfl rfl rfl fun a hk => ?_
      refine sk hk rfl rfl rfl fun a hk => ?_
      refine sk hk rfl rfl rfl fun a hk => ?_
      refine sk hk rfl rfl rfl fun a hk => ?_
      refine sv (.bool false) hk rfl rfl rfl fun a hk => ?_
      refine sa _ rfl hk rfl rfl rfl fun a hk => ?_
      show wpList _ _ _ [] _ _
      refine wpList_nil ?_
      obtain rfl := Option.some.inj H
      show R88 _ _
      rw [hR88]
      exact ⟨false, rfl, (hk.c 4 rfl hk.k), (hs.pick [] rfl)⟩
    ·intro a w hR0
     rw [hR88] at hR0
     obtain ⟨u84, rfl, hk, hs⟩ := hR0
     have H := HL87
     try dsimp only at H
     refine hK82 _ _ ?_
     refine wp_ret ?_
     obtain rfl := Option.some.inj H
     exact fin hk _ [(.bool u84)] rfl ⟨rfl, trivial⟩ ⟨rfl, (hs.pick [] rfl).dnil⟩

end Go.Proofs.Yteklgnhfgdhdiaa
