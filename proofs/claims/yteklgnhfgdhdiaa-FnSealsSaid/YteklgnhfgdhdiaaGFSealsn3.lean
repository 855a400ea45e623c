/- Further functions. -/
import Derived.Test.YteklgnhfgdhdiaaGFSealsn2
namespace Go.Proofs.Yteklgnhfgdhdiaa
open Go Go.Z Go.Proofs Go.MuLone Go.ChangeShapes Go.WideShapes Go.ChangeAt Go.RowKit
set_option linter.unusedVariables false
set_option linter.unusedSimpArgs false
noncomputable def laws_FnSeals.f (l0 : List Int) (l1 : List Int) : Option (Bool) :=
  (((bif (decide ((l0.length : Int) > 1048576)) then (some true) else (some (decide ((l1.length : Int) > 1048576)))) : Option (Bool)).bind fun u5 => (bif u5 then (some true) else ((spec_KeyOf.f l0).bind fun y14 => ((spec_TextOf.f l1).bind fun y17 => ((laws_at.f l1 0 3).bind fun y20 => ((laws_at.f l1 1 39).bind fun y23 => ((laws_at.f l1 2 5000).bind fun y26 => ((impl_SealAt.f y14 (w64 (1 + y20)) y23 y26 y17).bind fun y29 => ((spec_SealAt.f y14 (w64 (1 + y20)) y23 y26 y17).bind fun y32 => ((impl_OpenAt.f y14 (w64 (1 + y20)) y23 y26 y29.1).bind fun y35 => ((impl_NonceOf.f (w64 (1 + y20)) y23 y26).bind fun y38 => ((impl_NonceOf.f (w64 (1 + y20)) (w64 (y23 + 1)) y26).bind fun y41 => ((impl_NonceOf.f (w64 (1 + y20)) y23 (w64 (y26 + 1))).bind fun y44 => ((laws_at.f l1 3 9).bind fun y47 => ((spec_DrawsOf.f l0 y47).bind fun y49 => ((impl_IntsText.f y49).bind fun y56 => ((impl_TextInts.f y56.1).bind fun y59 => (if y56.1.size + (⟨#[120]⟩ : ByteArray).size ≤ 1152921504606846976 then ((impl_TextInts.f (y56.1 ++ (⟨#[120]⟩ : ByteArray))).bind fun y67 => (((bif (y29.2 == 0) then (bif (y29.1.toList == y32.1.toList) then (bif (y35.2 == 0) then (bif (y35.1.toList == y17.toList) then (bif (y38.2 == 0) then (bif (y41.2 == 0) then (bif (y44.2 == 0) then (bif ((y38.1.size : Int) == 12) then (bif (!(y38.1.toList == y41.1.toList)) then (bif (!(y38.1.toList == y44.1.toList)) then (bif (!(y41.1.toList == y44.1.toList)) then (bif (y56.2 == 0) then (bif (y59.2 == 0) then ((laws_sameInts.f y59.1 y49).bind fun y93 => (bif y93 then (bif ((y56.1.size : Int) == (w64 (4 * (y49.length : Int)))) then (some (y67.2 == 3)) else (some false)) else (some false))) else (some false)) else (some false)) else (some false)) else (some false)) else (some false)) else (some false)) else (some false)) else (some false)) else (some false)) else (some false)) else (some false)) else (some false)) else (some false)) : Option (Bool)).bind fun u75 => (some u75))) else none))))))))))))))))))
set_option maxRecDepth 100000 in
set_option maxHeartbeats 0 in
theorem laws_FnSeals_t (w0 : World) (A0_ : Option Addr) (p0_ : Nat) (l0 : List Int) (k0_ : Chunk) (v0_ : View (Lay.int .u8) A0_ p0_ l0 k0_) (w0_ : Has w0 k0_) (A1_ : Option Addr) (p1_ : Nat) (l1 : List Int) (k1_ : Chunk) (v1_ : View (Lay.int .u8) A1_ p1_ l1 k1_) (w1_ : Has w0 k1_) (r : Bool) (H : laws_FnSeals.f l0 l1 = some r) :
    Calls Try.prog 7 #[.slice A0_ l0.length p0_, .slice A1_ l1.length p1_] w0 (Ret (fun v w => v = .bool r ∧ Sat [] w0 w [] [])) := by
  have hs : Sat [] w0 w0 [(1, k0_), (2, k1_)] [] := Sat.init w0 [(1, k0_), (2, k1_)] [] (by simp only [List.mem_cons, List.not_mem_nil, or_false]; rintro x (rfl | rfl) <;> assumption) (by simp) List.nodup_nil (by simp [blks])
  unfold laws_FnSeals.f at H
  refine enter Try.func7 rfl Try.ntmps7 rfl fun a hk => ?_
  apply wp_seq_k; intro K1 hK1
  apply wp_region_lit
  refine sa _ rfl hk rfl rfl rfl fun a hk => ?_
  show wpList _ _ _ [] _ _
  refine wpList_nil ?_
  refine hK1 _ _ ?_
  apply wp_seq_k; intro K2 hK2
  apply wp_seq_k; intro K3 hK3
  obtain ⟨o6, h7, HL8⟩ := bind_some H
  clear H
  obtain ⟨R9, hR9⟩ : ∃ R : Act → World → Prop, R = fun a w => ∃ (u5 : Bool), u5 = o6 ∧ Kn [(0, (.slice A0_ l0.length p0_)), (1, (.slice A1_ l1.length p1_)), (36, (.bool u5))] 191 a ∧ Sat [] w0 w [(1, k0_), (2, k1_)] [] := ⟨_, rfl⟩
  refine wp_cutq R9 ?_ ?_
  ·have H := h7
   apply wp_region_lit
   refine sm _ rfl hk rfl rfl rfl fun a hk => ?_
   refine sle rfl hk rfl rfl rfl un22 fun a hk => ?_
   refine sv (.bool (decide ((l0.length : Int) > 1048576))) hk rfl rfl rfl fun a hk => ?_
   refine sm _ rfl hk rfl rfl rfl fun a hk => ?_
   rcases cond_some H with ⟨c10, H⟩ | ⟨c10, H⟩
   ·have hk := hk.lit 32 c10 rfl
    refine sk hk rfl rfl rfl fun a hk => ?_
    refine sk hk rfl rfl rfl fun a hk => ?_
    refine sk hk rfl rfl rfl fun a hk => ?_
    refine sv (.bool true) hk rfl rfl rfl fun a hk => ?_
    show wpList _ _ _ [] _ _
    refine wpList_nil ?_
    obtain rfl := Option.some.inj H
    show R9 _ _
    rw [hR9]
    exact ⟨true, rfl, (hk.c 0 rfl (hk.c 1 rfl (hk.c 36 rfl hk.k))), (hs.pick [] rfl)⟩
   ·have hk := hk.lit 32 c10 rfl
    refine sm _ rfl hk rfl rfl rfl fun a hk => ?_
    refine sle rfl hk rfl rfl rfl un22 fun a hk => ?_
    refine sv (.bool (decide ((l1.length : Int) > 1048576))) hk rfl rfl rfl fun a hk => ?_
    refine sv (.bool (decide ((l1.length : Int) > 1048576))) hk rfl rfl rfl fun a hk => ?_
    show wpList _ _ _ [] _ _
    refine wpList_nil ?_
    obtain rfl := Option.some.inj H
    show R9 _ _
    rw [hR9]
    exact ⟨(decide ((l1.length : Int) > 1048576)), rfl, (hk.c 0 rfl (hk.c 1 rfl (hk.c 36 rfl hk.k))), (hs.pick [] rfl)⟩
  ·intro a w hR0
   rw [hR9] at hR0
   obtain ⟨u5, rfl, hk, hs⟩ := hR0
   have H := HL8
   try dsimp only at H
   refine hK3 _ _ ?_
   rcases cond_some H with ⟨c11, H⟩ | ⟨c11, H⟩
   ·have hk := hk.lit 36 c11 rfl
    refine cnd_true hk rfl rfl ?_
    apply wp_seq_k; intro K12 hK12
    apply wp_region_lit
    refine sa _ rfl hk rfl rfl rfl fun a hk => ?_
    show wpList _ _ _ [] _ _
    refine wpList_nil ?_
    refine hK12 _ _ ?_
    refine wp_ret ?_
    obtain rfl := Option.some.inj H
    exact fin hk _ [(.bool true)] rfl ⟨rfl, trivial⟩ ⟨rfl, (hs.pick [] rfl).dnil⟩
   ·have hk := hk.lit 36 c11 rfl
    refine cnd_false hk rfl rfl ?_
    refine wp_skip ?_
    refine hK2 _ _ ?_
    apply wp_seq_k; intro K13 hK13
    apply wp_region_lit
    refine sm _ rfl hk rfl rfl rfl fun a hk => ?_
    obtain ⟨y14, h15, H⟩ := bind_some H
    refine sc rfl en16 hk rfl rfl rfl (spec_KeyOf_t _ A0_ p0_ l0 _ v0_ (hs.hasD (k := 1) rfl) _ h15) ?_
    rintro _ w ⟨rfl, hG⟩ a hk
    have hs := hs.call0 hG
    refine sa _ rfl hk rfl rfl rfl fun a hk => ?_
    show wpList _ _ _ [] _ _
    refine wpList_nil ?_
    refine hK13 _ _ ?_
    have hs := hs.pick [] rfl
    apply wp_seq_k; intro K16 hK16
    apply wp_region_lit
    refine sm _ rfl hk rfl rfl rfl fun a hk => ?_
    obtain ⟨y17, h18, H⟩ := bind_some H
    refine sc rfl en8 hk rfl rfl rfl (spec_TextOf_t _ A1_ p1_ l1 _ v1_ (hs.hasD (k := 2) rfl) _ h18) ?_
    rintro _ w ⟨rfl, hG⟩ a hk
    have hs := hs.call0 hG
    refine sa _ rfl hk rfl rfl rfl fun a hk => ?_
    show wpList _ _ _ [] _ _
    refine wpList_nil ?_
    refine hK16 _ _ ?_
    apply wp_seq_k; intro K19 hK19
    apply wp_region_lit
    refine sm _ rfl hk rfl rfl rfl fun a hk => ?_
    obtain ⟨y20, h21, H⟩ := bind_some H
    refine sc rfl en11 hk rfl rfl rfl (laws_at_t _ A1_ p1_ l1 _ v1_ (hs.hasD (k := 2) rfl) 0 3 _ h21) ?_
    rintro _ w ⟨rfl, hG⟩ a hk
    have hs := hs.call0 hG
    refine sv (.int .i64 (w64 (1 + y20))) hk rfl rfl rfl fun a hk => ?_
    refine sa _ rfl hk rfl rfl rfl fun a hk => ?_
    show wpList _ _ _ [] _ _
    refine wpList_nil ?_
    refine hK19 _ _ ?_
    apply wp_seq_k; intro K22 hK22
    apply wp_region_lit
    refine sm _ rfl hk rfl rfl rfl fun a hk => ?_
    obtain ⟨y23, h24, H⟩ := bind_some H
    refine sc rfl en11 hk rfl rfl rfl (laws_at_t _ A1_ p1_ l1 _ v1_ (hs.hasD (k := 2) rfl) 1 39 _ h24) ?_
    rintro _ w ⟨rfl, hG⟩ a hk
    have hs := hs.call0 hG
    refine sa _ rfl hk rfl rfl rfl fun a hk => ?_
    show wpList _ _ _ [] _ _
    refine wpList_nil ?_
    refine hK22 _ _ ?_
    apply wp_seq_k; intro K25 hK25
    apply wp_region_lit
    refine sm _ rfl hk rfl rfl rfl fun a hk => ?_
    obtain ⟨y26, h27, H⟩ := bind_some H
    refine sc rfl en11 hk rfl rfl rfl (laws_at_t _ A1_ p1_ l1 _ v1_ (hs.hasD (k := 2) rfl) 2 5000 _ h27) ?_
    rintro _ w ⟨rfl, hG⟩ a hk
    have hs := hs.call0 hG
    refine sa _ rfl hk rfl rfl rfl fun a hk => ?_
    show wpList _ _ _ [] _ _
    refine wpList_nil ?_
    refine hK25 _ _ ?_
    have hs := hs.pick [] rfl
    apply wp_seq_k; intro K28 hK28
    apply wp_region_lit
    refine sm _ rfl hk rfl rfl rfl fun a hk => ?_
    refine sm _ rfl hk rfl rfl rfl fun a hk => ?_
    refine sm _ rfl hk rfl rfl rfl fun a hk => ?_
    refine sm _ rfl hk rfl rfl rfl fun a hk => ?_
    refine sm _ rfl hk rfl rfl rfl fun a hk => ?_
    obtain ⟨y29, h30, H⟩ := bind_some H
    refine sc rfl en35 hk rfl rfl rfl (impl_SealAt_t _ y14 (w64 (1 + y20)) y23 y26 y17 _ h30) ?_
    rintro _ w ⟨rfl, hG⟩ a hk
    have hs := hs.call0 hG
    refine sm _ rfl hk rfl rfl rfl fun a hk => ?_
    refine sv (.string y29.1) hk rfl rfl rfl fun a hk => ?_
    refine sv (.int .i64 y29.2) hk rfl rfl rfl fun a hk => ?_
    refine sa _ rfl hk rfl rfl rfl fun a hk => ?_
    refine sa _ rfl hk rfl rfl rfl fun a hk => ?_
    show wpList _ _ _ [] _ _
    refine wpList_nil ?_
    refine hK28 _ _ ?_
    apply wp_seq_k; intro K31 hK31
    apply wp_region_lit
    refine sm _ rfl hk rfl rfl rfl fun a hk => ?_
    refine sm _ rfl hk rfl rfl rfl fun a hk => ?_
    refine sm _ rfl hk rfl rfl rfl fun a hk => ?_
    refine sm _ rfl hk rfl rfl rfl fun a hk => ?_
    refine sm _ rfl hk rfl rfl rfl fun a hk => ?_
    obtain ⟨y32, h33, H⟩ := bind_some H
    refine sc rfl en36 hk rfl rfl rfl (spec_SealAt_t _ y14 (w64 (1 + y20)) y23 y26 y17 _ h33) ?_
    rintro _ w ⟨rfl, hG⟩ a hk
    have hs := hs.call0 hG
    refine sm _ rfl hk rfl rfl rfl fun a hk => ?_
    refine sv (.string y32.1) hk rfl rfl rfl fun a hk => ?_
    refine sv (.int .i64 y32.2) hk rfl rfl rfl fun a hk => ?_
    refine sa _ rfl hk rfl rfl rfl fun a hk => ?_
    refine sa _ rfl hk rfl rfl rfl fun a hk => ?_
    show wpList _ _ _ [] _ _
    refine wpList_nil ?_
    refine hK31 _ _ ?_
    apply wp_seq_k; intro K34 hK34
    apply wp_region_lit
    refine sm _ rfl hk rfl rfl rfl fun a hk => ?_
    refine sm _ rfl hk rfl rfl rfl fun a hk => ?_
    refine sm _ rfl hk rfl rfl rfl fun a hk => ?_
    refine sm _ rfl hk rfl rfl rfl fun a hk => ?_
    refine sm _ rfl hk rfl rfl rfl fun a hk => ?_
    obtain ⟨y35, h36, H⟩ := bind_some H
    refine sc rfl en37 hk rfl rfl rfl (impl_OpenAt_t _ y14 (w64 (1 + y20)) y23 y26 y29.1 _ h36) ?_
    rintro _ w ⟨rfl, hG⟩ a hk
    have hs := hs.call0 hG
    refine sm _ rfl hk rfl rfl rfl fun a hk => ?_
    refine sv (.string y35.1) hk rfl rfl rfl fun a hk => ?_
    refine sv (.int .i64 y35.2) hk rfl rfl rfl fun a hk => ?_
    refine sa _ rfl hk rfl rfl rfl fun a hk => ?_
    refine sa _ rfl hk rfl rfl rfl fun a hk => ?_
    show wpList _ _ _ [] _ _
    refine wpList_nil ?_
    refine hK34 _ _ ?_
    apply wp_seq_k; intro K37 hK37
    apply wp_region_lit
    refine sm _ rfl hk rfl rfl rfl fun a hk => ?_
    refine sm _ rfl hk rfl rfl rfl fun a hk => ?_
    refine sm _ rfl hk rfl rfl rfl fun a hk => ?_
    obtain ⟨y38, h39, H⟩ := bind_some H
    refine sc rfl en38 hk rfl rfl rfl (impl_NonceOf_t _ (w64 (1 + y20)) y23 y26 _ h39) ?_
    rintro _ w ⟨rfl, hG⟩ a hk
    have hs := hs.call0 hG
    refine sm _ rfl hk rfl rfl rfl fun a hk => ?_
    refine sv (.string y38.1) hk rfl rfl rfl fun a hk => ?_
    refine sv (.int .i64 y38.2) hk rfl rfl rfl fun a hk => ?_
    refine sa _ rfl hk rfl rfl rfl fun a hk => ?_
    refine sa _ rfl hk rfl rfl rfl fun a hk => ?_
    show wpList _ _ _ [] _ _
    refine wpList_nil ?_
    refine hK37 _ _ ?_
    have hs := hs.pick [] rfl
    apply wp_seq_k; intro K40 hK40
    apply wp_region_lit
    refine sm _ rfl hk rfl rfl rfl fun a hk => ?_
    refine sm _ rfl hk rfl rfl rfl fun a hk => ?_
    refine sv (.int .i64 (w64 (y23 + 1))) hk rfl rfl rfl fun a hk => ?_
    refine sm _ rfl hk rfl rfl rfl fun a hk => ?_
    obtain ⟨y41, h42, H⟩ := bind_some H
    refine sc rfl en38 hk rfl rfl rfl (impl_NonceOf_t _ (w64 (1 + y20)) (w64 (y23 + 1)) y26 _ h42) ?_
    rintro _ w ⟨rfl, hG⟩ a hk
    have hs := hs.call0 hG
    refine sm _ rfl hk rfl rfl rfl fun a hk => ?_
    refine sv (.string y41.1) hk rfl rfl rfl fun a hk => ?_
    refine sv (.int .i64 y41.2) hk rfl rfl rfl fun a hk => ?_
    refine sa _ rfl hk rfl rfl rfl fun a hk => ?_
    refine sa _ rfl hk rfl rfl rfl fun a hk => ?_
    show wpList _ _ _ [] _ _
    refine wpList_nil ?_
    refine hK40 _ _ ?_
    apply wp_seq_k; intro K43 hK43
    apply wp_region_lit
    refine sm _ rfl hk rfl rfl rfl fun a hk => ?_
    refine sm _ rfl hk rfl rfl rfl fun a hk => ?_
    refine sm _ rfl hk rfl rfl rfl fun a hk => ?_
    refine sv (.int .i64 (w64 (y26 + 1))) hk rfl rfl rfl fun a hk => ?_
    obtain ⟨y44, h45, H⟩ := bind_some H
    refine sc rfl en38 hk rfl rfl rfl (impl_NonceOf_t _ (w64 (1 + y20)) y23 (w64 (y26 + 1)) _ h45) ?_
    rintro _ w ⟨rfl, hG⟩ a hk
    have hs := hs.call0 hG
    refine sm _ rfl hk rfl rfl rfl fun a hk => ?_
    refine sv (.string y44.1) hk rfl rfl rfl fun a hk => ?_
    refine sv (.int .i64 y44.2) hk rfl rfl rfl fun a hk => ?_
    refine sa _ rfl hk rfl rfl rfl fun a hk => ?_
    refine sa _ rfl hk rfl rfl rfl fun a hk => ?_
    show wpList _ _ _ [] _ _
    refine wpList_nil ?_
    refine hK43 _ _ ?_
    apply wp_seq_k; intro K46 hK46
    apply wp_region_lit
    refine sm _ rfl hk rfl rfl rfl fun a hk => ?_
    refine sm _ rfl hk rfl rfl rfl fun a hk => ?_
    obtain ⟨y47, h48, H⟩ := bind_some H
    refine sc rfl en11 hk rfl rfl rfl (laws_at_t _ A1_ p1_ l1 _ v1_ (hs.hasD (k := 2) rfl) 3 9 _ h48) ?_
    rintro _ w ⟨rfl, hG⟩ a hk
    have hs := hs.call0 hG
    obtain ⟨y49, h50, H⟩ := bind_some H
    refine sc rfl en39 hk rfl rfl rfl (spec_DrawsOf_t _ A0_ p0_ l0 _ v0_ (hs.hasD (k := 1) rfl) y47 _ h50) ?_
    rintro _ w ⟨A51, p52, k53, rfl, o54, hG⟩ a hk
    have hs := hs.call0k hG [4] rfl
    refine sa _ rfl hk rfl rfl rfl fun a hk => ?_
    show wpList _ _ _ [] _ _
    refine wpList_nil ?_
    refine hK46 _ _ ?_
    apply wp_seq_k; intro K55 hK55
    apply wp_region_lit
    refine sm _ rfl hk rfl rfl rfl fun a hk => ?_
    obtain ⟨y56, h57, H⟩ := bind_some H
    refine sc rfl en40 hk rfl rfl rfl (impl_IntsText_t _ A51 p52 y49 _ o54.view (hs.hasG (k := 4) rfl) _ h57) ?_
    rintro _ w ⟨rfl, hG⟩ a hk
    have hs := hs.call0 hG
    refine sm _ rfl hk rfl rfl rfl fun a hk => ?_
    refine sv (.string y56.1) hk rfl rfl rfl fun a hk => ?_
    refine sv (.int .i64 y56.2) hk rfl rfl rfl fun a hk => ?_
    refine sa _ rfl hk rfl rfl rfl fun a hk => ?_
    refine sa _ rfl hk rfl rfl rfl fun a hk => ?_
    show wpList _ _ _ [] _ _
    refine wpList_nil ?_
    refine hK55 _ _ ?_
    have hs := hs.pick [(4, 4)] rfl
    apply wp_seq_k; intro K58 hK58
    apply wp_region_lit
    refine sm _ rfl hk rfl rfl rfl fun a hk => ?_
    obtain ⟨y59, h60, H⟩ := bind_some H
    refine sc rfl en41 hk rfl rfl rfl (impl_TextInts_t _ y56.1 _ h60) ?_
    rintro _ w ⟨A61, p62, k63, rfl, o64, hG⟩ a hk
    have hs := hs.call0k hG [5] rfl
    refine sm _ rfl hk rfl rfl rfl fun a hk => ?_
    refine sv (.slice A61 y59.1.length p62) hk rfl rfl rfl fun a hk => ?_
    refine sv (.int .i64 y59.2) hk rfl rfl rfl fun a hk => ?_
    refine sa _ rfl hk rfl rfl rfl fun a hk => ?_
    refine sa _ rfl hk rfl rfl rfl fun a hk => ?_
    show wpList _ _ _ [] _ _
    refine wpList_nil ?_
    refine hK58 _ _ ?_
    apply wp_seq_k; intro K65 hK65
    apply wp_region_lit
    refine sm _ rfl hk rfl rfl rfl fun a hk => ?_
    rcases ite_some H with ⟨c66, H⟩ | ⟨_, H⟩
    rotate_left
    ·cases H
    refine ssa rfl hk rfl rfl rfl rfl c66 fun a hk => ?_
    obtain ⟨y67, h68, H⟩ := bind_some H
    refine sc rfl en41 hk rfl rfl rfl (impl_TextInts_t _ (y56.1 ++ (⟨#[120]⟩ : ByteArray)) _ h68) ?_
    rintro _ w ⟨A69, p70, k71, rfl, o72, hG⟩ a hk
    have hs := hs.call0k hG [6] rfl
    refine sm _ rfl hk rfl rfl rfl fun a hk => ?_
    refine sv (.slice A69 y67.1.length p70) hk rfl rfl rfl fun a hk => ?_
    refine sv (.int .i64 y67.2) hk rfl rfl rfl fun a hk => ?_
    refine sa _ rfl hk rfl rfl rfl fun a hk => ?_
    refine sa _ rfl hk rfl rfl rfl fun a hk => ?_
    show wpList _ _ _ [] _ _
    refine wpList_nil ?_
    refine hK65 _ _ ?_
    apply wp_seq_k; intro K73 hK73
    obtain ⟨o76, h77, HL78⟩ := bind_some H
    clear H
    obtain ⟨R79, hR79⟩ : ∃ R : Act → World → Prop, R = fun a w => ∃ (u75 : Bool), u75 = o76 ∧ Kn [(4, (.bool u75))] 191 a ∧ Sat [] w0 w [(1, k0_), (2, k1_)] [] := ⟨_, rfl⟩
    refine wp_cutq R79 ?_ ?_
    ·have H := h77
     apply wp_region_lit
     refine sm _ rfl hk rfl rfl rfl fun a hk => ?_
     refine sv (.bool (y29.2 == 0)) hk rfl rfl rfl fun a hk => ?_
     refine sm _ rfl hk rfl rfl rfl fun a hk => ?_
     rcases cond_some H with ⟨c80, H⟩ | ⟨c80, H⟩
     ·have hk := hk.lit 120 c80 rfl
      refine sm _ rfl hk rfl rfl rfl fun a hk => ?_
      refine sm _ rfl hk rfl rfl rfl fun a hk => ?_
      refine sv (.bool (y29.1.toList == y32.1.toList)) hk rfl rfl rfl fun a hk => ?_
      refine sv (.bool (y29.1.toList == y32.1.toList)) hk rfl rfl rfl fun a hk => ?_
      refine sm _ rfl hk rfl rfl rfl fun a hk => ?_
      rcases cond_some H with ⟨c81, H⟩ | ⟨c81, H⟩
      ·have hk := hk.lit 125 c81 rfl
       refine sm _ rfl hk rfl rfl rfl fun a hk => ?_
       refine sv (.bool (y35.2 == 0)) hk rfl rfl rfl fun a hk => ?_
       refine sv (.bool (y35.2 == 0)) hk rfl rfl rfl fun a hk => ?_
       refine sm _ rfl hk rfl rfl rfl fun a hk => ?_
       rcases cond_some H with ⟨c82, H⟩ | ⟨c82, H⟩
       ·have hk := hk.lit 129 c82 rfl
        refine sm _ rfl hk rfl rfl rfl fun a hk => ?_
        refine sm _ rfl hk rfl rfl rfl fun a hk => ?_
        refine sv (.bool (y35.1.toList == y17.toList)) hk rfl rfl rfl fun a hk => ?_
        refine sv (.bool (y35.1.toList == y17.toList)) hk rfl rfl rfl fun a hk => ?_
        refine sm _ rfl hk rfl rfl rfl fun a hk => ?_
        rcases cond_some H with ⟨c83, H⟩ | ⟨c83, H⟩
        ·have hk := hk.lit 134 c83 rfl
         refine sm _ rfl hk rfl rfl rfl fun a hk => ?_
         refine sv (.bool (y38.2 == 0)) hk rfl rfl rfl fun a hk => ?_
         refine sv (.bool (y38.2 == 0)) hk rfl rfl rfl fun a hk => ?_
         refine sm _ rfl hk rfl rfl rfl fun a hk => ?_
         rcases cond_some H with ⟨c84, H⟩ | ⟨c84, H⟩
         ·have hk := hk.lit 138 c84 rfl
          refine sm _ rfl hk rfl rfl rfl fun a hk => ?_
          refine sv (.bool (y41.2 == 0)) hk rfl rfl rfl fun a hk => ?_
          refine sv (.bool (y41.2 == 0)) hk rfl rfl rfl fun a hk => ?_
          refine sm _ rfl hk rfl rfl rfl fun a hk => ?_
          rcases cond_some H with ⟨c85, H⟩ | ⟨c85, H⟩
          ·have hk := hk.lit 142 c85 rfl
           refine sm _ rfl hk rfl rfl rfl fun a hk => ?_
           refine sv (.bool (y44.2 == 0)) hk rfl rfl rfl fun a hk => ?_
           refine sv (.bool (y44.2 == 0)) hk rfl rfl rfl fun a hk => ?_
           refine sm _ rfl hk rfl rfl rfl fun a hk => ?_
           rcases cond_some H with ⟨c86, H⟩ | ⟨c86, H⟩
           ·have hk := hk.lit 146 c86 rfl
            refine sm _ rfl hk rfl rfl rfl fun a hk => ?_
            refine sles rfl hk rfl rfl rfl un9 fun a hk => ?_
            refine sv (.bool ((y38.1.size : Int) == 12)) hk rfl rfl rfl fun a hk => ?_
            refine sv (.bool ((y38.1.size : Int) == 12)) hk rfl rfl rfl fun a hk => ?_
            refine sm _ rfl hk rfl rfl rfl fun a hk => ?_
            rcases cond_some H with ⟨c87, H⟩ | ⟨c87, H⟩
            ·have hk := hk.lit 151 c87 rfl
             refine sm _ rfl hk rfl rfl rfl fun a hk => ?_
             refine sm _ rfl hk rfl rfl rfl fun a hk => ?_
             refine sv (.bool (!(y38.1.toList == y41.1.toList))) hk rfl rfl rfl fun a hk => ?_
             refine sv (.bool (!(y38.1.toList == y41.1.toList))) hk rfl rfl rfl fun a hk => ?_
             refine sm _ rfl hk rfl rfl rfl fun a hk => ?_
             rcases cond_some H with ⟨c88, H⟩ | ⟨c88, H⟩
             ·have hk := hk.lit 156 c88 rfl
              refine sm _ rfl hk rfl rfl rfl fun a hk => ?_
              refine sm _ rfl hk rfl rfl rfl fun a hk => ?_
              refine sv (.bool (!(y38.1.toList == y44.1.toList))) hk rfl rfl rfl fun a hk => ?_
              refine sv (.bool (!(y38.1.toList == y44.1.toList))) hk rfl rfl rfl fun a hk => ?_
              refine sm _ rfl hk rfl rfl rfl fun a hk => ?_
              rcases cond_some H with ⟨c89, H⟩ | ⟨c89, H⟩
              ·have hk := hk.lit 161 c89 rfl
               refine sm _ rfl hk rfl rfl rfl fun a hk => ?_
               refine sm _ rfl hk rfl rfl rfl fun a hk => ?_
               refine sv (.bool (!(y41.1.toList == y44.1.toList))) hk rfl rfl rfl fun a hk => ?_
               refine sv (.bool (!(y41.1.toList == y44.1.toList))) hk rfl rfl rfl fun a hk => ?_
               refine sm _ rfl hk rfl rfl rfl fun a hk => ?_
               rcases cond_some H with ⟨c90, H⟩ | ⟨c90, H⟩
               ·have hk := hk.lit 166 c90 rfl
                refine sm _ rfl hk rfl rfl rfl fun a hk => ?_
                refine sv (.bool (y56.2 == 0)) hk rfl rfl rfl fun a hk => ?_
                refine sv (.bool (y56.2 == 0)) hk rfl rfl rfl fun a hk => ?_
                refine sm _ rfl hk rfl rfl rfl fun a hk => ?_
                rcases cond_some H with ⟨c91, H⟩ | ⟨c91, H⟩
                ·have hk := hk.lit 170 c91 rfl
                 refine sm _ rfl hk rfl rfl rfl fun a hk => ?_
                 refine sv (.bool (y59.2 == 0)) hk rfl rfl rfl fun a hk => ?_
                 refine sv (.bool (y59.2 == 0)) hk rfl rfl rfl fun a hk => ?_
                 refine sm _ rfl hk rfl rfl rfl fun a hk => ?_
                 rcases cond_some H with ⟨c92, H⟩ | ⟨c92, H⟩
                 ·have hk := hk.lit 174 c92 rfl
                  refine sm _ rfl hk rfl rfl rfl fun a hk => ?_
                  refine sm _ rfl hk rfl rfl rfl fun a hk => ?_
                  obtain ⟨y93, h94, H⟩ := bind_some H
                  refine sc rfl en42 hk rfl rfl rfl (laws_sameInts_t _ A61 p62 y59.1 _ o64.view (hs.hasG (k := 5) rfl) A51 p52 y49 _ o54.view (hs.hasG (k := 4) rfl) _ h94) ?_
                  rintro _ w ⟨rfl, hG⟩ a hk
                  have hs := hs.call0 hG
                  refine sv (.bool y93) hk rfl rfl rfl fun a hk => ?_
                  refine sm _ rfl hk rfl rfl rfl fun a hk => ?_
                  rcases cond_some H with ⟨c95, H⟩ | ⟨c95, H⟩
                  ·have hk := hk.lit 179 c95 rfl
                   refine sm _ rfl hk rfl rfl rfl fun a hk => ?_
                   refine sles rfl hk rfl rfl rfl un9 fun a hk => ?_
                   refine sm _ rfl hk rfl rfl rfl fun a hk => ?_
                   refine sle rfl hk rfl rfl rfl un47 fun a hk => ?_
                   refine sv (.int .i64 (w64 (4 * (y49.length : Int)))) hk rfl rfl rfl fun a hk => ?_
                   refine sv (.bool ((y56.1.size : Int) == (w64 (4 * (y49.length : Int))))) hk rfl rfl rfl fun a hk => ?_
                   refine sv (.bool ((y56.1.size : Int) == (w64 (4 * (y49.length : Int))))) hk rfl rfl rfl fun a hk => ?_
                   refine sm _ rfl hk rfl rfl rfl fun a hk => ?_
                   rcases cond_some H with ⟨c96, H⟩ | ⟨c96, H⟩
                   ·have hk := hk.lit 187 c96 rfl
                    refine sm _ rfl hk rfl rfl rfl fun a hk => ?_
                    refine sv (.bool (y67.2 == 3)) hk rfl rfl rfl fun a hk => ?_
                    refine sv (.bool (y67.2 == 3)) hk rfl rfl rfl fun a hk => ?_
                    refine sa _ rfl hk rfl rfl rfl fun a hk => ?_
                    show wpList _ _ _ [] _ _
                    refine wpList_nil ?_
                    obtain rfl := Option.some.inj H
                    show R79 _ _
                    rw [hR79]
                    exact ⟨(y67.2 == 3), rfl, (hk.c 4 rfl hk.k), (hs.pick [] rfl)⟩
                   ·have hk := hk.lit 187 c96 rfl
                    refine sk hk rfl rfl rfl fun a hk => ?_
                    refine sk hk rfl rfl rfl fun a hk => ?_
                    refine sv (.bool false) hk rfl rfl rfl fun a hk => ?_
                    refine sa _ rfl hk rfl rfl rfl fun a hk => ?_
                    show wpList _ _ _ [] _ _
                    refine wpList_nil ?_
                    obtain rfl := Option.some.inj H
                    show R79 _ _
                    rw [hR79]
                    exact ⟨false, rfl, (hk.c 4 rfl hk.k), (hs.pick [] rfl)⟩
                  ·have hk := hk.lit 179 c95 rfl
                   refine sk hk rfl rfl rfl fun a hk => ?_
                   refine sk hk rfl rfl rfl fun a hk => ?_
                   refine sk hk rfl rfl rfl fun a hk => ?_
                   refine sk hk rfl rfl rfl fun a hk => ?_
                   refine sk hk rfl rfl rfl fun a hk => ?_
                   refine sk hk rfl rfl rfl fun a hk => ?_
                   refine sv (.bool false) hk rfl rfl rfl fun a hk => ?_
                   refine sm _ rfl hk rfl rfl rfl fun a hk => ?_
                   refine sk hk rfl rfl rfl fun a hk => ?_
                   refine sk hk rfl rfl rfl fun a hk => ?_
                   refine sv (.bool false) hk rfl rfl rfl fun a hk => ?_
                   refine sa _ rfl hk rfl rfl rfl fun a hk => ?_
                   show wpList _ _ _ [] _ _
                   refine wpList_nil ?_
                   obtain rfl := Option.some.inj H
                   show R79 _ _
                   rw [hR79]
                   exact ⟨false, rfl, (hk.c 4 rfl hk.k), (hs.pick [] rfl)⟩
                 ·have hk := hk.lit 174 c92 rfl
                  refine sk hk rfl rfl rfl fun a hk => ?_
                  refine sk hk rfl rfl rfl fun a hk => ?_
                  refine sk hk rfl rfl rfl fun a hk => ?_
                  refine sv (.bool false) hk rfl rfl rfl fun a hk => ?_
                  refine sm _ rfl hk rfl rfl rfl fun a hk => ?_
                  refine sk hk rfl rfl rfl fun a hk => ?_
                  refine sk hk rfl rfl rfl fun a hk => ?_
                  refine sk hk rfl rfl rfl fun a hk => ?_
                  refine sk hk rfl rfl rfl fun a hk => ?_
                  refine sk hk rfl rfl rfl fun a hk => ?_
                  refine sk hk rfl rfl rfl fun a hk => ?_
                  refine sv (.bool false) hk rfl rfl rfl fun a hk => ?_
                  refine sm _ rfl hk rfl rfl rfl fun a hk => ?_
                  refine sk hk rfl rfl rfl fun a hk => ?_
                  refine sk hk rfl rfl rfl fun a hk => ?_
                  refine sv (.bool false) hk rfl rfl rfl fun a hk => ?_
                  refine sa _ rfl hk rfl rfl rfl fun a hk => ?_
                  show wpList _ _ _ [] _ _
                  refine wpList_nil ?_
                  obtain rfl := Option.some.inj H
                  show R79 _ _
                  rw [hR79]
                  exact ⟨false, rfl, (hk.c 4 rfl hk.k), (hs.pick [] rfl)⟩
                ·have hk := hk.lit 170 c91 rfl
                 refine sk hk rfl rfl rfl fun a hk => ?_
                 refine sk hk rfl rfl rfl fun a hk => ?_
                 refine sv (.bool false) hk rfl rfl rfl fun a hk => ?_
                 refine sm _ rfl hk rfl rfl rfl fun a hk => ?_
                 refine sk hk rfl rfl rfl fun a hk => ?_
                 refine sk hk rfl rfl rfl fun a hk => ?_
                 refine sk hk rfl rfl rfl fun a hk => ?_
                 refine sv (.bool false) hk rfl rfl rfl fun a hk => ?_
                 refine sm _ rfl hk rfl rfl rfl fun a hk => ?_
                 refine sk hk rfl rfl rfl fun a hk => ?_
                 refine sk hk rfl rfl rfl fun a hk => ?_
                 refine sk hk rfl rfl rfl fun a hk => ?_
                 refine sk hk rfl rfl rfl fun a hk => ?_
                 refine sk hk rfl rfl rfl fun a hk => ?_
                 refine sk hk rfl rfl rfl fun a hk => ?_
                 refine sv (.bool false) hk rfl rfl rfl fun a hk => ?_
                 refine sm _ rfl hk rfl rfl rfl fun a hk => ?_
                 refine sk hk rfl rfl rfl fun a hk => ?_
                 refine sk hk rfl rfl rfl fun a hk => ?_
                 refine sv (.bool false) hk rfl rfl rfl fun a hk => ?_
                 refine sa _ rfl hk rfl rfl rfl fun a hk => ?_
                 show wpList _ _ _ [] _ _
                 refine wpList_nil ?_
                 obtain rfl := Option.some.inj H
                 show R79 _ _
                 rw [hR79]
                 exact ⟨false, rfl, (hk.c 4 rfl hk.k), (hs.pick [] rfl)⟩
               ·have hk := hk.lit 166 c90 rfl
                refine sk hk rfl rfl rfl fun a hk => ?_
                refine sk hk rfl rfl rfl fun a hk => ?_
                refine sv (.bool false) hk rfl rfl rfl fun a hk => ?_
                refine sm _ rfl hk rfl rfl rfl fun a hk => ?_
                refine sk hk rfl rfl rfl fun a hk => ?_
                refine sk hk rfl rfl rfl fun a hk => ?_
                refine sv (.bool false) hk rfl rfl rfl fun a hk => ?_
                refine sm _ rfl hk rfl rfl rfl fun a hk => ?_
                refine sk hk rfl rfl rfl fun a hk => ?_
                refine sk hk rfl rfl rfl fun a hk => ?_
                refine sk hk rfl rfl rfl fun a hk => ?_
                refine sv (.bool false) hk rfl rfl rfl fun a hk => ?_
                refine sm _ rfl hk rfl rfl rfl fun a hk => ?_
                refine sk hk rfl rfl rfl fun a hk => ?_
                refine sk hk rfl rfl rfl fun a hk => ?_
                refine sk hk rfl rfl rfl fun a hk => ?_
                refine sk hk rfl rfl rfl fun a hk => ?_
                refine sk hk rfl rfl rfl fun a hk => ?_
                refine sk hk rfl rfl rfl fun a hk => ?_
                refine sv (.bool false) hk rfl rfl rfl fun a hk => ?_
                refine sm _ rfl hk rfl rfl rfl fun a hk => ?_
                refine sk hk rfl rfl rfl fun a hk => ?_
                refine sk hk rfl rfl rfl fun a hk => ?_
                refine sv (.bool false) hk rfl rfl rfl fun a hk => ?_
                refine sa _ rfl hk rfl rfl rfl fun a hk => ?_
                show wpList _ _ _ [] _ _
                refine wpList_nil ?_
                obtain rfl := Option.some.inj H
                show R79 _ _
                rw [hR79]
                exact ⟨false, rfl, (hk.c 4 rfl hk.k), (hs.pick [] rfl)⟩
              ·have hk := hk.lit 161 c89 rfl
               refine sk hk rfl rfl rfl fun a hk => ?_
               refine sk hk rfl rfl rfl fun a hk => ?_
               refine sk hk rfl rfl rfl fun a hk => ?_
               refine sv (.bool false) hk rfl rfl rfl fun a hk => ?_
               refine sm _ rfl hk rfl rfl rfl fun a hk => ?_
               refine sk hk rfl rfl rfl fun a hk => ?_
               refine sk hk rfl rfl rfl fun a hk => ?_
               refine sv (.bool false) hk rfl rfl rfl fun a hk => ?_
               refine sm _ rfl hk rfl rfl rfl fun a hk => ?_
               refine sk hk rfl rfl rfl fun a hk => ?_
               refine sk hk rfl rfl rfl fun a hk => ?_
               refine sv (.bool false) hk rfl rfl rfl fun a hk => ?_
               refine sm _ rfl hk rfl rfl rfl fun a hk => ?_
               refine sk hk rfl rfl rfl fun a hk => ?_
               refine sk hk rfl rfl rfl fun a hk => ?_
               refine sk hk rfl rfl rfl fun a hk => ?_
               refine sv (.bool false) hk rfl rfl rfl fun a hk => ?_
               refine sm _ rfl hk rfl rfl rfl fun a hk => ?_
               refine sk hk rfl rfl rfl fun a hk => ?_
               refine sk hk rfl rfl rfl fun a hk => ?_
               refine sk hk rfl rfl rfl fun a hk => ?_
               refine sk hk rfl rfl rfl fun a hk => ?_
               refine sk hk rfl rfl rfl fun a hk => ?_
               refine sk hk rfl rfl rfl fun a hk => ?_
               refine sv (.bool false) hk rfl rfl rfl fun a hk => ?_
               refine sm _ rfl hk rfl rfl rfl fun a hk => ?_
               refine sk hk rfl rfl rfl fun a hk => ?_
               refine sk hk rfl rfl rfl fun a hk => ?_
               refine sv (.bool false) hk rfl rfl rfl fun a hk => ?_
               refine sa _ rfl hk rfl rfl rfl fun a hk => ?_
               show wpList _ _ _ [] _ _
               refine wpList_nil ?_
               obtain rfl := Option.some.inj H
               show R79 _ _
               rw [hR79]
               exact ⟨false, rfl, (hk.c 4 rfl hk.k), (hs.pick [] rfl)⟩
             ·have hk := hk.lit 156 c88 rfl
              refine sk hk rfl rfl rfl fun a hk => ?_
              refine sk hk rfl rfl rfl fun a hk => ?_
              refine sk hk rfl rfl rfl fun a hk => ?_
              refine sv (.bool false) hk rfl rfl rfl fun a hk => ?_
              refine sm _ rfl hk rfl rfl rfl fun a hk => ?_
              refine sk hk rfl rfl rfl fun a hk => ?_
              refine sk hk rfl rfl rfl fun a hk => ?_
              refine sk hk rfl rfl rfl fun a hk => ?_
              refine sv (.bool false) hk rfl rfl rfl fun a hk => ?_
              refine sm _ rfl hk rfl rfl rfl fun a hk => ?_
              refine sk hk rfl rfl rfl fun a hk => ?_
              refine sk hk rfl rfl rfl fun a hk => ?_
              refine sv (.bool false) hk rfl rfl rfl fun a hk => ?_
              refine sm _ rfl hk rfl rfl rfl fun a hk => ?_
              refine sk hk rfl rfl rfl fun a hk => ?_
              refine sk hk rfl rfl rfl fun a hk => ?_
              refine sv (.bool false) hk rfl rfl rfl fun a hk => ?_
              refine sm _ rfl hk rfl rfl rfl fun a hk => ?_
              refine sk hk rfl rfl rfl fun a hk => ?_
              refine sk hk rfl rfl rfl fun a hk => ?_
              refine sk hk rfl rfl rfl fun a hk => ?_
              refine sv (.bool false) hk rfl rfl rfl fun a hk => ?_
              refine sm _ rfl hk rfl rfl rfl fun a hk => ?_
              refine sk hk rfl rfl rfl fun a hk => ?_
              refine sk hk rfl rfl rfl fun a hk => ?_
              refine sk hk rfl rfl rfl fun a hk => ?_
              refine sk hk rfl rfl rfl fun a hk => ?_
              refine sk hk rfl rfl rfl fun a hk => ?_
              refine sk hk rfl rfl rfl fun a hk => ?_
              refine sv (.bool false) hk rfl rfl rfl fun a hk => ?_
              refine sm _ rfl hk rfl rfl rfl fun a hk => ?_
              refine sk hk rfl rfl rfl fun a hk => ?_
              refine sk hk rfl rfl rfl fun a hk => ?_
              refine sv (.bool false) hk rfl rfl rfl fun a hk => ?_
              refine sa _ rfl hk rfl rfl rfl fun a hk => ?_
              show wpList _ _ _ [] _ _
              refine wpList_nil ?_
              obtain rfl := Option.some.inj H
              show R79 _ _
              rw [hR79]
              exact ⟨false, rfl, (hk.c 4 rfl hk.k), (hs.pick [] rfl)⟩
            ·have hk := hk.lit 151 c87 rfl
             refine sk hk rfl rfl rfl fun a hk => ?_
             refine sk hk rfl rfl rfl fun a hk => ?_
             refine sk hk rfl rfl rfl fun a hk => ?_
             refine sv (.bool false) hk rfl rfl rfl fun a hk => ?_
             refine sm _ rfl hk rfl rfl rfl fun a hk => ?_
             refine sk hk rfl rfl rfl fun a hk => ?_
             refine sk hk rfl rfl rfl fun a hk => ?_
             refine sk hk rfl rfl rfl fun a hk => ?_
             refine sv (.bool false) hk rfl rfl rfl fun a hk => ?_
             refine sm _ rfl hk rfl rfl rfl fun a hk => ?_
             refine sk hk rfl rfl rfl fun a hk => ?_
             refine sk hk rfl rfl rfl fun a hk => ?_
             refine sk hk rfl rfl rfl fun a hk => ?_
             refine sv (.bool false) hk rfl rfl rfl fun a hk => ?_
             refine sm _ rfl hk rfl rfl rfl fun a hk => ?_
             refine sk hk rfl rfl rfl fun a hk => ?_
             refine sk hk rfl rfl rfl fun a hk => ?_
             refine sv (.bool false) hk rfl rfl rfl fun a hk => ?_
             refine sm _ rfl hk rfl rfl rfl fun a hk => ?_
             refine sk hk rfl rfl rfl fun a hk => ?_
             refine sk hk rfl rfl rfl fun a hk => ?_
             refine sv (.bool false) hk rfl rfl rfl fun a hk => ?_
             refine sm _ rfl hk rfl rfl rfl fun a hk => ?_
             refine sk hk rfl rfl rfl fun a hk => ?_
             refine sk hk rfl rfl rfl fun a hk => ?_
             refine sk hk rfl rfl rfl fun a hk => ?_
             refine sv (.bool false) hk rfl rfl rfl fun a hk => ?_
             refine sm _ rfl hk rfl rfl rfl fun a hk => ?_
             refine sk hk rfl rfl rfl fun a hk => ?_
             refine sk hk rfl rfl rfl fun a hk => ?_
             refine sk hk rfl rfl rfl fun a hk => ?_
             refine sk hk rfl rfl rfl fun a hk => ?_
             refine sk hk rfl rfl rfl fun a hk => ?_
             refine sk hk rfl rfl rfl fun a hk => ?_
             refine sv (.bool false) hk rfl rfl rfl fun a hk => ?_
             refine sm _ rfl hk rfl rfl rfl fun a hk => ?_
             refine sk hk rfl rfl rfl fun a hk => ?_
             refine sk hk rfl rfl rfl fun a hk => ?_
             refine sv (.bool false) hk rfl rfl rfl fun a hk => ?_
             refine sa _ rfl hk rfl rfl rfl fun a hk => ?_
             show wpList _ _ _ [] _ _
             refine wpList_nil ?_
             obtain rfl := Option.some.inj H
             show R79 _ _
             rw [hR79]
             exact ⟨false, rfl, (hk.c 4 rfl hk.k), (hs.pick [] rfl)⟩
           ·have hk := hk.lit 146 c86 rfl
            refine sk hk rfl rfl rfl fun a hk => ?_
            refine sk hk rfl rfl rfl fun a hk => ?_
            refine sk hk rfl rfl rfl fun a hk => ?_
            refine sv (.bool false) hk rfl rfl rfl fun a hk => ?_
            refine sm _ rfl hk rfl rfl rfl fun a hk => ?_
            refine sk hk rfl rfl rfl fun a hk => ?_
            refine sk hk rfl rfl rfl fun a hk => ?_
            refine sk hk rfl rfl rfl fun a hk => ?_
            refine sv (.bool false) hk rfl rfl rfl fun a hk => ?_
            refine sm _ rfl hk rfl rfl rfl fun a hk => ?_
            refine sk hk rfl rfl rfl fun a hk => ?_
            refine sk hk rfl rfl rfl fun a hk => ?_
            refine sk hk rfl rfl rfl fun a hk => ?_
            refine sv (.bool false) hk rfl rfl rfl fun a hk => ?_
            refine sm _ rfl hk rfl rfl rfl fun a hk => ?_
            refine sk hk rfl rfl rfl fun a hk => ?_
            refine sk hk rfl rfl rfl fun a hk => ?_
            refine sk hk rfl rfl rfl fun a hk => ?_
            refine sv (.bool false) hk rfl rfl rfl fun a hk => ?_
            refine sm _ rfl hk rfl rfl rfl fun a hk => ?_
            refine sk hk rfl rfl rfl fun a hk => ?_
            refine sk hk rfl rfl rfl fun a hk => ?_
            refine sv (.bool false) hk rfl rfl rfl fun a hk => ?_
            refine sm _ rfl hk rfl rfl rfl fun a hk => ?_
            refine sk hk rfl rfl rfl fun a hk => ?_
            refine sk hk rfl rfl rfl fun a hk => ?_
            refine sv (.bool false) hk rfl rfl rfl fun a hk => ?_
            refine sm _ rfl hk rfl rfl rfl fun a hk => ?_
            refine sk hk rfl rfl rfl fun a hk => ?_
            refine sk hk rfl rfl rfl fun a hk => ?_
            refine sk hk rfl rfl rfl fun a hk => ?_
            refine sv (.bool false) hk rfl rfl rfl fun a hk => ?_
            refine sm _ rfl hk rfl rfl rfl fun a hk => ?_
            refine sk hk rfl rfl rfl fun a hk => ?_
            refine sk hk rfl rfl rfl fun a hk => ?_
            refine sk hk rfl rfl rfl fun a hk => ?_
            refine sk hk rfl rfl rfl fun a hk => ?_
            refine sk hk rfl rfl rfl fun a hk => ?_
            refine sk hk rfl rfl rfl fun a hk => ?_
            refine sv (.bool false) hk rfl rfl rfl fun a hk => ?_
            refine sm _ rfl hk rfl rfl rfl fun a hk => ?_
            refine sk hk rfl rfl rfl fun a hk => ?_
            refine sk hk rfl rfl rfl fun a hk => ?_
            refine sv (.bool false) hk rfl rfl rfl fun a hk => ?_
            refine sa _ rfl hk rfl rfl rfl fun a hk => ?_
            show wpList _ _ _ [] _ _
            refine wpList_nil ?_
            obtain rfl := Option.some.inj H
            show R79 _ _
            rw [hR79]
            exact ⟨false, rfl, (hk.c 4 rfl hk.k), (hs.pick [] rfl)⟩
          ·have hk := hk.lit 142 c85 rfl
           refine sk hk rfl rfl rfl fun a hk => ?_
           refine sk hk rfl rfl rfl fun a hk => ?_
           refine sv (.bool false) hk rfl rfl rfl fun a hk => ?_
           refine sm _ rfl hk rfl rfl rfl fun a hk => ?_
           refine sk hk rfl rfl rfl fun a hk => ?_
           refine sk hk rfl rfl rfl fun a hk => ?_
           refine sk hk rfl rfl rfl fun a hk => ?_
           refine sv (.bool false) hk rfl rfl rfl fun a hk => ?_
           refine sm _ rfl hk rfl rfl rfl fun a hk => ?_
           refine sk hk rfl rfl rfl fun a hk => ?_
           refine sk hk rfl rfl rfl fun a hk => ?_
           refine sk hk rfl rfl rfl fun a hk => ?_
           refine sv (.bool false) hk rfl rfl rfl fun a hk => ?_
           refine sm _ rfl hk rfl rfl rfl fun a hk => ?_
           refine sk hk rfl rfl rfl fun a hk => ?_
           refine sk hk rfl rfl rfl fun a hk => ?_
           refine sk hk rfl rfl rfl fun a hk => ?_
           refine sv (.bool false) hk rfl rfl rfl fun a hk => ?_
           refine sm _ rfl hk rfl rfl rfl fun a hk => ?_
           refine sk hk rfl rfl rfl fun a hk => ?_
           refine sk hk rfl rfl rfl fun a hk => ?_
           refine sk hk rfl rfl rfl fun a hk => ?_
           refine sv (.bool false) hk rfl rfl rfl fun a hk => ?_
           refine sm _ rfl hk rfl rfl rfl fun a hk => ?_
           refine sk hk rfl rfl rfl fun a hk => ?_
           refine sk hk rfl rfl rfl fun a hk => ?_
           refine sv (.bool false) hk rfl rfl rfl fun a hk => ?_
           refine sm _ rfl hk rfl rfl rfl fun a hk => ?_
           refine sk hk rfl rfl rfl fun a hk => ?_
           refine sk hk rfl rfl rfl fun a hk => ?_
           refine sv (.bool false) hk rfl rfl rfl fun a hk => ?_
           refine sm _ rfl hk rfl rfl rfl fun a hk => ?_
           refine sk hk rfl rfl rfl fun a hk => ?_
           refine sk hk rfl rfl rfl fun a hk => ?_
           refine sk hk rfl rfl rfl fun a hk => ?_
           refine sv (.bool false) hk rfl rfl rfl fun a hk => ?_
           refine sm _ rfl hk rfl rfl rfl fun a hk => ?_
           refine sk hk rfl rfl rfl fun a hk => ?_
           refine sk hk rfl rfl rfl fun a hk => ?_
           refine sk hk rfl rfl rfl fun a hk => ?_
           refine sk hk rfl rfl rfl fun a hk => ?_
           refine sk hk rfl rfl rfl fun a hk => ?_
           refine sk hk rfl rfl rfl fun a hk => ?_
           refine sv (.bool false) hk rfl rfl rfl fun a hk => ?_
           refine sm _ rfl hk rfl rfl rfl fun a hk => ?_
           refine sk hk rfl rfl rfl fun a hk => ?_
           refine sk hk rfl rfl rfl fun a hk => ?_
           refine sv (.bool false) hk rfl rfl rfl fun a hk => ?_
           refine sa _ rfl hk rfl rfl rfl fun a hk => ?_
           show wpList _ _ _ [] _ _
           refine wpList_nil ?_
           obtain rfl := Option.some.inj H
           show R79 _ _
           rw [hR79]
           exact ⟨false, rfl, (hk.c 4 rfl hk.k), (hs.pick [] rfl)⟩
         ·have hk := hk.lit 138 c84 rfl
          refine sk hk rfl rfl rfl fun a hk => ?_
          refine sk hk rfl rfl rfl fun a hk => ?_
          refine sv (.bool false) hk rfl rfl rfl fun a hk => ?_
          refine sm _ rfl hk rfl rfl rfl fun a hk => ?_
          refine sk hk rfl rfl rfl fun a hk => ?_
          refine sk hk rfl rfl rfl fun a hk => ?_
          refine sv (.bool false) hk rfl rfl rfl fun a hk => ?_
          refine sm _ rfl hk rfl rfl rfl fun a hk => ?_
          refine sk hk rfl rfl rfl fun a hk => ?_
          refine sk hk rfl rfl rfl fun a hk => ?_
          refine sk hk rfl rfl rfl fun a hk => ?_
          refine sv (.bool false) hk rfl rfl rfl fun a hk => ?_
          refine sm _ rfl hk rfl rfl rfl fun a hk => ?_
          refine sk hk rfl rfl rfl fun a hk => ?_
          refine sk hk rfl rfl rfl fun a hk => ?_
          refine sk hk rfl rfl rfl fun a hk => ?_
          refine sv (.bool false) hk rfl rfl rfl fun a hk => ?_
          refine sm _ rfl hk rfl rfl rfl fun a hk => ?_
          refine sk hk rfl rfl rfl fun a hk => ?_
          refine sk hk rfl rfl rfl fun a hk => ?_
          refine sk hk rfl rfl rfl fun a hk => ?_
          refine sv (.bool false) hk rfl rfl rfl fun a hk => ?_
          refine sm _ rfl hk rfl rfl rfl fun a hk => ?_
          refine sk hk rfl rfl rfl fun a hk => ?_
          refine sk hk rfl rfl rfl fun a hk => ?_
          refine sk hk rfl rfl rfl fun a hk => ?_
          refine sv (.bool false) hk rfl rfl rfl fun a hk => ?_
          refine sm _ rfl hk rfl rfl rfl fun a hk => ?_
          refine sk hk rfl rfl rfl fun a hk => ?_
          refine sk hk rfl rfl rfl fun a hk => ?_
          refine sv (.bool false) hk rfl rfl rfl fun a hk => ?_
          refine sm _ rfl hk rfl rfl rfl fun a hk => ?_
          refine sk hk rfl rfl rfl fun a hk => ?_
          refine sk hk rfl rfl rfl fun a hk => ?_
          refine sv (.bool false) hk rfl rfl rfl fun a hk => ?_
          refine sm _ rfl hk rfl rfl rfl fun a hk => ?_
          refine sk hk rfl rfl rfl fun a hk => ?_
          refine sk hk rfl rfl rfl fun a hk => ?_
          refine sk hk rfl rfl rfl fun a hk => ?_
          refine sv (.bool false) hk rfl rfl rfl fun a hk => ?_
          refine sm _ rfl hk rfl rfl rfl fun a hk => ?_
          refine sk hk rfl rfl rfl fun a hk => ?_
          refine sk hk rfl rfl rfl fun a hk => ?_
          refine sk hk rfl rfl rfl fun a hk => ?_
          refine sk hk rfl rfl rfl fun a hk => ?_
          refine sk hk rfl rfl rfl fun a hk => ?_
          refine sk hk rfl rfl rfl fun a hk => ?_
          refine sv (.bool false) hk rfl rfl rfl fun a hk => ?_
          refine sm _ rfl hk rfl rfl rfl fun a hk => ?_
          refine sk hk rfl rfl rfl fun a hk => ?_
          refine sk hk rfl rfl rfl fun a hk => ?_
          refine sv (.bool false) hk rfl rfl rfl fun a hk => ?_
          refine sa _ rfl hk rfl rfl rfl fun a hk => ?_
          show wpList _ _ _ [] _ _
          refine wpList_nil ?_
          obtain rfl := Option.some.inj H
          show R79 _ _
          rw [hR79]
          exact ⟨false, rfl, (hk.c 4 rfl hk.k), (hs.pick [] rfl)⟩
        ·have hk := hk.lit 134 c83 rfl
         refine sk hk rfl rfl rfl fun a hk => ?_
         refine sk hk rfl rfl rfl fun a hk => ?_
         refine sv (.bool false) hk rfl rfl rfl fun a hk => ?_
         refine sm _ rfl hk rfl rfl rfl fun a hk => ?_
         refine sk hk rfl rfl rfl fun a hk => ?_
         refine sk hk rfl rfl rfl fun a hk => ?_
         refine sv (.bool false) hk rfl rfl rfl fun a hk => ?_
         refine sm _ rfl hk rfl rfl rfl fun a hk => ?_
         refine sk hk rfl rfl rfl fun a hk => ?_
         refine sk hk rfl rfl rfl fun a hk => ?_
         refine sv (.bool false) hk rfl rfl rfl fun a hk => ?_
         refine sm _ rfl hk rfl rfl rfl fun a hk => ?_
         refine sk hk rfl rfl rfl fun a hk => ?_
         refine sk hk rfl rfl rfl fun a hk => ?_
         refine sk hk rfl rfl rfl fun a hk => ?_
         refine sv (.bool false) hk rfl rfl rfl fun a hk => ?_
         refine sm _ rfl hk rfl rfl rfl fun a hk => ?_
         refine sk hk rfl rfl rfl fun a hk => ?_
         refine sk hk rfl rfl rfl fun a hk => ?_
         refine sk hk rfl rfl rfl fun a hk => ?_
         refine sv (.bool false) hk rfl rfl rfl fun a hk => ?_
         refine sm _ rfl hk rfl rfl rfl fun a hk => ?_
         refine sk hk rfl rfl rfl fun a hk => ?_
         refine sk hk rfl rfl rfl fun a hk => ?_
         refine sk hk rfl rfl rfl fun a hk => ?_
         refine sv (.bool false) hk rfl rfl rfl fun a hk => ?_
         refine sm _ rfl hk rfl rfl rfl fun a hk => ?_
         refine sk hk rfl rfl rfl fun a hk => ?_
         refine sk hk rfl rfl rfl fun a hk => ?_
         refine sk hk rfl rfl rfl fun a hk => ?_
         refine sv (.bool false) hk rfl rfl rfl fun a hk => ?_
         refine sm _ rfl hk rfl rfl rfl fun a hk => ?_
         refine sk hk rfl rfl rfl fun a hk => ?_
         refine sk hk rfl rfl rfl fun a hk => ?_
         refine sv (.bool false) hk rfl rfl rfl fun a hk => ?_
         refine sm _ rfl hk rfl rfl rfl fun a hk => ?_
         refine sk hk rfl rfl rfl fun a hk => ?_
         refine sk hk rfl rfl rfl fun a hk => ?_
         refine sv (.bool false) hk rfl rfl rfl fun a hk => ?_
         refine sm _ rfl hk rfl rfl rfl fun a hk => ?_
         refine sk hk rfl rfl rfl fun a hk => ?_
         refine sk hk rfl rfl rfl fun a hk => ?_
         refine sk hk rfl rfl rfl fun a hk => ?_
         refine sv (.bool false) hk rfl rfl rfl fun a hk => ?_
         refine sm _ rfl hk rfl rfl rfl fun a hk => ?_
         refine sk hk rfl rfl rfl fun a hk => ?_
         refine sk hk rfl rfl rfl fun a hk => ?_
         refine sk hk rfl rfl rfl fun a hk => ?_
         refine sk hk rfl rfl rfl fun a hk => ?_
         refine sk hk rfl rfl rfl fun a hk => ?_
         refine sk hk rfl rfl rfl fun a hk => ?_
         refine sv (.bool false) hk rfl rfl rfl fun a hk => ?_
         refine sm _ rfl hk rfl rfl rfl fun a hk => ?_
         refine sk hk rfl rfl rfl fun a hk => ?_
         refine sk hk rfl rfl rfl fun a hk => ?_
         refine sv (.bool false) hk rfl rfl rfl fun a hk => ?_
         refine sa _ rfl hk rfl rfl rfl fun a hk => ?_
         show wpList _ _ _ [] _ _
         refine wpList_nil ?_
         obtain rfl := Option.some.inj H
         show R79 _ _
         rw [hR79]
         exact ⟨false, rfl, (hk.c 4 rfl hk.k), (hs.pick [] rfl)⟩
       ·have hk := hk.lit 129 c82 rfl
        refine sk hk rfl rfl rfl fun a hk => ?_
        refine sk hk rfl rfl rfl fun a hk => ?_
        refine sk hk rfl rfl rfl fun a hk => ?_
        refine sv (.bool false) hk rfl rfl rfl fun a hk => ?_
        refine sm _ rfl hk rfl rfl rfl fun a hk => ?_
        refine sk hk rfl rfl rfl fun a hk => ?_
        refine sk hk rfl rfl rfl fun a hk => ?_
        refine sv (.bool false) hk rfl rfl rfl fun a hk => ?_
        refine sm _ rfl hk rfl rfl rfl fun a hk => ?_
        refine sk hk rfl rfl rfl fun a hk => ?_
        refine sk hk rfl rfl rfl fun a hk => ?_
        refine sv (.bool false) hk rfl rfl rfl fun a hk => ?_
        refine sm _ rfl hk rfl rfl rfl fun a hk => ?_
        refine sk hk rfl rfl rfl fun a hk => ?_
        refine sk hk rfl rfl rfl fun a hk => ?_
        refine sv (.bool false) hk rfl rfl rfl fun a hk => ?_
        refine sm _ rfl hk rfl rfl rfl fun a hk => ?_
        refine sk hk rfl rfl rfl fun a hk => ?_
        refine sk hk rfl rfl rfl fun a hk => ?_
        refine sk hk rfl rfl rfl fun a hk => ?_
        refine sv (.bool false) hk rfl rfl rfl fun a hk => ?_
        refine sm _ rfl hk rfl rfl rfl fun a hk => ?_
        refine sk hk rfl rfl rfl fun a hk => ?_
        refine sk hk rfl rfl rfl fun a hk => ?_
        refine sk hk rfl rfl rfl fun a hk => ?_
        refine sv (.bool false) hk rfl rfl rfl fun a hk => ?_
        refine sm _ rfl hk rfl rfl rfl fun a hk => ?_
        refine sk hk rfl rfl rfl fun a hk => ?_
        refine sk hk rfl rfl rfl fun a hk => ?_
        refine sk hk rfl rfl rfl fun a hk => ?_
        refine sv (.bool false) hk rfl rfl rfl fun a hk => ?_
        refine sm _ rfl hk rfl rfl rfl fun a hk => ?_
        refine sk hk rfl rfl rfl fun a hk => ?_
        refine sk hk rfl rfl rfl fun a hk => ?_
        refine sk hk rfl rfl rfl fun a hk => ?_
        refine sv (.bool false) hk rfl rfl rfl fun a hk => ?_
        refine sm _ rfl hk rfl rfl rfl fun a hk => ?_
        refine sk hk rfl rfl rfl fun a hk => ?_
        refine sk hk rfl rfl rfl fun a hk => ?_
        refine sv (.bool false) hk rfl rfl rfl fun a hk => ?_
        refine sm _ rfl hk rfl rfl rfl fun a hk => ?_
        refine sk hk rfl rfl rfl fun a hk => ?_
        refine sk hk rfl rfl rfl fun a hk => ?_
        refine sv (.bool false) hk rfl rfl rfl fun a hk => ?_
        refine sm _ rfl hk rfl rfl rfl fun a hk => ?_
        refine sk hk rfl rfl rfl fun a hk => ?_
        refine sk hk rfl rfl rfl fun a hk => ?_
        refine sk hk rfl rfl rfl fun a hk => ?_
        refine sv (.bool false) hk rfl rfl rfl fun a hk => ?_
        refine sm _ rfl hk rfl rfl rfl fun a hk => ?_
        refine sk hk rfl rfl rfl fun a hk => ?_
        refine sk hk rfl rfl rfl fun a hk => ?_
        refine sk hk rfl rfl rfl fun a hk => ?_
        refine sk hk rfl rfl rfl fun a hk => ?_
        refine sk hk rfl rfl rfl fun a hk => ?_
        refine sk hk rfl rfl rfl fun a hk => ?_
        refine sv (.bool false) hk rfl rfl rfl fun a hk => ?_
        refine sm _ rfl hk rfl rfl rfl fun a hk => ?_
        refine sk hk rfl rfl rfl fun a hk => ?_
        refine sk hk rfl rfl rfl fun a hk => ?_
        refine sv (.bool false) hk rfl rfl rfl fun a hk => ?_
        refine sa _ rfl hk rfl rfl rfl fun a hk => ?_
        show wpList _ _ _ [] _ _
        refine wpList_nil ?_
        obtain rfl := Option.some.inj H
        show R79 _ _
        rw [hR79]
        exact ⟨false, rfl, (hk.c 4 rfl hk.k), (hs.pick [] rfl)⟩
      ·have hk := hk.lit 125 c81 rfl
       refine sk hk rfl rfl rfl fun a hk => ?_
       refine sk hk rfl rfl rfl fun a hk => ?_
       refine sv (.bool false) hk rfl rfl rfl fun a hk => ?_
       refine sm _ rfl hk rfl rfl rfl fun a hk => ?_
       refine sk hk rfl rfl rfl fun a hk => ?_
       refine sk hk rfl rfl rfl fun a hk => ?_
       refine sk hk rfl rfl rfl fun a hk => ?_
       refine sv (.bool false) hk rfl rfl rfl fun a hk => ?_
       refine sm _ rfl hk rfl rfl rfl fun a hk => ?_
       refine sk hk rfl rfl rfl fun a hk => ?_
       refine sk hk rfl rfl rfl fun a hk => ?_
       refine sv (.bool false) hk rfl rfl rfl fun a hk => ?_
       refine sm _ rfl hk rfl rfl rfl fun a hk => ?_
       refine sk hk rfl rfl rfl fun a hk => ?_
       refine sk hk rfl rfl rfl fun a hk => ?_
       refine sv (.bool false) hk rfl rfl rfl fun a hk => ?_
       refine sm _ rfl hk rfl rfl rfl fun a hk => ?_
       refine sk hk rfl rfl rfl fun a hk => ?_
       refine sk hk rfl rfl rfl fun a hk => ?_
       refine sv (.bool false) hk rfl rfl rfl fun a hk => ?_
       refine sm _ rfl hk rfl rfl rfl fun a hk => ?_
       refine sk hk rfl rfl rfl fun a hk => ?_
       refine sk hk rfl rfl rfl fun a hk => ?_
       refine sk hk rfl rfl rfl fun a hk => ?_
       refine sv (.bool false) hk rfl rfl rfl fun a hk => ?_
       refine sm _ rfl hk rfl rfl rfl fun a hk => ?_
       refine sk hk rfl rfl rfl fun a hk => ?_
       refine sk hk rfl rfl rfl fun a hk => ?_
       refine sk hk rfl rfl rfl fun a hk => ?_
       refine sv (.bool false) hk rfl rfl rfl fun a hk => ?_
       refine sm _ rfl hk rfl rfl rfl fun a hk => ?_
       refine sk hk rfl rfl rfl fun a hk => ?_
       refine sk hk rfl rfl rfl fun a hk => ?_
       refine sk hk rfl rfl rfl fun a hk => ?_
       refine sv (.bool false) hk rfl rfl rfl fun a hk => ?_
       refine sm _ rfl hk rfl rfl rfl fun a hk => ?_
       refine sk hk rfl rfl rfl fun a hk => ?_
       refine sk hk rfl rfl rfl fun a hk => ?_
       refine sk hk rfl rfl rfl fun a hk => ?_
       refine sv (.bool false) hk rfl rfl rfl fun a hk => ?_
       refine sm _ rfl hk rfl rfl rfl fun a hk => ?_
       refine sk hk rfl rfl rfl fun a hk => ?_
       refine sk hk rfl rfl rfl fun a hk => ?_
       refine sv (.bool false) hk rfl rfl rfl fun a hk => ?_
       refine sm _ rfl hk rfl rfl rfl fun a hk => ?_
       refine sk hk rfl rfl rfl fun a hk => ?_
       refine sk hk rfl rfl rfl fun a hk => ?_
       refine sv (.bool false) hk rfl rfl rfl fun a hk => ?_
       refine sm _ rfl hk rfl rfl rfl fun a hk => ?_
       refine sk hk rfl rfl rfl fun a hk => ?_
       refine sk hk rfl rfl rfl fun a hk => ?_
       refine sk hk rfl rfl rfl fun a hk => ?_
       refine sv (.bool false) hk rfl rfl rfl fun a hk => ?_
       refine sm _ rfl hk rfl rfl rfl fun a hk => ?_
       refine sk hk rfl rfl rfl fun a hk => ?_
       refine sk hk rfl rfl rfl fun a hk => ?_
       refine sk hk rfl rfl rfl fun a hk => ?_
       refine sk hk rfl rfl rfl fun a hk => ?_
       refine sk hk rfl rfl rfl fun a hk => ?_
       refine sk hk rfl rfl rfl fun a hk => ?_
       refine sv (.bool false) hk rfl rfl rfl fun a hk => ?_
       refine sm _ rfl hk rfl rfl rfl fun a hk => ?_
       refine sk hk rfl rfl rfl fun a hk => ?_
       refine sk hk rfl rfl rfl fun a hk => ?_
       refine sv (.bool false) hk rfl rfl rfl fun a hk => ?_
       refine sa _ rfl hk rfl rfl rfl fun a hk => ?_
       show wpList _ _ _ [] _ _
       refine wpList_nil ?_
       obtain rfl := Option.some.inj H
       show R79 _ _
       rw [hR79]
       exact ⟨false, rfl, (hk.c 4 rfl hk.k), (hs.pick [] rfl)⟩
     ·have hk := hk.lit 120 c80 rfl
      refine sk hk rfl rfl rfl fun a hk => ?_
      refine sk hk rfl rfl rfl fun a hk => ?_
      refine sk hk rfl rfl rfl fun a hk => ?_
      refine sv (.bool false) hk rfl rfl rfl fun a hk => ?_
      refine sm _ rfl hk rfl rfl rfl fun a hk => ?_
      refine sk hk rfl rfl rfl fun a hk => ?_
      refine sk hk rfl rfl rfl fun a hk => ?_
      refine sv (.bool false) hk rfl rfl rfl fun a hk => ?_
      refine sm _ rfl hk rfl rfl rfl fun a hk => ?_
      refine sk hk rfl rfl rfl fun a hk => ?_
      refine sk hk rfl rfl rfl fun a hk => ?_
      refine sk hk rfl rfl rfl fun a hk => ?_
      refine sv (.bool false) hk rfl rfl rfl fun a hk => ?_
      refine sm _ rfl hk rfl rfl rfl fun a hk => ?_
      refine sk hk rfl rfl rfl fun a hk => ?_
      refine sk hk rfl rfl rfl fun a hk => ?_
      refine sv (.bool false) hk rfl rfl rfl fun a hk => ?_
      refine sm _ rfl hk rfl rfl rfl fun a hk => ?_
      refine sk hk rfl rfl rfl fun a hk => ?_
      refine sk hk rfl rfl rfl fun a hk => ?_
      refine sv (.bool false) hk rfl rfl rfl fun a hk => ?_
      refine sm _ rfl hk rfl rfl rfl fun a hk => ?_
      refine sk hk rfl rfl rfl fun a hk => ?_
      refine sk hk rfl rfl rfl fun a hk => ?_
      refine sv (.bool false) hk rfl rfl rfl fun a hk => ?_
      refine sm _ rfl hk rfl rfl rfl fun a hk => ?_
      refine sk hk rfl rfl rfl fun a hk => ?_
      refine sk hk rfl rfl rfl fun a hk => ?_
      refine sk hk rfl rfl rfl fun a hk => ?_
      refine sv (.bool false) hk rfl rfl rfl fun a hk => ?_
      refine sm _ rfl hk rfl rfl rfl fun a hk => ?_
      refine sk hk rfl rfl rfl fun a hk => ?_
      refine sk hk rfl rfl rfl fun a hk => ?_
      refine sk hk rfl rfl rfl fun a hk => ?_
      refine sv (.bool false) hk rfl rfl rfl fun a hk => ?_
      refine sm _ rfl hk rfl rfl rfl fun a hk => ?_
      refine sk hk rfl rfl rfl fun a hk => ?_
      refine sk hk rfl rfl rfl fun a hk => ?_
      refine sk hk rfl rfl rfl fun a hk => ?_
      refine sv (.bool false) hk rfl rfl rfl fun a hk => ?_
      refine sm _ rfl hk rfl rfl rfl fun a hk => ?_
      refine sk hk rfl rfl rfl fun a hk => ?_
      refine sk hk rfl rfl rfl fun a hk => ?_
      refine sk hk rfl rfl rfl fun a hk => ?_
      refine sv (.bool false) hk rfl rfl rfl fun a hk => ?_
      refine sm _ rfl hk rfl rfl rfl fun a hk => ?_
      refine sk hk rfl rfl rfl fun a hk => ?_
      refine sk hk rfl rfl rfl fun a hk => ?_
      refine sv (.bool false) hk rfl rfl rfl fun a hk => ?_
      refine sm _ rfl hk rfl rfl rfl fun a hk => ?_
      refine sk hk rfl rfl rfl fun a hk => ?_
      refine sk hk rfl rfl rfl fun a hk => ?_
      refine sv (.bool false) hk rfl rfl rfl fun a hk => ?_
      refine sm _ rfl hk rfl rfl rfl fun a hk => ?_
      refine sk hk rfl rfl rfl fun a hk => ?_
      refine sk hk rfl rfl rfl fun a hk => ?_
      refine sk hk rfl rfl rfl fun a hk => ?_
      refine sv (.bool false) hk rfl rfl rfl fun a hk => ?_
      refine sm _ rfl hk rfl rfl rfl fun a hk => ?_
      refine sk hk rfl rfl rfl fun a hk => ?_
      refine sk hk rfl rfl rfl fun a hk => ?_
      refine sk hk rfl rfl rfl fun a hk => ?_
      refine sk hk rfl rfl rfl fun a hk => ?_
      refine sk hk rfl rfl rfl fun a hk => ?_
      refine sk hk rfl rfl rfl fun a hk => ?_
      refine sv (.bool false) hk rfl rfl rfl fun a hk => ?_
      refine sm _ rfl hk rfl rfl rfl fun a hk => ?_
      refine sk hk rfl rfl rfl fun a hk => ?_
      refine sk hk rfl rfl rfl fun a hk => ?_
      refine sv (.bool false) hk rfl rfl rfl fun a hk => ?_
      refine sa _ rfl hk rfl rfl rfl fun a hk => ?_
      show wpList _ _ _ [] _ _
      refine wpList_nil ?_
      obtain rfl := Option.some.inj H
      show R79 _ _
      rw [hR79]
      exact ⟨false, rfl, (hk.c 4 rfl hk.k), (hs.pick [] rfl)⟩
    ·intro a w hR0
     rw [hR79] at hR0
     obtain ⟨u75, rfl, hk, hs⟩ := hR0
     have H := HL78
     try dsimp only at H
     refine hK73 _ _ ?_
     refine wp_ret ?_
     obtain rfl := Option.some.inj H
     exact fin hk _ [(.bool u75)] rfl ⟨rfl, trivial⟩ ⟨rfl, (hs.pick [] rfl).dnil⟩

end Go.Proofs.Yteklgnhfgdhdiaa
