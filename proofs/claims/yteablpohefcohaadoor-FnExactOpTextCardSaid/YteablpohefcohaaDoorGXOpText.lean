/- The functions that FnExactOpText reaches: for each a model and the walk that shows that the Go code comes to it. -/
import Derived.Test.YteablpohefcohaaDoorT
namespace Go.Proofs.YteablpohefcohaaDoor
open Go Go.Z Go.Proofs Go.MuLone Go.ChangeShapes Go.WideShapes Go.ChangeAt Go.RowKit
set_option linter.unusedVariables false
set_option linter.unusedSimpArgs false
noncomputable def spec_l01In.f (x0 : Int) (x1 : Int) (x2 : Int) : Option (Bool) :=
  (((bif (decide (x1 ≤ x0)) then (some (decide (x0 ≤ x2))) else (some false)) : Option (Bool)).bind fun u4 => (some u4))
set_option maxRecDepth 100000 in
set_option maxHeartbeats 0 in
theorem spec_l01In_t (w0 : World) (x0 : Int) (x1 : Int) (x2 : Int) (r : Bool) (H : spec_l01In.f x0 x1 x2 = some r) :
    Calls Tryd.prog 37 #[.int .i64 x0, .int .i64 x1, .int .i64 x2] w0 (Ret (fun v w => v = .bool r ∧ Sat [] w0 w [] [])) := by
  have hs : Sat [] w0 w0 [] [] := Sat.init w0 [] [] (by simp) (by simp) List.nodup_nil (by simp [blks])
  unfold spec_l01In.f at H
  refine enter Tryd.func37 rfl Tryd.ntmps37 rfl fun a hk => ?_
  apply wp_seq_k; intro K1 hK1
  apply wp_region_lit
  refine sa _ rfl hk rfl rfl rfl fun a hk => ?_
  show wpList _ _ _ [] _ _
  refine wpList_nil ?_
  refine hK1 _ _ ?_
  apply wp_seq_k; intro K2 hK2
  obtain ⟨o5, h6, HL7⟩ := bind_some H
  clear H
  obtain ⟨R8, hR8⟩ : ∃ R : Act → World → Prop, R = fun a w => ∃ (u4 : Bool), u4 = o5 ∧ Kn [(6, (.bool u4))] 15 a ∧ Sat [] w0 w [] [] := ⟨_, rfl⟩
  refine wp_cutq R8 ?_ ?_
  ·have H := h6
   apply wp_region_lit
   refine sm _ rfl hk rfl rfl rfl fun a hk => ?_
   refine sm _ rfl hk rfl rfl rfl fun a hk => ?_
   refine sv (.bool (decide (x1 ≤ x0))) hk rfl rfl rfl fun a hk => ?_
   refine sm _ rfl hk rfl rfl rfl fun a hk => ?_
   rcases cond_some H with ⟨c9, H⟩ | ⟨c9, H⟩
   ·have hk := hk.lit 10 c9 rfl
    refine sm _ rfl hk rfl rfl rfl fun a hk => ?_
    refine sm _ rfl hk rfl rfl rfl fun a hk => ?_
    refine sv (.bool (decide (x0 ≤ x2))) hk rfl rfl rfl fun a hk => ?_
    refine sv (.bool (decide (x0 ≤ x2))) hk rfl rfl rfl fun a hk => ?_
    refine sa _ rfl hk rfl rfl rfl fun a hk => ?_
    show wpList _ _ _ [] _ _
    refine wpList_nil ?_
    obtain rfl := Option.some.inj H
    show R8 _ _
    rw [hR8]
    exact ⟨(decide (x0 ≤ x2)), rfl, (hk.c 6 rfl hk.k), (hs.pick [] rfl)⟩
   ·have hk := hk.lit 10 c9 rfl
    refine sk hk rfl rfl rfl fun a hk => ?_
    refine sk hk rfl rfl rfl fun a hk => ?_
    refine sk hk rfl rfl rfl fun a hk => ?_
    refine sv (.bool false) hk rfl rfl rfl fun a hk => ?_
    refine sa _ rfl hk rfl rfl rfl fun a hk => ?_
    show wpList _ _ _ [] _ _
    refine wpList_nil ?_
    obtain rfl := Option.some.inj H
    show R8 _ _
    rw [hR8]
    exact ⟨false, rfl, (hk.c 6 rfl hk.k), (hs.pick [] rfl)⟩
  ·intro a w hR0
   rw [hR8] at hR0
   obtain ⟨u4, rfl, hk, hs⟩ := hR0
   have H := HL7
   try dsimp only at H
   refine hK2 _ _ ?_
   refine wp_ret ?_
   obtain rfl := Option.some.inj H
   exact fin hk _ [(.bool u4)] rfl ⟨rfl, trivial⟩ ⟨rfl, (hs.pick [] rfl).dnil⟩

noncomputable def spec_OpOK.f (x0 : S_Op) : Option (Bool) :=
  ((((spec_l01In.f x0.Kind 1 6).bind fun y11 => (bif (!y11) then (some true) else ((spec_l01In.f x0.Key 1 9999).bind fun y14 => (some (!y14))))) : Option (Bool)).bind fun u6 => (bif u6 then (some false) else (((bif (x0.Kind == 1) then (some true) else (some (x0.Kind == 3))) : Option (Bool)).bind fun u23 => (bif u23 then (some (x0.Value == 0)) else (bif (x0.Kind == 6) then ((spec_l01In.f x0.Value 1 4).bind fun y34 => (some y34)) else ((spec_l01In.f x0.Value 0 999999).bind fun y37 => (some y37)))))))
set_option maxRecDepth 100000 in
set_option maxHeartbeats 0 in
theorem spec_OpOK_t (w0 : World) (x0 : S_Op) (r : Bool) (H : spec_OpOK.f x0 = some r) :
    Calls Tryd.prog 19 #[.agg #[.int .i64 x0.Kind, .int .i64 x0.Key, .int .i64 x0.Value]] w0 (Ret (fun v w => v = .bool r ∧ Sat [] w0 w [] [])) := by
  have hs : Sat [] w0 w0 [] [] := Sat.init w0 [] [] (by simp) (by simp) List.nodup_nil (by simp [blks])
  unfold spec_OpOK.f at H
  refine enter Tryd.func19 rfl Tryd.ntmps19 rfl fun a hk => ?_
  apply wp_seq_k; intro K1 hK1
  apply wp_region_lit
  refine sbx 1 hs rfl hk rfl rfl rfl rfl fun b2 w a hk hs => ?_
  refine sa _ rfl hk rfl rfl rfl fun a hk => ?_
  show wpList _ _ _ [] _ _
  refine wpList_nil ?_
  refine hK1 _ _ ?_
  apply wp_seq_k; intro K3 hK3
  apply wp_seq_k; intro K4 hK4
  obtain ⟨o7, h8, HL9⟩ := bind_some H
  clear H
  obtain ⟨R10, hR10⟩ : ∃ R : Act → World → Prop, R = fun a w => ∃ (u6 : Bool), u6 = o7 ∧ Kn [(1, (.pointer (some ⟨b2, 0, none⟩))), (12, (.bool u6))] 29 a ∧ Sat [] w0 w [] [(1, [(b2, .cells #[.int .i64 x0.Kind, .int .i64 x0.Key, .int .i64 x0.Value] 26 (0, 0))])] := ⟨_, rfl⟩
  refine wp_cutq R10 ?_ ?_
  ·have H := h8
   apply wp_region_lit
   refine sf ⟨b2, 0, none⟩ rfl hk rfl rfl rfl fd26_0 rfl fun a hk => ?_
   refine sl rfl hk rfl rfl rfl ag3 (box_cell hs (k := 1) rfl rfl) fun a hk => ?_
   obtain ⟨y11, h12, H⟩ := bind_some H
   refine sc rfl en37 hk rfl rfl rfl (spec_l01In_t _ x0.Kind 1 6 _ h12) ?_
   rintro _ w ⟨rfl, hG⟩ a hk
   have hs := hs.call0 hG
   refine sv (.bool (!y11)) hk rfl rfl rfl fun a hk => ?_
   refine sm _ rfl hk rfl rfl rfl fun a hk => ?_
   rcases cond_some H with ⟨c13, H⟩ | ⟨c13, H⟩
   ·have hk := hk.lit 7 c13 rfl
    refine sk hk rfl rfl rfl fun a hk => ?_
    refine sk hk rfl rfl rfl fun a hk => ?_
    refine sk hk rfl rfl rfl fun a hk => ?_
    refine sk hk rfl rfl rfl fun a hk => ?_
    refine sv (.bool true) hk rfl rfl rfl fun a hk => ?_
    show wpList _ _ _ [] _ _
    refine wpList_nil ?_
    obtain rfl := Option.some.inj H
    show R10 _ _
    rw [hR10]
    exact ⟨true, rfl, (hk.c 1 rfl (hk.c 12 rfl hk.k)), (hs.pick [(1, 1)] rfl)⟩
   ·have hk := hk.lit 7 c13 rfl
    refine sf ⟨b2, 1, none⟩ rfl hk rfl rfl rfl fd26_1 rfl fun a hk => ?_
    refine sl rfl hk rfl rfl rfl ag3 (box_cell hs (k := 1) rfl rfl) fun a hk => ?_
    obtain ⟨y14, h15, H⟩ := bind_some H
    refine sc rfl en37 hk rfl rfl rfl (spec_l01In_t _ x0.Key 1 9999 _ h15) ?_
    rintro _ w ⟨rfl, hG⟩ a hk
    have hs := hs.call0 hG
    refine sv (.bool (!y14)) hk rfl rfl rfl fun a hk => ?_
    refine sv (.bool (!y14)) hk rfl rfl rfl fun a hk => ?_
    show wpList _ _ _ [] _ _
    refine wpList_nil ?_
    obtain rfl := Option.some.inj H
    show R10 _ _
    rw [hR10]
    exact ⟨(!y14), rfl, (hk.c 1 rfl (hk.c 12 rfl hk.k)), (hs.pick [(1, 1)] rfl)⟩
  ·intro a w hR0
   rw [hR10] at hR0
   obtain ⟨u6, rfl, hk, hs⟩ := hR0
   have H := HL9
   try dsimp only at H
   refine hK4 _ _ ?_
   rcases cond_some H with ⟨c16, H⟩ | ⟨c16, H⟩
   ·have hk := hk.lit 12 c16 rfl
    refine cnd_true hk rfl rfl ?_
    apply wp_seq_k; intro K17 hK17
    apply wp_region_lit
    refine sa _ rfl hk rfl rfl rfl fun a hk => ?_
    show wpList _ _ _ [] _ _
    refine wpList_nil ?_
    refine hK17 _ _ ?_
    refine wp_ret ?_
    obtain rfl := Option.some.inj H
    exact fin hk _ [(.bool false)] rfl ⟨rfl, trivial⟩ ⟨rfl, (hs.pick [] rfl).dnil⟩
   ·have hk := hk.lit 12 c16 rfl
    refine cnd_false hk rfl rfl ?_
    refine wp_skip ?_
    refine hK3 _ _ ?_
    apply wp_seq_k; intro K18 hK18
    apply wp_seq_k; intro K19 hK19
    apply wp_region_lit
    refine sf ⟨b2, 0, none⟩ rfl hk rfl rfl rfl fd26_0 rfl fun a hk => ?_
    refine sl rfl hk rfl rfl rfl ag3 (box_cell hs (k := 1) rfl rfl) fun a hk => ?_
    show wpList _ _ _ [] _ _
    refine wpList_nil ?_
    refine hK19 _ _ ?_
    have hs := hs.pick [(1, 1)] rfl
    refine wp_block ?_
    apply wp_seq_k; intro K20 hK20
    apply wp_seq_k; intro K21 hK21
    apply wp_region_lit
    refine sv (.bool (x0.Kind == 1)) hk rfl rfl rfl fun a hk => ?_
    refine sa _ rfl hk rfl rfl rfl fun a hk => ?_
    show wpList _ _ _ [] _ _
    refine wpList_nil ?_
    refine hK21 _ _ ?_
    obtain ⟨o24, h25, HL26⟩ := bind_some H
    clear H
    obtain ⟨R27, hR27⟩ : ∃ R : Act → World → Prop, R = fun a w => ∃ (u23 : Bool), u23 = o24 ∧ Kn [(1, (.pointer (some ⟨b2, 0, none⟩))), (14, (.int .i64 x0.Kind)), (15, (.bool u23))] 29 a ∧ Sat [] w0 w [] [(1, [(b2, .cells #[.int .i64 x0.Kind, .int .i64 x0.Key, .int .i64 x0.Value] 26 (0, 0))])] := ⟨_, rfl⟩
    refine wp_cutq R27 ?_ ?_
    ·have H := h25
     rcases cond_some H with ⟨c28, H⟩ | ⟨c28, H⟩
     ·have hk := hk.lit 15 c28 rfl
      refine cnd_true hk rfl rfl ?_
      refine wp_skip ?_
      obtain rfl := Option.some.inj H
      show R27 _ _
      rw [hR27]
      exact ⟨true, rfl, (hk.c 1 rfl (hk.c 14 rfl (hk.c 15 rfl hk.k))), (hs.pick [(1, 1)] rfl)⟩
     ·have hk := hk.lit 15 c28 rfl
      refine cnd_false hk rfl rfl ?_
      apply wp_region_lit
      refine sv (.bool (x0.Kind == 3)) hk rfl rfl rfl fun a hk => ?_
      refine sa _ rfl hk rfl rfl rfl fun a hk => ?_
      show wpList _ _ _ [] _ _
      refine wpList_nil ?_
      obtain rfl := Option.some.inj H
      show R27 _ _
      rw [hR27]
      exact ⟨(x0.Kind == 3), rfl, (hk.c 1 rfl (hk.c 14 rfl (hk.c 15 rfl hk.k))), (hs.pick [(1, 1)] rfl)⟩
    ·intro a w hR0
     rw [hR27] at hR0
     obtain ⟨u23, rfl, hk, hs⟩ := hR0
     have H := HL26
     try dsimp only at H
     refine hK20 _ _ ?_
     rcases cond_some H with ⟨c29, H⟩ | ⟨c29, H⟩
     ·have hk := hk.lit 15 c29 rfl
      refine cnd_true hk rfl rfl ?_
      apply wp_seq_k; intro K30 hK30
      apply wp_region_lit
      refine sf ⟨b2, 2, none⟩ rfl hk rfl rfl rfl fd26_2 rfl fun a hk => ?_
      refine sl rfl hk rfl rfl rfl ag3 (box_cell hs (k := 1) rfl rfl) fun a hk => ?_
      refine sv (.bool (x0.Value == 0)) hk rfl rfl rfl fun a hk => ?_
      refine sa _ rfl hk rfl rfl rfl fun a hk => ?_
      show wpList _ _ _ [] _ _
      refine wpList_nil ?_
      refine hK30 _ _ ?_
      refine wp_ret ?_
      obtain rfl := Option.some.inj H
      exact fin hk _ [(.bool (x0.Value == 0))] rfl ⟨rfl, trivial⟩ ⟨rfl, (hs.pick [] rfl).dnil⟩
     ·have hk := hk.lit 15 c29 rfl
      refine cnd_false hk rfl rfl ?_
      apply wp_seq_k; intro K31 hK31
      apply wp_region_lit
      refine sv (.bool (x0.Kind == 6)) hk rfl rfl rfl fun a hk => ?_
      refine sa _ rfl hk rfl rfl rfl fun a hk => ?_
      show wpList _ _ _ [] _ _
      refine wpList_nil ?_
      refine hK31 _ _ ?_
      rcases cond_some H with ⟨c32, H⟩ | ⟨c32, H⟩
      ·have hk := hk.lit 21 c32 rfl
       refine cnd_true hk rfl rfl ?_
       apply wp_seq_k; intro K33 hK33
       apply wp_region_lit
       refine sf ⟨b2, 2, none⟩ rfl hk rfl rfl rfl fd26_2 rfl fun a hk => ?_
       refine sl rfl hk rfl rfl rfl ag3 (box_cell hs (k := 1) rfl rfl) fun a hk => ?_
       obtain ⟨y34, h35, H⟩ := bind_some H
       refine sc rfl en37 hk rfl rfl rfl (spec_l01In_t _ x0.Value 1 4 _ h35) ?_
       rintro _ w ⟨rfl, hG⟩ a hk
       have hs := hs.call0 hG
       refine sa _ rfl hk rfl rfl rfl fun a hk => ?_
       show wpList _ _ _ [] _ _
       refine wpList_nil ?_
       refine hK33 _ _ ?_
       have hs := hs.pick [] rfl
       refine wp_ret ?_
       obtain rfl := Option.some.inj H
       exact fin hk _ [(.bool y34)] rfl ⟨rfl, trivial⟩ ⟨rfl, (hs.pick [] rfl).dnil⟩
      ·have hk := hk.lit 21 c32 rfl
       refine cnd_false hk rfl rfl ?_
       refine wp_skip ?_
       refine hK18 _ _ ?_
       have hs := hs.pick [(1, 1)] rfl
       apply wp_seq_k; intro K36 hK36
       apply wp_region_lit
       refine sf ⟨b2, 2, none⟩ rfl hk rfl rfl rfl fd26_2 rfl fun a hk => ?_
       refine sl rfl hk rfl rfl rfl ag3 (box_cell hs (k := 1) rfl rfl) fun a hk => ?_
       obtain ⟨y37, h38, H⟩ := bind_some H
       refine sc rfl en37 hk rfl rfl rfl (spec_l01In_t _ x0.Value 0 999999 _ h38) ?_
       rintro _ w ⟨rfl, hG⟩ a hk
       have hs := hs.call0 hG
       refine sa _ rfl hk rfl rfl rfl fun a hk => ?_
       show wpList _ _ _ [] _ _
       refine wpList_nil ?_
       refine hK36 _ _ ?_
       refine wp_ret ?_
       obtain rfl := Option.some.inj H
       exact fin hk _ [(.bool y37)] rfl ⟨rfl, trivial⟩ ⟨rfl, (hs.pick [] rfl).dnil⟩

noncomputable def spec_l09Words.f  : Option ((List ByteArray)) :=
  (some ([(⟨#[]⟩ : ByteArray), (⟨#[103, 101, 116]⟩ : ByteArray), (⟨#[112, 117, 116]⟩ : ByteArray), (⟨#[100, 114, 111, 112]⟩ : ByteArray), (⟨#[99, 104, 101, 99, 107]⟩ : ByteArray), (⟨#[97, 100, 100]⟩ : ByteArray), (⟨#[115, 99, 97, 110]⟩ : ByteArray)]))
set_option maxRecDepth 100000 in
set_option maxHeartbeats 0 in
theorem spec_l09Words_t (w0 : World)  (r : (List ByteArray)) (H : spec_l09Words.f  = some r) :
    Calls Tryd.prog 38 #[] w0 (Ret (fun v w => ∃ (A0 : Option Addr) (p0 : Nat) (k0 : Chunk), v = .slice A0 r.length p0 ∧ Own Lay.str 9 A0 p0 r k0 ∧ Sat [] w0 w [] [(0, k0)])) := by
  have hs : Sat [] w0 w0 [] [] := Sat.init w0 [] [] (by simp) (by simp) List.nodup_nil (by simp [blks])
  unfold spec_l09Words.f at H
  refine enter Tryd.func38 rfl Tryd.ntmps38 rfl fun a hk => ?_
  apply wp_seq_k; intro K1 hK1
  apply wp_region_lit
  refine sa _ rfl hk rfl rfl rfl fun a hk => ?_
  show wpList _ _ _ [] _ _
  refine wpList_nil ?_
  refine hK1 _ _ ?_
  apply wp_seq_k; intro K2 hK2
  apply wp_region_lit
  refine sbs (L := Lay.str) (pv := [(0, (.string (⟨#[]⟩ : ByteArray))), (1, (.string (⟨#[103, 101, 116]⟩ : ByteArray))), (2, (.string (⟨#[112, 117, 116]⟩ : ByteArray))), (3, (.string (⟨#[100, 114, 111, 112]⟩ : ByteArray))), (4, (.string (⟨#[99, 104, 101, 99, 107]⟩ : ByteArray))), (5, (.string (⟨#[97, 100, 100]⟩ : ByteArray))), (6, (.string (⟨#[115, 99, 97, 110]⟩ : ByteArray)))]) (xs := [(⟨#[]⟩ : ByteArray), (⟨#[103, 101, 116]⟩ : ByteArray), (⟨#[112, 117, 116]⟩ : ByteArray), (⟨#[100, 114, 111, 112]⟩ : ByteArray), (⟨#[99, 104, 101, 99, 107]⟩ : ByteArray), (⟨#[97, 100, 100]⟩ : ByteArray), (⟨#[115, 99, 97, 110]⟩ : ByteArray)]) (ess := [[.string (⟨#[]⟩ : ByteArray)], [.string (⟨#[103, 101, 116]⟩ : ByteArray)], [.string (⟨#[112, 117, 116]⟩ : ByteArray)], [.string (⟨#[100, 114, 111, 112]⟩ : ByteArray)], [.string (⟨#[99, 104, 101, 99, 107]⟩ : ByteArray)], [.string (⟨#[97, 100, 100]⟩ : ByteArray)], [.string (⟨#[115, 99, 97, 110]⟩ : ByteArray)]]) 1 hs rfl hk rfl rfl rfl un64 (bs9_0 (⟨#[]⟩ : ByteArray) (⟨#[103, 101, 116]⟩ : ByteArray) (⟨#[112, 117, 116]⟩ : ByteArray) (⟨#[100, 114, 111, 112]⟩ : ByteArray) (⟨#[99, 104, 101, 99, 107]⟩ : ByteArray) (⟨#[97, 100, 100]⟩ : ByteArray) (⟨#[115, 99, 97, 110]⟩ : ByteArray)) (AllOwn.cons0 ⟨rfl, rfl⟩ (AllOwn.cons0 ⟨rfl, rfl⟩ (AllOwn.cons0 ⟨rfl, rfl⟩ (AllOwn.cons0 ⟨rfl, rfl⟩ (AllOwn.cons0 ⟨rfl, rfl⟩ (AllOwn.cons0 ⟨rfl, rfl⟩ (AllOwn.cons0 ⟨rfl, rfl⟩ AllOwn.nil))))))) rfl rfl rfl fun b3 k4 w a hk o5 hs => ?_
  refine sa _ rfl hk rfl rfl rfl fun a hk => ?_
  show wpList _ _ _ [] _ _
  refine wpList_nil ?_
  refine hK2 _ _ ?_
  refine wp_ret ?_
  obtain rfl := Option.some.inj H
  exact fin hk _ [(.slice (some ⟨b3, 0, none⟩) 7 7)] rfl ⟨rfl, trivial⟩ ⟨(some ⟨b3, 0, none⟩), 7, _, rfl, o5, (hs.pick [(0, 1)] rfl).dnil⟩

noncomputable def spec_l00Digits.g : Nat → Int → Option (ByteArray)
  | 0, _ => none
  | n + 1, x0 => (bif (x0 == (-9223372036854775808)) then (some (⟨#[45, 57, 50, 50, 51, 51, 55, 50, 48, 51, 54, 56, 53, 52, 55, 55, 53, 56, 48, 56]⟩ : ByteArray)) else (bif (decide (x0 < 0)) then ((spec_l00Digits.g n (w64 (0 - x0))).bind fun y10 => (if (⟨#[45]⟩ : ByteArray).size + y10.size ≤ 1152921504606846976 then (some ((⟨#[45]⟩ : ByteArray) ++ y10)) else none)) else (bif (decide (x0 < 10)) then (some (strOfNums ([(IntKind.wrap .u8 (w64 (48 + x0)))]))) else ((spec_l00Digits.g n (IntKind.wrap .i64 (Int.tdiv x0 10))).bind fun y22 => (if y22.size + (strOfNums ([(IntKind.wrap .u8 (w64 (48 + (Int.tmod x0 10))))])).size ≤ 1152921504606846976 then (some (y22 ++ (strOfNums ([(IntKind.wrap .u8 (w64 (48 + (Int.tmod x0 10))))])))) else none)))))
noncomputable def spec_l00Digits.f (x0 : Int) : Option (ByteArray) := recO (fun n => spec_l00Digits.g n x0)
set_option maxRecDepth 100000 in
set_option maxHeartbeats 0 in
theorem spec_l00Digits_n : ∀ (n : Nat) (w0 : World) (x0 : Int) (r : ByteArray) (H : spec_l00Digits.g n x0 = some r), Calls Tryd.prog 39 #[.int .i64 x0] w0 (Ret (fun v w => v = .string r ∧ Sat [] w0 w [] [])) := by
  intro n
  induction n with
  | zero => intro w0 x0 r H; rw [spec_l00Digits.g] at H; cases H
  | succ n ih =>
  intro w0 x0 r H
  have hs : Sat [] w0 w0 [] [] := Sat.init w0 [] [] (by simp) (by simp) List.nodup_nil (by simp [blks])
  rw [spec_l00Digits.g] at H
  refine enter Tryd.func39 rfl Tryd.ntmps39 rfl fun a hk => ?_
  apply wp_seq_k; intro K1 hK1
  apply wp_region_lit
  refine sa _ rfl hk rfl rfl rfl fun a hk => ?_
  show wpList _ _ _ [] _ _
  refine wpList_nil ?_
  refine hK1 _ _ ?_
  apply wp_seq_k; intro K2 hK2
  apply wp_seq_k; intro K3 hK3
  apply wp_region_lit
  refine sm _ rfl hk rfl rfl rfl fun a hk => ?_
  refine sv (.bool (x0 == (-9223372036854775808))) hk rfl rfl rfl fun a hk => ?_
  show wpList _ _ _ [] _ _
  refine wpList_nil ?_
  refine hK3 _ _ ?_
  rcases cond_some H with ⟨c4, H⟩ | ⟨c4, H⟩
  ·have hk := hk.lit 4 c4 rfl
   refine cnd_true hk rfl rfl ?_
   apply wp_seq_k; intro K5 hK5
   apply wp_region_lit
   refine sa _ rfl hk rfl rfl rfl fun a hk => ?_
   show wpList _ _ _ [] _ _
   refine wpList_nil ?_
   refine hK5 _ _ ?_
   refine wp_ret ?_
   obtain rfl := Option.some.inj H
   exact fin hk _ [(.string (⟨#[45, 57, 50, 50, 51, 51, 55, 50, 48, 51, 54, 56, 53, 52, 55, 55, 53, 56, 48, 56]⟩ : ByteArray))] rfl ⟨rfl, trivial⟩ ⟨rfl, (hs.pick [] rfl).dnil⟩
  ·have hk := hk.lit 4 c4 rfl
   refine cnd_false hk rfl rfl ?_
   refine wp_skip ?_
   refine hK2 _ _ ?_
   apply wp_seq_k; intro K6 hK6
   apply wp_seq_k; intro K7 hK7
   apply wp_region_lit
   refine sm _ rfl hk rfl rfl rfl fun a hk => ?_
   refine sv (.bool (decide (x0 < 0))) hk rfl rfl rfl fun a hk => ?_
   show wpList _ _ _ [] _ _
   refine wpList_nil ?_
   refine hK7 _ _ ?_
   have hs := hs.pick [] rfl
   rcases cond_some H with ⟨c8, H⟩ | ⟨c8, H⟩
   ·have hk := hk.lit 6 c8 rfl
    refine cnd_true hk rfl rfl ?_
    apply wp_seq_k; intro K9 hK9
    apply wp_region_lit
    refine sm _ rfl hk rfl rfl rfl fun a hk => ?_
    refine sv (.int .i64 (w64 (0 - x0))) hk rfl rfl rfl fun a hk => ?_
    obtain ⟨y10, h11, H⟩ := bind_some H
    refine sc rfl en39 hk rfl rfl rfl (ih _ (w64 (0 - x0)) _ h11) ?_
    rintro _ w ⟨rfl, hG⟩ a hk
    have hs := hs.call0 hG
    rcases ite_some H with ⟨c12, H⟩ | ⟨_, H⟩
    rotate_left
    ·cases H
    refine ssa rfl hk rfl rfl rfl rfl c12 fun a hk => ?_
    refine sa _ rfl hk rfl rfl rfl fun a hk => ?_
    show wpList _ _ _ [] _ _
    refine wpList_nil ?_
    refine hK9 _ _ ?_
    refine wp_ret ?_
    obtain rfl := Option.some.inj H
    exact fin hk _ [(.string ((⟨#[45]⟩ : ByteArray) ++ y10))] rfl ⟨rfl, trivial⟩ ⟨rfl, (hs.pick [] rfl).dnil⟩
   ·have hk := hk.lit 6 c8 rfl
    refine cnd_false hk rfl rfl ?_
    refine wp_skip ?_
    refine hK6 _ _ ?_
    apply wp_seq_k; intro K13 hK13
    apply wp_seq_k; intro K14 hK14
    apply wp_region_lit
    refine sm _ rfl hk rfl rfl rfl fun a hk => ?_
    refine sv (.bool (decide (x0 < 10))) hk rfl rfl rfl fun a hk => ?_
    show wpList _ _ _ [] _ _
    refine wpList_nil ?_
    refine hK14 _ _ ?_
    rcases cond_some H with ⟨c15, H⟩ | ⟨c15, H⟩
    ·have hk := hk.lit 12 c15 rfl
     refine cnd_true hk rfl rfl ?_
     apply wp_seq_k; intro K16 hK16
     apply wp_region_lit
     refine sm _ rfl hk rfl rfl rfl fun a hk => ?_
     refine sv (.int .i64 (w64 (48 + x0))) hk rfl rfl rfl fun a hk => ?_
     refine scn rfl hk rfl rfl rfl un5 un3 fun a hk => ?_
     refine sbs (L := (Lay.int .u8)) (pv := [(0, (.int .u8 (IntKind.wrap .u8 (w64 (48 + x0)))))]) (xs := [(IntKind.wrap .u8 (w64 (48 + x0)))]) (ess := [[.int .u8 (IntKind.wrap .u8 (w64 (48 + x0)))]]) 1 hs rfl hk rfl rfl rfl un75 (bs5_1 (IntKind.wrap .u8 (w64 (48 + x0)))) (AllOwn.cons0 ⟨rfl, rfl⟩ AllOwn.nil) rfl rfl rfl fun b17 k18 w a hk o19 hs => ?_
     refine sbt (xs := ([(IntKind.wrap .u8 (w64 (48 + x0)))])) rfl hk rfl rfl rfl rfl un75 un5 un9 o19.view (hs.hasG (k := 1) rfl) fun a hk => ?_
     refine sa _ rfl hk rfl rfl rfl fun a hk => ?_
     show wpList _ _ _ [] _ _
     refine wpList_nil ?_
     refine hK16 _ _ ?_
     refine wp_ret ?_
     obtain rfl := Option.some.inj H
     exact fin hk _ [(.string (strOfNums ([(IntKind.wrap .u8 (w64 (48 + x0)))])))] rfl ⟨rfl, trivial⟩ ⟨rfl, (hs.pick [] rfl).dnil⟩
    ·have hk := hk.lit 12 c15 rfl
     refine cnd_false hk rfl rfl ?_
     refine wp_skip ?_
     refine hK13 _ _ ?_
     apply wp_seq_k; intro K20 hK20
     refine wp_region_tree (.q 0 (.q 1 (.q 2 (.alt 3 (.alt 4 (.alt 5 (.alt 6 (.alt 7 (.alt 8 (.alt 9 (.last 10) .stop) .stop) .stop) .stop) .stop) .stop) .stop)))) mo (by kernel_rfl) (hs.pick [] rfl) fun _ => ?_
     have hs := hs.drew
     refine tqst (.int .i64 x0) hk rfl rfl rfl rfl (fun w hs => sm _ rfl hk rfl rfl rfl fun a hk => qe hk) fun a hk => ?_
     refine tqst (.int .i64 (IntKind.wrap .i64 (Int.tdiv x0 10))) hk rfl rfl rfl rfl (fun w hs => sv (.int .i64 (IntKind.wrap .i64 (Int.tdiv x0 10))) hk rfl rfl rfl fun a hk => qe hk) fun a hk => ?_
     obtain ⟨y22, h23, H⟩ := bind_some H
     refine tqst (.string y22) hk rfl rfl rfl rfl (fun w hs => sc rfl en39 hk rfl rfl rfl (ih _ (IntKind.wrap .i64 (Int.tdiv x0 10)) _ h23) fun _ w hR a hk => qc hR hk) fun a hk => ?_
     refine tsst hk rfl rfl (fun K_r21_3 hK_r21_3 w hF => ?_) wt_stop
     have hs := hs.f hF
     refine sm _ rfl hk rfl rfl rfl fun a hk => ?_
     refine se (hs.pick [] rfl) hk (hK_r21_3 _ _ ?_)
     refine tsst hk rfl rfl (fun K_r21_4 hK_r21_4 w hF => ?_) wt_stop
     have hs := hs.f hF
     refine sv (.int .i64 (Int.tmod x0 10)) hk rfl rfl rfl fun a hk => ?_
     refine se (hs.pick [] rfl) hk (hK_r21_4 _ _ ?_)
     refine tsst hk rfl rfl (fun K_r21_5 hK_r21_5 w hF => ?_) wt_stop
     have hs := hs.f hF
     refine sv (.int .i64 (w64 (48 + (Int.tmod x0 10)))) hk rfl rfl rfl fun a hk => ?_
     refine se (hs.pick [] rfl) hk (hK_r21_5 _ _ ?_)
     refine tsst hk rfl rfl (fun K_r21_6 hK_r21_6 w hF => ?_) wt_stop
     have hs := hs.f hF
     refine scn rfl hk rfl rfl rfl un5 un3 fun a hk => ?_
     refine se (hs.pick [] rfl) hk (hK_r21_6 _ _ ?_)
     refine tsst hk rfl rfl (fun K_r21_7 hK_r21_7 w hF => ?_) wt_stop
     have hs := hs.f hF
     refine sbs (L := (Lay.int .u8)) (pv := [(0, (.int .u8 (IntKind.wrap .u8 (w64 (48 + (Int.tmod x0 10))))))]) (xs := [(IntKind.wrap .u8 (w64 (48 + (Int.tmod x0 10))))]) (ess := [[.int .u8 (IntKind.wrap .u8 (w64 (48 + (Int.tmod x0 10))))]]) 3 hs rfl hk rfl rfl rfl un75 (bs5_1 (IntKind.wrap .u8 (w64 (48 + (Int.tmod x0 10))))) (AllOwn.cons0 ⟨rfl, rfl⟩ AllOwn.nil) rfl rfl rfl fun b24 k25 w a hk o26 hs => ?_
     refine se (hs.pick [] rfl) hk (hK_r21_7 _ _ ?_)
     refine tsst hk rfl rfl (fun K_r21_8 hK_r21_8 w hF => ?_) wt_stop
     have hs := hs.f hF
     refine sbt (xs := ([(IntKind.wrap .u8 (w64 (48 + (Int.tmod x0 10))))])) rfl hk rfl rfl rfl rfl un75 un5 un9 o26.view (hs.hasG (k := 3) rfl) fun a hk => ?_
     refine se (hs.pick [] rfl) hk (hK_r21_8 _ _ ?_)
     refine tsst hk rfl rfl (fun K_r21_9 hK_r21_9 w hF => ?_) wt_stop
     have hs := hs.f hF
     rcases ite_some H with ⟨c27, H⟩ | ⟨_, H⟩
     rotate_left
     ·cases H
     refine ssa rfl hk rfl rfl rfl rfl c27 fun a hk => ?_
     refine se (hs.pick [] rfl) hk (hK_r21_9 _ _ ?_)
     refine tlst hk rfl rfl fun K_r21_10 hK_r21_10 w hF => ?_
     have hs := hs.f hF
     refine sa _ rfl hk rfl rfl rfl fun a hk => ?_
     refine se trivial hk (hK_r21_10 _ _ fun w hF => ?_)
     have hs := hs.f hF
     refine hK20 _ _ ?_
     have hs := hs.pick [] rfl
     refine wp_ret ?_
     obtain rfl := Option.some.inj H
     exact fin hk _ [(.string (y22 ++ (strOfNums ([(IntKind.wrap .u8 (w64 (48 + (Int.tmod x0 10))))]))))] rfl ⟨rfl, trivial⟩ ⟨rfl, (hs.pick [] rfl).dnil⟩
set_option maxRecDepth 100000 in
set_option maxHeartbeats 0 in
theorem spec_l00Digits_t (w0 : World) (x0 : Int) (r : ByteArray) (H : spec_l00Digits.f x0 = some r) :
    Calls Tryd.prog 39 #[.int .i64 x0] w0 (Ret (fun v w => v = .string r ∧ Sat [] w0 w [] [])) := by
  obtain ⟨n, H⟩ := recO_some H
  exact spec_l00Digits_n n w0 x0 r H

noncomputable def spec_l09Op.f (x0 : S_Op) : Option (ByteArray) :=
  ((spec_l09Words.f).bind fun y5 => (if 0 ≤ x0.Kind ∧ x0.Kind < (y5.length : Int) then ((spec_l00Digits.f x0.Key).bind fun y14 => (if (y5.getD (x0.Kind).toNat ByteArray.empty).size + (⟨#[32]⟩ : ByteArray).size ≤ 1152921504606846976 then (if ((y5.getD (x0.Kind).toNat ByteArray.empty) ++ (⟨#[32]⟩ : ByteArray)).size + y14.size ≤ 1152921504606846976 then (((bif (x0.Kind != 1) then (some (x0.Kind != 3)) else (some false)) : Option (Bool)).bind fun u22 => (((bif u22 then ((spec_l00Digits.f x0.Value).bind fun y35 => (if (⟨#[32]⟩ : ByteArray).size + y35.size ≤ 1152921504606846976 then (if (((y5.getD (x0.Kind).toNat ByteArray.empty) ++ (⟨#[32]⟩ : ByteArray)) ++ y14).size + ((⟨#[32]⟩ : ByteArray) ++ y35).size ≤ 1152921504606846976 then (some ((((y5.getD (x0.Kind).toNat ByteArray.empty) ++ (⟨#[32]⟩ : ByteArray)) ++ y14) ++ ((⟨#[32]⟩ : ByteArray) ++ y35))) else none) else none)) else (some (((y5.getD (x0.Kind).toNat ByteArray.empty) ++ (⟨#[32]⟩ : ByteArray)) ++ y14))) : Option (ByteArray)).bind fun u29 => (some u29))) else none) else none)) else none))
set_option maxRecDepth 100000 in
set_option maxHeartbeats 0 in
theorem spec_l09Op_t (w0 : World) (x0 : S_Op) (r : ByteArray) (H : spec_l09Op.f x0 = some r) :
    Calls Tryd.prog 20 #[.agg #[.int .i64 x0.Kind, .int .i64 x0.Key, .int .i64 x0.Value]] w0 (Ret (fun v w => v = .string r ∧ Sat [] w0 w [] [])) := by
  have hs : Sat [] w0 w0 [] [] := Sat.init w0 [] [] (by simp) (by simp) List.nodup_nil (by simp [blks])
  unfold spec_l09Op.f at H
  refine enter Tryd.func20 rfl Tryd.ntmps20 rfl fun a hk => ?_
  apply wp_seq_k; intro K1 hK1
  apply wp_region_lit
  refine sbx 1 hs rfl hk rfl rfl rfl rfl fun b2 w a hk hs => ?_
  refine sa _ rfl hk rfl rfl rfl fun a hk => ?_
  show wpList _ _ _ [] _ _
  refine wpList_nil ?_
  refine hK1 _ _ ?_
  apply wp_seq_k; intro K3 hK3
  refine wp_region_tree (.q 1 (.q 2 (.q 6 (.q 7 (.alt 0 (.q 3 (.q 8 (.alt 4 (.alt 5 (.alt 9 (.last 10) .stop) .stop) .stop))) .stop))))) mo (by kernel_rfl) (hs.pick [(1, 1)] rfl) fun _ => ?_
  have hs := hs.drew
  refine tqst (.pointer (some ⟨b2, 0, none⟩)) hk rfl rfl rfl rfl (fun w hs => sf ⟨b2, 0, none⟩ rfl hk rfl rfl rfl fd26_0 rfl fun a hk => qe hk) fun a hk => ?_
  refine tqst (.int .i64 x0.Kind) hk rfl rfl rfl rfl (fun w hs => sl rfl hk rfl rfl rfl ag3 (box_cell hs (k := 1) rfl rfl) fun a hk => qe hk) fun a hk => ?_
  refine tqst (.pointer (some ⟨b2, 1, none⟩)) hk rfl rfl rfl rfl (fun w hs => sf ⟨b2, 1, none⟩ rfl hk rfl rfl rfl fd26_1 rfl fun a hk => qe hk) fun a hk => ?_
  refine tqst (.int .i64 x0.Key) hk rfl rfl rfl rfl (fun w hs => sl rfl hk rfl rfl rfl ag3 (box_cell hs (k := 1) rfl rfl) fun a hk => qe hk) fun a hk => ?_
  refine tsst hk rfl rfl (fun K_r4_0 hK_r4_0 w hF => ?_) wt_stop
  have hs := hs.f hF
  obtain ⟨y5, h6, H⟩ := bind_some H
  refine sc rfl en38 hk rfl rfl rfl (spec_l09Words_t _ _ h6) ?_
  rintro _ w ⟨A7, p8, k9, rfl, o10, hG⟩ a hk
  have hs := hs.call0k hG [3] rfl
  refine se (hs.pick [(1, 1)] rfl) hk (hK_r4_0 _ _ ?_)
  rcases ite_some H with ⟨c11, H⟩ | ⟨_, H⟩
  rotate_left
  ·cases H
  obtain ⟨b12, q13, hAc11⟩ := (o10.view).some_ x0.Kind c11.1 c11.2
  refine tqst (.pointer (some (padd A7 ((x0.Kind).toNat * 1)))) hk rfl rfl rfl rfl (fun w hs => si rfl hk rfl rfl rfl rfl un64 sz9 c11.1 c11.2 hAc11 fun a hk => qe hk) fun a hk => ?_
  obtain ⟨y14, h15, H⟩ := bind_some H
  refine tqst (.string y14) hk rfl rfl rfl rfl (fun w hs => sc rfl en39 hk rfl rfl rfl (spec_l00Digits_t _ x0.Key _ h15) fun _ w hR a hk => qc hR hk) fun a hk => ?_
  refine tsst hk rfl rfl (fun K_r4_4 hK_r4_4 w hF => ?_) wt_stop
  have hs := hs.f hF
  obtain ⟨_, rfl, e16⟩ := (o10.view).at_ ByteArray.empty x0.Kind c11.1 c11.2
  refine sl (v := (.string (y5.getD (x0.Kind).toNat ByteArray.empty))) rfl hk rfl rfl rfl ag9 ((e16 0 _ rfl).cell (hs.hasG (k := 3) rfl)) fun a hk => ?_
  refine se (hs.pick [(1, 1)] rfl) hk (hK_r4_4 _ _ ?_)
  refine tsst hk rfl rfl (fun K_r4_5 hK_r4_5 w hF => ?_) wt_stop
  have hs := hs.f hF
  rcases ite_some H with ⟨c17, H⟩ | ⟨_, H⟩
  rotate_left
  ·cases H
  refine ssa rfl hk rfl rfl rfl rfl c17 fun a hk => ?_
  refine se (hs.pick [(1, 1)] rfl) hk (hK_r4_5 _ _ ?_)
  refine tsst hk rfl rfl (fun K_r4_9 hK_r4_9 w hF => ?_) wt_stop
  have hs := hs.f hF
  rcases ite_some H with ⟨c18, H⟩ | ⟨_, H⟩
  rotate_left
  ·cases H
  refine ssa rfl hk rfl rfl rfl rfl c18 fun a hk => ?_
  refine se (hs.pick [(1, 1)] rfl) hk (hK_r4_9 _ _ ?_)
  refine tlst hk rfl rfl fun K_r4_10 hK_r4_10 w hF => ?_
  have hs := hs.f hF
  refine sa _ rfl hk rfl rfl rfl fun a hk => ?_
  refine se trivial hk (hK_r4_10 _ _ fun w hF => ?_)
  have hs := hs.f hF
  refine hK3 _ _ ?_
  apply wp_seq_k; intro K19 hK19
  apply wp_seq_k; intro K20 hK20
  obtain ⟨o23, h24, HL25⟩ := bind_some H
  clear H
  obtain ⟨R26, hR26⟩ : ∃ R : Act → World → Prop, R = fun a w => ∃ (u22 : Bool), u22 = o23 ∧ Kn [(1, (.pointer (some ⟨b2, 0, none⟩))), (3, (.string (((y5.getD (x0.Kind).toNat ByteArray.empty) ++ (⟨#[32]⟩ : ByteArray)) ++ y14))), (21, (.bool u22))] 29 a ∧ Sat [] w0 w [] [(1, [(b2, .cells #[.int .i64 x0.Kind, .int .i64 x0.Key, .int .i64 x0.Value] 26 (0, 0))])] := ⟨_, rfl⟩
  refine wp_cutq R26 ?_ ?_
  ·have H := h24
   apply wp_region_lit
   refine sf ⟨b2, 0, none⟩ rfl hk rfl rfl rfl fd26_0 rfl fun a hk => ?_
   refine sl rfl hk rfl rfl rfl ag3 (box_cell hs (k := 1) rfl rfl) fun a hk => ?_
   refine sv (.bool (x0.Kind != 1)) hk rfl rfl rfl fun a hk => ?_
   refine sm _ rfl hk rfl rfl rfl fun a hk => ?_
   rcases cond_some H with ⟨c27, H⟩ | ⟨c27, H⟩
   ·have hk := hk.lit 17 c27 rfl
    refine sf ⟨b2, 0, none⟩ rfl hk rfl rfl rfl fd26_0 rfl fun a hk => ?_
    refine sl rfl hk rfl rfl rfl ag3 (box_cell hs (k := 1) rfl rfl) fun a hk => ?_
    refine sv (.bool (x0.Kind != 3)) hk rfl rfl rfl fun a hk => ?_
    refine sv (.bool (x0.Kind != 3)) hk rfl rfl rfl fun a hk => ?_
    show wpList _ _ _ [] _ _
    refine wpList_nil ?_
    obtain rfl := Option.some.inj H
    show R26 _ _
    rw [hR26]
    exact ⟨(x0.Kind != 3), rfl, (hk.c 1 rfl (hk.c 3 rfl (hk.c 21 rfl hk.k))), (hs.pick [(1, 1)] rfl)⟩
   ·have hk := hk.lit 17 c27 rfl
    refine sk hk rfl rfl rfl fun a hk => ?_
    refine sk hk rfl rfl rfl fun a hk => ?_
    refine sk hk rfl rfl rfl fun a hk => ?_
    refine sv (.bool false) hk rfl rfl rfl fun a hk => ?_
    show wpList _ _ _ [] _ _
    refine wpList_nil ?_
    obtain rfl := Option.some.inj H
    show R26 _ _
    rw [hR26]
    exact ⟨false, rfl, (hk.c 1 rfl (hk.c 3 rfl (hk.c 21 rfl hk.k))), (hs.pick [(1, 1)] rfl)⟩
  ·intro a w hR0
   rw [hR26] at hR0
   obtain ⟨u22, rfl, hk, hs⟩ := hR0
   have H := HL25
   try dsimp only at H
   refine hK20 _ _ ?_
   obtain ⟨o30, h31, HL32⟩ := bind_some H
   clear H
   obtain ⟨R33, hR33⟩ : ∃ R : Act → World → Prop, R = fun a w => ∃ (u29 : ByteArray), u29 = o30 ∧ Kn [(3, (.string u29))] 29 a ∧ Sat [] w0 w [] [] := ⟨_, rfl⟩
   refine wp_cutq R33 ?_ ?_
   ·have H := h31
    rcases cond_some H with ⟨c34, H⟩ | ⟨c34, H⟩
    ·have hk := hk.lit 21 c34 rfl
     refine cnd_true hk rfl rfl ?_
     apply wp_region_lit
     refine sm _ rfl hk rfl rfl rfl fun a hk => ?_
     refine sf ⟨b2, 2, none⟩ rfl hk rfl rfl rfl fd26_2 rfl fun a hk => ?_
     refine sl rfl hk rfl rfl rfl ag3 (box_cell hs (k := 1) rfl rfl) fun a hk => ?_
     obtain ⟨y35, h36, H⟩ := bind_some H
     refine sc rfl en39 hk rfl rfl rfl (spec_l00Digits_t _ x0.Value _ h36) ?_
     rintro _ w ⟨rfl, hG⟩ a hk
     have hs := hs.call0 hG
     rcases ite_some H with ⟨c37, H⟩ | ⟨_, H⟩
     rotate_left
     ·cases H
     refine ssa rfl hk rfl rfl rfl rfl c37 fun a hk => ?_
     rcases ite_some H with ⟨c38, H⟩ | ⟨_, H⟩
     rotate_left
     ·cases H
     refine ssa rfl hk rfl rfl rfl rfl c38 fun a hk => ?_
     refine sa _ rfl hk rfl rfl rfl fun a hk => ?_
     show wpList _ _ _ [] _ _
     refine wpList_nil ?_
     obtain rfl := Option.some.inj H
     show R33 _ _
     rw [hR33]
     exact ⟨((((y5.getD (x0.Kind).toNat ByteArray.empty) ++ (⟨#[32]⟩ : ByteArray)) ++ y14) ++ ((⟨#[32]⟩ : ByteArray) ++ y35)), rfl, (hk.c 3 rfl hk.k), (hs.pick [] rfl)⟩
    ·have hk := hk.lit 21 c34 rfl
     refine cnd_false hk rfl rfl ?_
     refine wp_skip ?_
     obtain rfl := Option.some.inj H
     show R33 _ _
     rw [hR33]
     exact ⟨(((y5.getD (x0.Kind).toNat ByteArray.empty) ++ (⟨#[32]⟩ : ByteArray)) ++ y14), rfl, (hk.c 3 rfl hk.k), (hs.pick [] rfl)⟩
   ·intro a w hR0
    rw [hR33] at hR0
    obtain ⟨u29, rfl, hk, hs⟩ := hR0
    have H := HL32
    try dsimp only at H
    refine hK19 _ _ ?_
    have hs := hs.pick [] rfl
    apply wp_seq_k; intro K39 hK39
    apply wp_region_lit
    refine sm _ rfl hk rfl rfl rfl fun a hk => ?_
    refine sa _ rfl hk rfl rfl rfl fun a hk => ?_
    show wpList _ _ _ [] _ _
    refine wpList_nil ?_
    refine hK39 _ _ ?_
    refine wp_ret ?_
    obtain rfl := Option.some.inj H
    exact fin hk _ [(.string u29)] rfl ⟨rfl, trivial⟩ ⟨rfl, (hs.pick [] rfl).dnil⟩

noncomputable def spec_OpText.f (x0 : S_Op) : Option (ByteArray × Int) :=
  ((spec_OpOK.f x0).bind fun y5 => (bif (!y5) then (some ((⟨#[]⟩ : ByteArray), 1)) else ((spec_l09Op.f x0).bind fun y10 => (some (y10, 0)))))
set_option maxRecDepth 100000 in
set_option maxHeartbeats 0 in
theorem spec_OpText_t (w0 : World) (x0 : S_Op) (r : ByteArray × Int) (H : spec_OpText.f x0 = some r) :
    Calls Tryd.prog 6 #[.agg #[.int .i64 x0.Kind, .int .i64 x0.Key, .int .i64 x0.Value]] w0 (Ret (fun v w => v = .tuple #[.string r.1, .int .i64 r.2] ∧ Sat [] w0 w [] [])) := by
  have hs : Sat [] w0 w0 [] [] := Sat.init w0 [] [] (by simp) (by simp) List.nodup_nil (by simp [blks])
  unfold spec_OpText.f at H
  refine enter Tryd.func6 rfl Tryd.ntmps6 rfl fun a hk => ?_
  apply wp_seq_k; intro K1 hK1
  apply wp_region_lit
  refine sbx 1 hs rfl hk rfl rfl rfl rfl fun b2 w a hk hs => ?_
  refine sa _ rfl hk rfl rfl rfl fun a hk => ?_
  refine sa _ rfl hk rfl rfl rfl fun a hk => ?_
  show wpList _ _ _ [] _ _
  refine wpList_nil ?_
  refine hK1 _ _ ?_
  apply wp_seq_k; intro K3 hK3
  apply wp_seq_k; intro K4 hK4
  apply wp_region_lit
  refine sln [.int .i64 x0.Kind, .int .i64 x0.Key, .int .i64 x0.Value] rfl hk rfl rfl rfl ag26 sz26 (box_cells hs (k := 1) rfl) fun a hk => ?_
  obtain ⟨y5, h6, H⟩ := bind_some H
  refine sc rfl en19 hk rfl rfl rfl (spec_OpOK_t _ x0 _ h6) ?_
  rintro _ w ⟨rfl, hG⟩ a hk
  have hs := hs.call0 hG
  refine sv (.bool (!y5)) hk rfl rfl rfl fun a hk => ?_
  show wpList _ _ _ [] _ _
  refine wpList_nil ?_
  refine hK4 _ _ ?_
  rcases cond_some H with ⟨c7, H⟩ | ⟨c7, H⟩
  ·have hk := hk.lit 6 c7 rfl
   refine cnd_true hk rfl rfl ?_
   apply wp_seq_k; intro K8 hK8
   apply wp_region_lit
   refine sa _ rfl hk rfl rfl rfl fun a hk => ?_
   refine sa _ rfl hk rfl rfl rfl fun a hk => ?_
   show wpList _ _ _ [] _ _
   refine wpList_nil ?_
   refine hK8 _ _ ?_
   refine wp_ret ?_
   obtain rfl := Option.some.inj H
   exact fin hk _ [(.string (⟨#[]⟩ : ByteArray)), (.int .i64 1)] rfl ⟨rfl, ⟨rfl, trivial⟩⟩ ⟨rfl, (hs.pick [] rfl).dnil⟩
  ·have hk := hk.lit 6 c7 rfl
   refine cnd_false hk rfl rfl ?_
   refine wp_skip ?_
   refine hK3 _ _ ?_
   apply wp_seq_k; intro K9 hK9
   apply wp_region_lit
   refine sln [.int .i64 x0.Kind, .int .i64 x0.Key, .int .i64 x0.Value] rfl hk rfl rfl rfl ag26 sz26 (box_cells hs (k := 1) rfl) fun a hk => ?_
   obtain ⟨y10, h11, H⟩ := bind_some H
   refine sc rfl en20 hk rfl rfl rfl (spec_l09Op_t _ x0 _ h11) ?_
   rintro _ w ⟨rfl, hG⟩ a hk
   have hs := hs.call0 hG
   refine sa _ rfl hk rfl rfl rfl fun a hk => ?_
   refine sa _ rfl hk rfl rfl rfl fun a hk => ?_
   show wpList _ _ _ [] _ _
   refine wpList_nil ?_
   refine hK9 _ _ ?_
   have hs := hs.pick [] rfl
   refine wp_ret ?_
   obtain rfl := Option.some.inj H
   exact fin hk _ [(.string y10), (.int .i64 0)] rfl ⟨rfl, ⟨rfl, trivial⟩⟩ ⟨rfl, (hs.pick [] rfl).dnil⟩

noncomputable def laws_toOp.f (x0 : S_Op) : Option (S_Op) :=
  (some (⟨x0.Kind, x0.Key, x0.Value⟩ : S_Op))
set_option maxRecDepth 100000 in
set_option maxHeartbeats 0 in
theorem laws_toOp_t (w0 : World) (x0 : S_Op) (r : S_Op) (H : laws_toOp.f x0 = some r) :
    Calls Tryd.prog 7 #[.agg #[.int .i64 x0.Kind, .int .i64 x0.Key, .int .i64 x0.Value]] w0 (Ret (fun v w => v = .agg #[.int .i64 r.Kind, .int .i64 r.Key, .int .i64 r.Value] ∧ Sat [] w0 w [] [])) := by
  have hs : Sat [] w0 w0 [] [] := Sat.init w0 [] [] (by simp) (by simp) List.nodup_nil (by simp [blks])
  unfold laws_toOp.f at H
  refine enter Tryd.func7 rfl Tryd.ntmps7 rfl fun a hk => ?_
  apply wp_seq_k; intro K1 hK1
  apply wp_region_lit
  refine sbx 1 hs rfl hk rfl rfl rfl rfl fun b2 w a hk hs => ?_
  refine salx 2 hs rfl hk rfl rfl ze26 rfl fun b3 w a hk hs => ?_
  show wpList _ _ _ [] _ _
  refine wpList_nil ?_
  refine hK1 _ _ ?_
  apply wp_seq_k; intro K4 hK4
  apply wp_region_lit
  refine salx 3 hs rfl hk rfl rfl ze26 rfl fun b5 w a hk hs => ?_
  show wpList _ _ _ [] _ _
  refine wpList_nil ?_
  refine hK4 _ _ ?_
  apply wp_seq_k; intro K6 hK6
  apply wp_region_lit
  refine sf ⟨b2, 0, none⟩ rfl hk rfl rfl rfl fd23_0 rfl fun a hk => ?_
  refine sl rfl hk rfl rfl rfl ag3 (box_cell hs (k := 1) rfl rfl) fun a hk => ?_
  refine sf ⟨b5, 0, none⟩ rfl hk rfl rfl rfl fd26_0 rfl fun a hk => ?_
  refine ssx (cs' := #[.int .i64 x0.Kind, .int .i64 0, .int .i64 0]) 3 hs rfl rfl hk rfl rfl rfl rfl sz3 rfl rfl rfl rfl fun w a hk hs => ?_
  show wpList _ _ _ [] _ _
  refine wpList_nil ?_
  refine hK6 _ _ ?_
  apply wp_seq_k; intro K7 hK7
  apply wp_region_lit
  refine sf ⟨b2, 1, none⟩ rfl hk rfl rfl rfl fd23_1 rfl fun a hk => ?_
  refine sl rfl hk rfl rfl rfl ag3 (box_cell hs (k := 1) rfl rfl) fun a hk => ?_
  refine sf ⟨b5, 1, none⟩ rfl hk rfl rfl rfl fd26_1 rfl fun a hk => ?_
  refine ssx (cs' := #[.int .i64 x0.Kind, .int .i64 x0.Key, .int .i64 0]) 3 hs rfl rfl hk rfl rfl rfl rfl sz3 rfl rfl rfl rfl fun w a hk hs => ?_
  show wpList _ _ _ [] _ _
  refine wpList_nil ?_
  refine hK7 _ _ ?_
  have hs := hs.pick [(1, 1), (2, 2), (3, 3)] rfl
  apply wp_seq_k; intro K8 hK8
  apply wp_region_lit
  refine sf ⟨b2, 2, none⟩ rfl hk rfl rfl rfl fd23_2 rfl fun a hk => ?_
  refine sl rfl hk rfl rfl rfl ag3 (box_cell hs (k := 1) rfl rfl) fun a hk => ?_
  refine sf ⟨b5, 2, none⟩ rfl hk rfl rfl rfl fd26_2 rfl fun a hk => ?_
  refine ssx (cs' := #[.int .i64 x0.Kind, .int .i64 x0.Key, .int .i64 x0.Value]) 3 hs rfl rfl hk rfl rfl rfl rfl sz3 rfl rfl rfl rfl fun w a hk hs => ?_
  show wpList _ _ _ [] _ _
  refine wpList_nil ?_
  refine hK8 _ _ ?_
  apply wp_seq_k; intro K9 hK9
  apply wp_region_lit
  refine sln [.int .i64 x0.Kind, .int .i64 x0.Key, .int .i64 x0.Value] rfl hk rfl rfl rfl ag26 sz26 (box_cells hs (k := 3) rfl) fun a hk => ?_
  refine ssw 2 hs rfl rfl hk rfl rfl rfl rfl sz26 (by simp [Value.oneCell']) rfl fun w a hk hs => ?_
  show wpList _ _ _ [] _ _
  refine wpList_nil ?_
  refine hK9 _ _ ?_
  refine wp_ret ?_
  obtain rfl := Option.some.inj H
  exact fin hk _ [(.agg #[.int .i64 x0.Kind, .int .i64 x0.Key, .int .i64 x0.Value])] rfl ⟨⟨_, rfl, run_loadN ag26 sz26 (box_cells hs (k := 2) rfl)⟩, trivial⟩ ⟨rfl, (hs.pick [] rfl).dnil⟩

noncomputable def impl_within.f (x0 : Int) (x1 : Int) (x2 : Int) : Option (Bool) :=
  (((bif (decide (x1 ≤ x0)) then (some (decide (x0 ≤ x2))) else (some false)) : Option (Bool)).bind fun u4 => (some u4))
set_option maxRecDepth 100000 in
set_option maxHeartbeats 0 in
theorem impl_within_t (w0 : World) (x0 : Int) (x1 : Int) (x2 : Int) (r : Bool) (H : impl_within.f x0 x1 x2 = some r) :
    Calls Tryd.prog 40 #[.int .i64 x0, .int .i64 x1, .int .i64 x2] w0 (Ret (fun v w => v = .bool r ∧ Sat [] w0 w [] [])) := by
  have hs : Sat [] w0 w0 [] [] := Sat.init w0 [] [] (by simp) (by simp) List.nodup_nil (by simp [blks])
  unfold impl_within.f at H
  refine enter Tryd.func40 rfl Tryd.ntmps40 rfl fun a hk => ?_
  apply wp_seq_k; intro K1 hK1
  apply wp_region_lit
  refine sa _ rfl hk rfl rfl rfl fun a hk => ?_
  show wpList _ _ _ [] _ _
  refine wpList_nil ?_
  refine hK1 _ _ ?_
  apply wp_seq_k; intro K2 hK2
  obtain ⟨o5, h6, HL7⟩ := bind_some H
  clear H
  obtain ⟨R8, hR8⟩ : ∃ R : Act → World → Prop, R = fun a w => ∃ (u4 : Bool), u4 = o5 ∧ Kn [(6, (.bool u4))] 15 a ∧ Sat [] w0 w [] [] := ⟨_, rfl⟩
  refine wp_cutq R8 ?_ ?_
  ·have H := h6
   apply wp_region_lit
   refine sm _ rfl hk rfl rfl rfl fun a hk => ?_
   refine sm _ rfl hk rfl rfl rfl fun a hk => ?_
   refine sv (.bool (decide (x1 ≤ x0))) hk rfl rfl rfl fun a hk => ?_
   refine sm _ rfl hk rfl rfl rfl fun a hk => ?_
   rcases cond_some H with ⟨c9, H⟩ | ⟨c9, H⟩
   ·have hk := hk.lit 10 c9 rfl
    refine sm _ rfl hk rfl rfl rfl fun a hk => ?_
    refine sm _ rfl hk rfl rfl rfl fun a hk => ?_
    refine sv (.bool (decide (x0 ≤ x2))) hk rfl rfl rfl fun a hk => ?_
    refine sv (.bool (decide (x0 ≤ x2))) hk rfl rfl rfl fun a hk => ?_
    refine sa _ rfl hk rfl rfl rfl fun a hk => ?_
    show wpList _ _ _ [] _ _
    refine wpList_nil ?_
    obtain rfl := Option.some.inj H
    show R8 _ _
    rw [hR8]
    exact ⟨(decide (x0 ≤ x2)), rfl, (hk.c 6 rfl hk.k), (hs.pick [] rfl)⟩
   ·have hk := hk.lit 10 c9 rfl
    refine sk hk rfl rfl rfl fun a hk => ?_
    refine sk hk rfl rfl rfl fun a hk => ?_
    refine sk hk rfl rfl rfl fun a hk => ?_
    refine sv (.bool false) hk rfl rfl rfl fun a hk => ?_
    refine sa _ rfl hk rfl rfl rfl fun a hk => ?_
    show wpList _ _ _ [] _ _
    refine wpList_nil ?_
    obtain rfl := Option.some.inj H
    show R8 _ _
    rw [hR8]
    exact ⟨false, rfl, (hk.c 6 rfl hk.k), (hs.pick [] rfl)⟩
  ·intro a w hR0
   rw [hR8] at hR0
   obtain ⟨u4, rfl, hk, hs⟩ := hR0
   have H := HL7
   try dsimp only at H
   refine hK2 _ _ ?_
   refine wp_ret ?_
   obtain rfl := Option.some.inj H
   exact fin hk _ [(.bool u4)] rfl ⟨rfl, trivial⟩ ⟨rfl, (hs.pick [] rfl).dnil⟩

noncomputable def impl_isKey.f (x0 : Int) : Option (Bool) :=
  ((impl_within.f x0 1 9999).bind fun y3 => (some y3))
set_option maxRecDepth 100000 in
set_option maxHeartbeats 0 in
theorem impl_isKey_t (w0 : World) (x0 : Int) (r : Bool) (H : impl_isKey.f x0 = some r) :
    Calls Tryd.prog 41 #[.int .i64 x0] w0 (Ret (fun v w => v = .bool r ∧ Sat [] w0 w [] [])) := by
  have hs : Sat [] w0 w0 [] [] := Sat.init w0 [] [] (by simp) (by simp) List.nodup_nil (by simp [blks])
  unfold impl_isKey.f at H
  refine enter Tryd.func41 rfl Tryd.ntmps41 rfl fun a hk => ?_
  apply wp_seq_k; intro K1 hK1
  apply wp_region_lit
  refine sa _ rfl hk rfl rfl rfl fun a hk => ?_
  show wpList _ _ _ [] _ _
  refine wpList_nil ?_
  refine hK1 _ _ ?_
  apply wp_seq_k; intro K2 hK2
  apply wp_region_lit
  refine sm _ rfl hk rfl rfl rfl fun a hk => ?_
  obtain ⟨y3, h4, H⟩ := bind_some H
  refine sc rfl en40 hk rfl rfl rfl (impl_within_t _ x0 1 9999 _ h4) ?_
  rintro _ w ⟨rfl, hG⟩ a hk
  have hs := hs.call0 hG
  refine sa _ rfl hk rfl rfl rfl fun a hk => ?_
  show wpList _ _ _ [] _ _
  refine wpList_nil ?_
  refine hK2 _ _ ?_
  refine wp_ret ?_
  obtain rfl := Option.some.inj H
  exact fin hk _ [(.bool y3)] rfl ⟨rfl, trivial⟩ ⟨rfl, (hs.pick [] rfl).dnil⟩

noncomputable def impl_isBare.f (x0 : Int) : Option (Bool) :=
  (((bif (x0 == 1) then (some true) else (some (x0 == 3))) : Option (Bool)).bind fun u4 => (some u4))
set_option maxRecDepth 100000 in
set_option maxHeartbeats 0 in
theorem impl_isBare_t (w0 : World) (x0 : Int) (r : Bool) (H : impl_isBare.f x0 = some r) :
    Calls Tryd.prog 42 #[.int .i64 x0] w0 (Ret (fun v w => v = .bool r ∧ Sat [] w0 w [] [])) := by
  have hs : Sat [] w0 w0 [] [] := Sat.init w0 [] [] (by simp) (by simp) List.nodup_nil (by simp [blks])
  unfold impl_isBare.f at H
  refine enter Tryd.func42 rfl Tryd.ntmps42 rfl fun a hk => ?_
  apply wp_seq_k; intro K1 hK1
  apply wp_region_lit
  refine sa _ rfl hk rfl rfl rfl fun a hk => ?_
  show wpList _ _ _ [] _ _
  refine wpList_nil ?_
  refine hK1 _ _ ?_
  apply wp_seq_k; intro K2 hK2
  obtain ⟨o5, h6, HL7⟩ := bind_some H
  clear H
  obtain ⟨R8, hR8⟩ : ∃ R : Act → World → Prop, R = fun a w => ∃ (u4 : Bool), u4 = o5 ∧ Kn [(2, (.bool u4))] 9 a ∧ Sat [] w0 w [] [] := ⟨_, rfl⟩
  refine wp_cutq R8 ?_ ?_
  ·have H := h6
   apply wp_region_lit
   refine sm _ rfl hk rfl rfl rfl fun a hk => ?_
   refine sv (.bool (x0 == 1)) hk rfl rfl rfl fun a hk => ?_
   refine sm _ rfl hk rfl rfl rfl fun a hk => ?_
   rcases cond_some H with ⟨c9, H⟩ | ⟨c9, H⟩
   ·have hk := hk.lit 5 c9 rfl
    refine sk hk rfl rfl rfl fun a hk => ?_
    refine sk hk rfl rfl rfl fun a hk => ?_
    refine sv (.bool true) hk rfl rfl rfl fun a hk => ?_
    refine sa _ rfl hk rfl rfl rfl fun a hk => ?_
    show wpList _ _ _ [] _ _
    refine wpList_nil ?_
    obtain rfl := Option.some.inj H
    show R8 _ _
    rw [hR8]
    exact ⟨true, rfl, (hk.c 2 rfl hk.k), (hs.pick [] rfl)⟩
   ·have hk := hk.lit 5 c9 rfl
    refine sm _ rfl hk rfl rfl rfl fun a hk => ?_
    refine sv (.bool (x0 == 3)) hk rfl rfl rfl fun a hk => ?_
    refine sv (.bool (x0 == 3)) hk rfl rfl rfl fun a hk => ?_
    refine sa _ rfl hk rfl rfl rfl fun a hk => ?_
    show wpList _ _ _ [] _ _
    refine wpList_nil ?_
    obtain rfl := Option.some.inj H
    show R8 _ _
    rw [hR8]
    exact ⟨(x0 == 3), rfl, (hk.c 2 rfl hk.k), (hs.pick [] rfl)⟩
  ·intro a w hR0
   rw [hR8] at hR0
   obtain ⟨u4, rfl, hk, hs⟩ := hR0
   have H := HL7
   try dsimp only at H
   refine hK2 _ _ ?_
   refine wp_ret ?_
   obtain rfl := Option.some.inj H
   exact fin hk _ [(.bool u4)] rfl ⟨rfl, trivial⟩ ⟨rfl, (hs.pick [] rfl).dnil⟩

noncomputable def impl_isValue.f (x0 : Int) : Option (Bool) :=
  ((impl_within.f x0 0 999999).bind fun y3 => (some y3))
set_option maxRecDepth 100000 in
set_option maxHeartbeats 0 in
theorem impl_isValue_t (w0 : World) (x0 : Int) (r : Bool) (H : impl_isValue.f x0 = some r) :
    Calls Tryd.prog 43 #[.int .i64 x0] w0 (Ret (fun v w => v = .bool r ∧ Sat [] w0 w [] [])) := by
  have hs : Sat [] w0 w0 [] [] := Sat.init w0 [] [] (by simp) (by simp) List.nodup_nil (by simp [blks])
  unfold impl_isValue.f at H
  refine enter Tryd.func43 rfl Tryd.ntmps43 rfl fun a hk => ?_
  apply wp_seq_k; intro K1 hK1
  apply wp_region_lit
  refine sa _ rfl hk rfl rfl rfl fun a hk => ?_
  show wpList _ _ _ [] _ _
  refine wpList_nil ?_
  refine hK1 _ _ ?_
  apply wp_seq_k; intro K2 hK2
  apply wp_region_lit
  refine sm _ rfl hk rfl rfl rfl fun a hk => ?_
  obtain ⟨y3, h4, H⟩ := bind_some H
  refine sc rfl en40 hk rfl rfl rfl (impl_within_t _ x0 0 999999 _ h4) ?_
  rintro _ w ⟨rfl, hG⟩ a hk
  have hs := hs.call0 hG
  refine sa _ rfl hk rfl rfl rfl fun a hk => ?_
  show wpList _ _ _ [] _ _
  refine wpList_nil ?_
  refine hK2 _ _ ?_
  refine wp_ret ?_
  obtain rfl := Option.some.inj H
  exact fin hk _ [(.bool y3)] rfl ⟨rfl, trivial⟩ ⟨rfl, (hs.pick [] rfl).dnil⟩

noncomputable def impl_OpOK.f (x0 : S_Op) : Option (Bool) :=
  ((((impl_within.f x0.Kind 1 6).bind fun y11 => (bif (!y11) then (some true) else ((impl_isKey.f x0.Key).bind fun y14 => (some (!y14))))) : Option (Bool)).bind fun u6 => (bif u6 then (some false) else ((impl_isBare.f x0.Kind).bind fun y20 => (bif y20 then (some (x0.Value == 0)) else (bif (x0.Kind == 6) then ((impl_within.f x0.Value 1 4).bind fun y27 => (some y27)) else ((impl_isValue.f x0.Value).bind fun y30 => (some y30)))))))
set_option maxRecDepth 100000 in
set_option maxHeartbeats 0 in
theorem impl_OpOK_t (w0 : World) (x0 : S_Op) (r : Bool) (H : impl_OpOK.f x0 = some r) :
    Calls Tryd.prog 21 #[.agg #[.int .i64 x0.Kind, .int .i64 x0.Key, .int .i64 x0.Value]] w0 (Ret (fun v w => v = .bool r ∧ Sat [] w0 w [] [])) := by
  have hs : Sat [] w0 w0 [] [] := Sat.init w0 [] [] (by simp) (by simp) List.nodup_nil (by simp [blks])
  unfold impl_OpOK.f at H
  refine enter Tryd.func21 rfl Tryd.ntmps21 rfl fun a hk => ?_
  apply wp_seq_k; intro K1 hK1
  apply wp_region_lit
  refine sbx 1 hs rfl hk rfl rfl rfl rfl fun b2 w a hk hs => ?_
  refine sa _ rfl hk rfl rfl rfl fun a hk => ?_
  show wpList _ _ _ [] _ _
  refine wpList_nil ?_
  refine hK1 _ _ ?_
  apply wp_seq_k; intro K3 hK3
  apply wp_seq_k; intro K4 hK4
  obtain ⟨o7, h8, HL9⟩ := bind_some H
  clear H
  obtain ⟨R10, hR10⟩ : ∃ R : Act → World → Prop, R = fun a w => ∃ (u6 : Bool), u6 = o7 ∧ Kn [(1, (.pointer (some ⟨b2, 0, none⟩))), (12, (.bool u6))] 30 a ∧ Sat [] w0 w [] [(1, [(b2, .cells #[.int .i64 x0.Kind, .int .i64 x0.Key, .int .i64 x0.Value] 26 (0, 0))])] := ⟨_, rfl⟩
  refine wp_cutq R10 ?_ ?_
  ·have H := h8
   apply wp_region_lit
   refine sf ⟨b2, 0, none⟩ rfl hk rfl rfl rfl fd26_0 rfl fun a hk => ?_
   refine sl rfl hk rfl rfl rfl ag3 (box_cell hs (k := 1) rfl rfl) fun a hk => ?_
   obtain ⟨y11, h12, H⟩ := bind_some H
   refine sc rfl en40 hk rfl rfl rfl (impl_within_t _ x0.Kind 1 6 _ h12) ?_
   rintro _ w ⟨rfl, hG⟩ a hk
   have hs := hs.call0 hG
   refine sv (.bool (!y11)) hk rfl rfl rfl fun a hk => ?_
   refine sm _ rfl hk rfl rfl rfl fun a hk => ?_
   rcases cond_some H with ⟨c13, H⟩ | ⟨c13, H⟩
   ·have hk := hk.lit 7 c13 rfl
    refine sk hk rfl rfl rfl fun a hk => ?_
    refine sk hk rfl rfl rfl fun a hk => ?_
    refine sk hk rfl rfl rfl fun a hk => ?_
    refine sk hk rfl rfl rfl fun a hk => ?_
    refine sv (.bool true) hk rfl rfl rfl fun a hk => ?_
    show wpList _ _ _ [] _ _
    refine wpList_nil ?_
    obtain rfl := Option.some.inj H
    show R10 _ _
    rw [hR10]
    exact ⟨true, rfl, (hk.c 1 rfl (hk.c 12 rfl hk.k)), (hs.pick [(1, 1)] rfl)⟩
   ·have hk := hk.lit 7 c13 rfl
    refine sf ⟨b2, 1, none⟩ rfl hk rfl rfl rfl fd26_1 rfl fun a hk => ?_
    refine sl rfl hk rfl rfl rfl ag3 (box_cell hs (k := 1) rfl rfl) fun a hk => ?_
    obtain ⟨y14, h15, H⟩ := bind_some H
    refine sc rfl en41 hk rfl rfl rfl (impl_isKey_t _ x0.Key _ h15) ?_
    rintro _ w ⟨rfl, hG⟩ a hk
    have hs := hs.call0 hG
    refine sv (.bool (!y14)) hk rfl rfl rfl fun a hk => ?_
    refine sv (.bool (!y14)) hk rfl rfl rfl fun a hk => ?_
    show wpList _ _ _ [] _ _
    refine wpList_nil ?_
    obtain rfl := Option.some.inj H
    show R10 _ _
    rw [hR10]
    exact ⟨(!y14), rfl, (hk.c 1 rfl (hk.c 12 rfl hk.k)), (hs.pick [(1, 1)] rfl)⟩
  ·intro a w hR0
   rw [hR10] at hR0
   obtain ⟨u6, rfl, hk, hs⟩ := hR0
   have H := HL9
   try dsimp only at H
   refine hK4 _ _ ?_
   rcases cond_some H with ⟨c16, H⟩ | ⟨c16, H⟩
   ·have hk := hk.lit 12 c16 rfl
    refine cnd_true hk rfl rfl ?_
    apply wp_seq_k; intro K17 hK17
    apply wp_region_lit
    refine sa _ rfl hk rfl rfl rfl fun a hk => ?_
    show wpList _ _ _ [] _ _
    refine wpList_nil ?_
    refine hK17 _ _ ?_
    refine wp_ret ?_
    obtain rfl := Option.some.inj H
    exact fin hk _ [(.bool false)] rfl ⟨rfl, trivial⟩ ⟨rfl, (hs.pick [] rfl).dnil⟩
   ·have hk := hk.lit 12 c16 rfl
    refine cnd_false hk rfl rfl ?_
    refine wp_skip ?_
    refine hK3 _ _ ?_
    apply wp_seq_k; intro K18 hK18
    refine wp_block ?_
    apply wp_seq_k; intro K19 hK19
    apply wp_region_lit
    refine sf ⟨b2, 0, none⟩ rfl hk rfl rfl rfl fd26_0 rfl fun a hk => ?_
    refine sl rfl hk rfl rfl rfl ag3 (box_cell hs (k := 1) rfl rfl) fun a hk => ?_
    obtain ⟨y20, h21, H⟩ := bind_some H
    refine sc rfl en42 hk rfl rfl rfl (impl_isBare_t _ x0.Kind _ h21) ?_
    rintro _ w ⟨rfl, hG⟩ a hk
    have hs := hs.call0 hG
    refine sa _ rfl hk rfl rfl rfl fun a hk => ?_
    show wpList _ _ _ [] _ _
    refine wpList_nil ?_
    refine hK19 _ _ ?_
    have hs := hs.pick [(1, 1)] rfl
    rcases cond_some H with ⟨c22, H⟩ | ⟨c22, H⟩
    ·have hk := hk.lit 13 c22 rfl
     refine cnd_true hk rfl rfl ?_
     apply wp_seq_k; intro K23 hK23
     apply wp_region_lit
     refine sf ⟨b2, 2, none⟩ rfl hk rfl rfl rfl fd26_2 rfl fun a hk => ?_
     refine sl rfl hk rfl rfl rfl ag3 (box_cell hs (k := 1) rfl rfl) fun a hk => ?_
     refine sv (.bool (x0.Value == 0)) hk rfl rfl rfl fun a hk => ?_
     refine sa _ rfl hk rfl rfl rfl fun a hk => ?_
     show wpList _ _ _ [] _ _
     refine wpList_nil ?_
     refine hK23 _ _ ?_
     refine wp_ret ?_
     obtain rfl := Option.some.inj H
     exact fin hk _ [(.bool (x0.Value == 0))] rfl ⟨rfl, trivial⟩ ⟨rfl, (hs.pick [] rfl).dnil⟩
    ·have hk := hk.lit 13 c22 rfl
     refine cnd_false hk rfl rfl ?_
     apply wp_seq_k; intro K24 hK24
     apply wp_region_lit
     refine sf ⟨b2, 0, none⟩ rfl hk rfl rfl rfl fd26_0 rfl fun a hk => ?_
     refine sl rfl hk rfl rfl rfl ag3 (box_cell hs (k := 1) rfl rfl) fun a hk => ?_
     refine sv (.bool (x0.Kind == 6)) hk rfl rfl rfl fun a hk => ?_
     refine sa _ rfl hk rfl rfl rfl fun a hk => ?_
     show wpList _ _ _ [] _ _
     refine wpList_nil ?_
     refine hK24 _ _ ?_
     rcases cond_some H with ⟨c25, H⟩ | ⟨c25, H⟩
     ·have hk := hk.lit 20 c25 rfl
      refine cnd_true hk rfl rfl ?_
      apply wp_seq_k; intro K26 hK26
      apply wp_region_lit
      refine sf ⟨b2, 2, none⟩ rfl hk rfl rfl rfl fd26_2 rfl fun a hk => ?_
      refine sl rfl hk rfl rfl rfl ag3 (box_cell hs (k := 1) rfl rfl) fun a hk => ?_
      obtain ⟨y27, h28, H⟩ := bind_some H
      refine sc rfl en40 hk rfl rfl rfl (impl_within_t _ x0.Value 1 4 _ h28) ?_
      rintro _ w ⟨rfl, hG⟩ a hk
      have hs := hs.call0 hG
      refine sa _ rfl hk rfl rfl rfl fun a hk => ?_
      show wpList _ _ _ [] _ _
      refine wpList_nil ?_
      refine hK26 _ _ ?_
      refine wp_ret ?_
      obtain rfl := Option.some.inj H
      exact fin hk _ [(.bool y27)] rfl ⟨rfl, trivial⟩ ⟨rfl, (hs.pick [] rfl).dnil⟩
     ·have hk := hk.lit 20 c25 rfl
      refine cnd_false hk rfl rfl ?_
      refine wp_skip ?_
      refine hK18 _ _ ?_
      apply wp_seq_k; intro K29 hK29
      apply wp_region_lit
      refine sf ⟨b2, 2, none⟩ rfl hk rfl rfl rfl fd26_2 rfl fun a hk => ?_
      refine sl rfl hk rfl rfl rfl ag3 (box_cell hs (k := 1) rfl rfl) fun a hk => ?_
      obtain ⟨y30, h31, H⟩ := bind_some H
      refine sc rfl en43 hk rfl rfl rfl (impl_isValue_t _ x0.Value _ h31) ?_
      rintro _ w ⟨rfl, hG⟩ a hk
      have hs := hs.call0 hG
      refine sa _ rfl hk rfl rfl rfl fun a hk => ?_
      show wpList _ _ _ [] _ _
      refine wpList_nil ?_
      refine hK29 _ _ ?_
      refine wp_ret ?_
      obtain rfl := Option.some.inj H
      exact fin hk _ [(.bool y30)] rfl ⟨rfl, trivial⟩ ⟨rfl, (hs.pick [] rfl).dnil⟩

noncomputable def impl_opWords.f  : Option ((List ByteArray)) :=
  (some ([(⟨#[]⟩ : ByteArray), (⟨#[103, 101, 116]⟩ : ByteArray), (⟨#[112, 117, 116]⟩ : ByteArray), (⟨#[100, 114, 111, 112]⟩ : ByteArray), (⟨#[99, 104, 101, 99, 107]⟩ : ByteArray), (⟨#[97, 100, 100]⟩ : ByteArray), (⟨#[115, 99, 97, 110]⟩ : ByteArray)]))
set_option maxRecDepth 100000 in
set_option maxHeartbeats 0 in
theorem impl_opWords_t (w0 : World)  (r : (List ByteArray)) (H : impl_opWords.f  = some r) :
    Calls Tryd.prog 44 #[] w0 (Ret (fun v w => ∃ (A0 : Option Addr) (p0 : Nat) (k0 : Chunk), v = .slice A0 r.length p0 ∧ Own Lay.str 9 A0 p0 r k0 ∧ Sat [] w0 w [] [(0, k0)])) := by
  have hs : Sat [] w0 w0 [] [] := Sat.init w0 [] [] (by simp) (by simp) List.nodup_nil (by simp [blks])
  unfold impl_opWords.f at H
  refine enter Tryd.func44 rfl Tryd.ntmps44 rfl fun a hk => ?_
  apply wp_seq_k; intro K1 hK1
  apply wp_region_lit
  refine sa _ rfl hk rfl rfl rfl fun a hk => ?_
  show wpList _ _ _ [] _ _
  refine wpList_nil ?_
  refine hK1 _ _ ?_
  apply wp_seq_k; intro K2 hK2
  apply wp_region_lit
  refine sbs (L := Lay.str) (pv := [(0, (.string (⟨#[]⟩ : ByteArray))), (1, (.string (⟨#[103, 101, 116]⟩ : ByteArray))), (2, (.string (⟨#[112, 117, 116]⟩ : ByteArray))), (3, (.string (⟨#[100, 114, 111, 112]⟩ : ByteArray))), (4, (.string (⟨#[99, 104, 101, 99, 107]⟩ : ByteArray))), (5, (.string (⟨#[97, 100, 100]⟩ : ByteArray))), (6, (.string (⟨#[115, 99, 97, 110]⟩ : ByteArray)))]) (xs := [(⟨#[]⟩ : ByteArray), (⟨#[103, 101, 116]⟩ : ByteArray), (⟨#[112, 117, 116]⟩ : ByteArray), (⟨#[100, 114, 111, 112]⟩ : ByteArray), (⟨#[99, 104, 101, 99, 107]⟩ : ByteArray), (⟨#[97, 100, 100]⟩ : ByteArray), (⟨#[115, 99, 97, 110]⟩ : ByteArray)]) (ess := [[.string (⟨#[]⟩ : ByteArray)], [.string (⟨#[103, 101, 116]⟩ : ByteArray)], [.string (⟨#[112, 117, 116]⟩ : ByteArray)], [.string (⟨#[100, 114, 111, 112]⟩ : ByteArray)], [.string (⟨#[99, 104, 101, 99, 107]⟩ : ByteArray)], [.string (⟨#[97, 100, 100]⟩ : ByteArray)], [.string (⟨#[115, 99, 97, 110]⟩ : ByteArray)]]) 1 hs rfl hk rfl rfl rfl un64 (bs9_0 (⟨#[]⟩ : ByteArray) (⟨#[103, 101, 116]⟩ : ByteArray) (⟨#[112, 117, 116]⟩ : ByteArray) (⟨#[100, 114, 111, 112]⟩ : ByteArray) (⟨#[99, 104, 101, 99, 107]⟩ : ByteArray) (⟨#[97, 100, 100]⟩ : ByteArray) (⟨#[115, 99, 97, 110]⟩ : ByteArray)) (AllOwn.cons0 ⟨rfl, rfl⟩ (AllOwn.cons0 ⟨rfl, rfl⟩ (AllOwn.cons0 ⟨rfl, rfl⟩ (AllOwn.cons0 ⟨rfl, rfl⟩ (AllOwn.cons0 ⟨rfl, rfl⟩ (AllOwn.cons0 ⟨rfl, rfl⟩ (AllOwn.cons0 ⟨rfl, rfl⟩ AllOwn.nil))))))) rfl rfl rfl fun b3 k4 w a hk o5 hs => ?_
  refine sa _ rfl hk rfl rfl rfl fun a hk => ?_
  show wpList _ _ _ [] _ _
  refine wpList_nil ?_
  refine hK2 _ _ ?_
  refine wp_ret ?_
  obtain rfl := Option.some.inj H
  exact fin hk _ [(.slice (some ⟨b3, 0, none⟩) 7 7)] rfl ⟨rfl, trivial⟩ ⟨(some ⟨b3, 0, none⟩), 7, _, rfl, o5, (hs.pick [(0, 1)] rfl).dnil⟩

def itoa_ren : Go.Shelf.Ren := ⟨fun | 171 => 45 | 243 => 58 | 246 => 69 | 283 => 76 | 284 => 77 | 285 => 78 | 286 => 79 | 129 => 84 | 317 => 83 | 318 => 85 | 319 => 86 | 320 => 87 | 337 => 88 | 338 => 89 | n => n, fun | 3 => 3 | 9 => 9 | 2 => 2 | 4 => 4 | 171 => 91 | 0 => 0 | 53 => 92 | 37 => 75 | 5 => 5 | 173 => 95 | 212 => 103 | 51 => 104 | 20 => 20 | 213 => 105 | 46 => 106 | 232 => 109 | 233 => 110 | n => n, fun | 17 => 0 | 18 => 2 | 19 => 3 | n => n⟩
theorem itoa_lays : Go.Proofs.LaysM.n171 Tryd.prog itoa_ren := {
  mixed := by kernel_rfl
  f129 := Tryd.func84.trans (congrArg some (by kernel_rfl))
  f171 := Tryd.func45.trans (congrArg some (by kernel_rfl))
  f243 := Tryd.func58.trans (congrArg some (by kernel_rfl))
  f246 := Tryd.func69.trans (congrArg some (by kernel_rfl))
  f283 := Tryd.func76.trans (congrArg some (by kernel_rfl))
  f284 := Tryd.func77.trans (congrArg some (by kernel_rfl))
  f285 := Tryd.func78.trans (congrArg some (by kernel_rfl))
  f286 := Tryd.func79.trans (congrArg some (by kernel_rfl))
  f317 := Tryd.func83.trans (congrArg some (by kernel_rfl))
  f318 := Tryd.func85.trans (congrArg some (by kernel_rfl))
  f319 := Tryd.func86.trans (congrArg some (by kernel_rfl))
  f320 := Tryd.func87.trans (congrArg some (by kernel_rfl))
  f337 := Tryd.func88.trans (congrArg some (by kernel_rfl))
  f338 := Tryd.func89.trans (congrArg some (by kernel_rfl))
  t0 := Tryd.underlying0
  a0 := Tryd.isAgg0
  z0 := Tryd.sizeOf0
  v0 := Tryd.zeroValue0
  t2 := Tryd.underlying2
  a2 := Tryd.isAgg2
  z2 := Tryd.sizeOf2
  v2 := Tryd.zeroValue2
  t3 := Tryd.underlying3
  a3 := Tryd.isAgg3
  z3 := Tryd.sizeOf3
  v3 := Tryd.zeroValue3
  t4 := Tryd.underlying4
  a4 := Tryd.isAgg4
  z4 := Tryd.sizeOf4
  v4 := Tryd.zeroValue4
  t5 := Tryd.underlying5
  a5 := Tryd.isAgg5
  z5 := Tryd.sizeOf5
  v5 := Tryd.zeroValue5
  t9 := Tryd.underlying9
  a9 := Tryd.isAgg9
  z9 := Tryd.sizeOf9
  v9 := Tryd.zeroValue9
  t20 := Tryd.underlying20
  a20 := Tryd.isAgg20
  z20 := Tryd.sizeOf20
  v20 := Tryd.zeroValue20
  t37 := Tryd.underlying75
  a37 := Tryd.isAgg75
  z37 := Tryd.sizeOf75
  v37 := Tryd.zeroValue75
  t46 := Tryd.underlying106
  a46 := Tryd.isAgg106
  z46 := Tryd.sizeOf106
  v46 := Tryd.zeroValue106
  t51 := Tryd.underlying104
  a51 := Tryd.isAgg104
  z51 := Tryd.sizeOf104
  v51 := Tryd.zeroValue104
  t53 := Tryd.underlying92
  a53 := Tryd.isAgg92
  z53 := Tryd.sizeOf92
  v53 := Tryd.zeroValue92
  t171 := Tryd.underlying91
  a171 := Tryd.isAgg91
  z171 := Tryd.sizeOf91
  v171 := Tryd.zeroValue91
  t173 := Tryd.underlying95
  a173 := Tryd.isAgg95
  z173 := Tryd.sizeOf95
  v173 := Tryd.zeroValue95
  t212 := Tryd.underlying103
  a212 := Tryd.isAgg103
  z212 := Tryd.sizeOf103
  v212 := Tryd.zeroValue103
  t213 := Tryd.underlying105
  a213 := Tryd.isAgg105
  z213 := Tryd.sizeOf105
  t232 := Tryd.underlying109
  a232 := Tryd.isAgg109
  z232 := Tryd.sizeOf109
  v232 := Tryd.zeroValue109
  t233 := Tryd.underlying110
  a233 := Tryd.isAgg110
  z233 := Tryd.sizeOf110
  v233 := Tryd.zeroValue110
  g17 := by kernel_rfl
  g18 := by kernel_rfl
  g19 := by kernel_rfl
  i0 := by kernel_rfl
  i2 := by kernel_rfl
  i3 := by kernel_rfl
  i4 := by kernel_rfl
  i5 := by kernel_rfl
  i9 := by kernel_rfl
  i20 := by kernel_rfl
  i37 := by kernel_rfl
  i46 := by kernel_rfl
  i51 := by kernel_rfl
  i53 := by kernel_rfl
  i171 := by kernel_rfl
  i173 := by kernel_rfl
  i212 := by kernel_rfl
  i232 := by kernel_rfl
  i233 := by kernel_rfl
  m17 := by kernel_rfl
  m18 := by kernel_rfl
  m19 := by kernel_rfl }
open Go.RowKit Go.Sort Go.Lib in
theorem itoa_shelf (n : Int) (h0 : -9223372036854775808 ≤ n) (h1 : n ≤ 9223372036854775807) (w : World) (htab : Lib.TabIs Tryd.prog w "internal/strconv.uint64pow10" .u64 Lib.pow10Tab) :
    Calls Tryd.prog 45 #[.int .i64 n] w fun e w' => e = .returned (.string ⟨(Lib.itoa n).toArray⟩) ∧ ∃ k os, w' = grow (w.drewN k) os := Any.strconv_Itoa itoa_lays n h0 h1 w htab
noncomputable def strconv_Itoa.f (x0 : Int) : Option ByteArray := if -9223372036854775808 ≤ x0 ∧ x0 ≤ 9223372036854775807 then some (itoaB x0) else none
theorem strconv_Itoa_t (w0 : World) (x0 : Int) (kT : Chunk) (tT : TabK Tryd.prog kT) (wT : Has w0 kT) (r : ByteArray) (H : strconv_Itoa.f x0 = some r) :
    Calls Tryd.prog 45 #[.int .i64 x0] w0 (Ret (fun v w => v = .string r ∧ Sat [] w0 w [] [])) := by
  unfold strconv_Itoa.f at H
  rcases ite_some H with ⟨h, H⟩ | ⟨_, H⟩
  rotate_left
  · cases H
  obtain rfl := Option.some.inj H
  refine (itoa_shelf x0 h.1 h.2 w0 (tT _ wT)).mono ?_
  rintro e w' ⟨rfl, k, os, rfl⟩
  exact ⟨_, rfl, rfl, sat_grown _ _ _⟩

noncomputable def impl_opText.f (x0 : S_Op) : Option (ByteArray) :=
  ((impl_opWords.f).bind fun y5 => (if 0 ≤ x0.Kind ∧ x0.Kind < (y5.length : Int) then ((strconv_Itoa.f x0.Key).bind fun y14 => (if (y5.getD (x0.Kind).toNat ByteArray.empty).size + (⟨#[32]⟩ : ByteArray).size ≤ 1152921504606846976 then (if ((y5.getD (x0.Kind).toNat ByteArray.empty) ++ (⟨#[32]⟩ : ByteArray)).size + y14.size ≤ 1152921504606846976 then ((impl_isBare.f x0.Kind).bind fun y21 => (bif y21 then (some (((y5.getD (x0.Kind).toNat ByteArray.empty) ++ (⟨#[32]⟩ : ByteArray)) ++ y14)) else (if (((y5.getD (x0.Kind).toNat ByteArray.empty) ++ (⟨#[32]⟩ : ByteArray)) ++ y14).size + (⟨#[32]⟩ : ByteArray).size ≤ 1152921504606846976 then ((strconv_Itoa.f x0.Value).bind fun y27 => (if ((((y5.getD (x0.Kind).toNat ByteArray.empty) ++ (⟨#[32]⟩ : ByteArray)) ++ y14) ++ (⟨#[32]⟩ : ByteArray)).size + y27.size ≤ 1152921504606846976 then (some (((((y5.getD (x0.Kind).toNat ByteArray.empty) ++ (⟨#[32]⟩ : ByteArray)) ++ y14) ++ (⟨#[32]⟩ : ByteArray)) ++ y27)) else none)) else none))) else none) else none)) else none))
set_option maxRecDepth 100000 in
set_option maxHeartbeats 0 in
theorem impl_opText_t (w0 : World) (x0 : S_Op) (kT : Chunk) (tT : TabK Tryd.prog kT) (wT : Has w0 kT) (r : ByteArray) (H : impl_opText.f x0 = some r) :
    Calls Tryd.prog 22 #[.agg #[.int .i64 x0.Kind, .int .i64 x0.Key, .int .i64 x0.Value]] w0 (Ret (fun v w => v = .string r ∧ Sat [] w0 w [] [])) := by
  have hs : Sat [] w0 w0 [(1, kT)] [] := Sat.init w0 [(1, kT)] [] (by simp only [List.mem_cons, List.not_mem_nil, or_false]; rintro x (rfl) <;> assumption) (by simp) List.nodup_nil (by simp [blks])
  unfold impl_opText.f at H
  refine enter Tryd.func22 rfl Tryd.ntmps22 rfl fun a hk => ?_
  apply wp_seq_k; intro K1 hK1
  apply wp_region_lit
  refine sbx 2 hs rfl hk rfl rfl rfl rfl fun b2 w a hk hs => ?_
  refine sa _ rfl hk rfl rfl rfl fun a hk => ?_
  show wpList _ _ _ [] _ _
  refine wpList_nil ?_
  refine hK1 _ _ ?_
  apply wp_seq_k; intro K3 hK3
  refine wp_region_tree (.q 1 (.q 2 (.q 6 (.q 7 (.alt 0 (.q 3 (.q 8 (.alt 4 (.alt 5 (.alt 9 (.last 10) .stop) .stop) .stop))) .stop))))) mo (by kernel_rfl) (hs.pick [(2, 2)] rfl) fun _ => ?_
  have hs := hs.drew
  refine tqst (.pointer (some ⟨b2, 0, none⟩)) hk rfl rfl rfl rfl (fun w hs => sf ⟨b2, 0, none⟩ rfl hk rfl rfl rfl fd26_0 rfl fun a hk => qe hk) fun a hk => ?_
  refine tqst (.int .i64 x0.Kind) hk rfl rfl rfl rfl (fun w hs => sl rfl hk rfl rfl rfl ag3 (box_cell hs (k := 2) rfl rfl) fun a hk => qe hk) fun a hk => ?_
  refine tqst (.pointer (some ⟨b2, 1, none⟩)) hk rfl rfl rfl rfl (fun w hs => sf ⟨b2, 1, none⟩ rfl hk rfl rfl rfl fd26_1 rfl fun a hk => qe hk) fun a hk => ?_
  refine tqst (.int .i64 x0.Key) hk rfl rfl rfl rfl (fun w hs => sl rfl hk rfl rfl rfl ag3 (box_cell hs (k := 2) rfl rfl) fun a hk => qe hk) fun a hk => ?_
  refine tsst hk rfl rfl (fun K_r4_0 hK_r4_0 w hF => ?_) wt_stop
  have hs := hs.f hF
  obtain ⟨y5, h6, H⟩ := bind_some H
  refine sc rfl en44 hk rfl rfl rfl (impl_opWords_t _ _ h6) ?_
  rintro _ w ⟨A7, p8, k9, rfl, o10, hG⟩ a hk
  have hs := hs.call0k hG [4] rfl
  refine se (hs.pick [(2, 2)] rfl) hk (hK_r4_0 _ _ ?_)
  rcases ite_some H with ⟨c11, H⟩ | ⟨_, H⟩
  rotate_left
  ·cases H
  obtain ⟨b12, q13, hAc11⟩ := (o10.view).some_ x0.Kind c11.1 c11.2
  refine tqst (.pointer (some (padd A7 ((x0.Kind).toNat * 1)))) hk rfl rfl rfl rfl (fun w hs => si rfl hk rfl rfl rfl rfl un64 sz9 c11.1 c11.2 hAc11 fun a hk => qe hk) fun a hk => ?_
  obtain ⟨y14, h15, H⟩ := bind_some H
  refine tqst (.string y14) hk rfl rfl rfl rfl (fun w hs => sc rfl en45 hk rfl rfl rfl (strconv_Itoa_t _ x0.Key kT tT (hs.hasD (k := 1) rfl) _ h15) fun _ w hR a hk => qc hR hk) fun a hk => ?_
  refine tsst hk rfl rfl (fun K_r4_4 hK_r4_4 w hF => ?_) wt_stop
  have hs := hs.f hF
  obtain ⟨_, rfl, e16⟩ := (o10.view).at_ ByteArray.empty x0.Kind c11.1 c11.2
  refine sl (v := (.string (y5.getD (x0.Kind).toNat ByteArray.empty))) rfl hk rfl rfl rfl ag9 ((e16 0 _ rfl).cell (hs.hasG (k := 4) rfl)) fun a hk => ?_
  refine se (hs.pick [(2, 2)] rfl) hk (hK_r4_4 _ _ ?_)
  refine tsst hk rfl rfl (fun K_r4_5 hK_r4_5 w hF => ?_) wt_stop
  have hs := hs.f hF
  rcases ite_some H with ⟨c17, H⟩ | ⟨_, H⟩
  rotate_left
  ·cases H
  refine ssa rfl hk rfl rfl rfl rfl c17 fun a hk => ?_
  refine se (hs.pick [(2, 2)] rfl) hk (hK_r4_5 _ _ ?_)
  refine tsst hk rfl rfl (fun K_r4_9 hK_r4_9 w hF => ?_) wt_stop
  have hs := hs.f hF
  rcases ite_some H with ⟨c18, H⟩ | ⟨_, H⟩
  rotate_left
  ·cases H
  refine ssa rfl hk rfl rfl rfl rfl c18 fun a hk => ?_
  refine se (hs.pick [(2, 2)] rfl) hk (hK_r4_9 _ _ ?_)
  refine tlst hk rfl rfl fun K_r4_10 hK_r4_10 w hF => ?_
  have hs := hs.f hF
  refine sa _ rfl hk rfl rfl rfl fun a hk => ?_
  refine se trivial hk (hK_r4_10 _ _ fun w hF => ?_)
  have hs := hs.f hF
  refine hK3 _ _ ?_
  apply wp_seq_k; intro K19 hK19
  apply wp_seq_k; intro K20 hK20
  apply wp_region_lit
  refine sf ⟨b2, 0, none⟩ rfl hk rfl rfl rfl fd26_0 rfl fun a hk => ?_
  refine sl rfl hk rfl rfl rfl ag3 (box_cell hs (k := 2) rfl rfl) fun a hk => ?_
  obtain ⟨y21, h22, H⟩ := bind_some H
  refine sc rfl en42 hk rfl rfl rfl (impl_isBare_t _ x0.Kind _ h22) ?_
  rintro _ w ⟨rfl, hG⟩ a hk
  have hs := hs.call0 hG
  show wpList _ _ _ [] _ _
  refine wpList_nil ?_
  refine hK20 _ _ ?_
  rcases cond_some H with ⟨c23, H⟩ | ⟨c23, H⟩
  ·have hk := hk.lit 16 c23 rfl
   refine cnd_true hk rfl rfl ?_
   apply wp_seq_k; intro K24 hK24
   apply wp_region_lit
   refine sm _ rfl hk rfl rfl rfl fun a hk => ?_
   refine sa _ rfl hk rfl rfl rfl fun a hk => ?_
   show wpList _ _ _ [] _ _
   refine wpList_nil ?_
   refine hK24 _ _ ?_
   have hs := hs.pick [] rfl
   refine wp_ret ?_
   obtain rfl := Option.some.inj H
   exact fin hk _ [(.string (((y5.getD (x0.Kind).toNat ByteArray.empty) ++ (⟨#[32]⟩ : ByteArray)) ++ y14))] rfl ⟨rfl, trivial⟩ ⟨rfl, (hs.pick [] rfl).dnil⟩
  ·have hk := hk.lit 16 c23 rfl
   refine cnd_false hk rfl rfl ?_
   refine wp_skip ?_
   refine hK19 _ _ ?_
   have hs := hs.pick [(2, 2)] rfl
   apply wp_seq_k; intro K25 hK25
   apply wp_region_lit
   refine sm _ rfl hk rfl rfl rfl fun a hk => ?_
   rcases ite_some H with ⟨c26, H⟩ | ⟨_, H⟩
   rotate_left
   ·cases H
   refine ssa rfl hk rfl rfl rfl rfl c26 fun a hk => ?_
   refine sf ⟨b2, 2, none⟩ rfl hk rfl rfl rfl fd26_2 rfl fun a hk => ?_
   refine sl rfl hk rfl rfl rfl ag3 (box_cell hs (k := 2) rfl rfl) fun a hk => ?_
   obtain ⟨y27, h28, H⟩ := bind_some H
   refine sc rfl en45 hk rfl rfl rfl (strconv_Itoa_t _ x0.Value kT tT (hs.hasD (k := 1) rfl) _ h28) ?_
   rintro _ w ⟨rfl, hG⟩ a hk
   have hs := hs.call0 hG
   rcases ite_some H with ⟨c29, H⟩ | ⟨_, H⟩
   rotate_left
   ·cases H
   refine ssa rfl hk rfl rfl rfl rfl c29 fun a hk => ?_
   refine sa _ rfl hk rfl rfl rfl fun a hk => ?_
   show wpList _ _ _ [] _ _
   refine wpList_nil ?_
   refine hK25 _ _ ?_
   refine wp_ret ?_
   obtain rfl := Option.some.inj H
   exact fin hk _ [(.string (((((y5.getD (x0.Kind).toNat ByteArray.empty) ++ (⟨#[32]⟩ : ByteArray)) ++ y14) ++ (⟨#[32]⟩ : ByteArray)) ++ y27))] rfl ⟨rfl, trivial⟩ ⟨rfl, (hs.pick [] rfl).dnil⟩

noncomputable def impl_OpText.f (x0 : S_Op) : Option (ByteArray × Int) :=
  ((impl_OpOK.f x0).bind fun y5 => (bif (!y5) then (some ((⟨#[]⟩ : ByteArray), 1)) else ((impl_opText.f x0).bind fun y10 => (some (y10, 0)))))
set_option maxRecDepth 100000 in
set_option maxHeartbeats 0 in
theorem impl_OpText_t (w0 : World) (x0 : S_Op) (kT : Chunk) (tT : TabK Tryd.prog kT) (wT : Has w0 kT) (r : ByteArray × Int) (H : impl_OpText.f x0 = some r) :
    Calls Tryd.prog 8 #[.agg #[.int .i64 x0.Kind, .int .i64 x0.Key, .int .i64 x0.Value]] w0 (Ret (fun v w => v = .tuple #[.string r.1, .int .i64 r.2] ∧ Sat [] w0 w [] [])) := by
  have hs : Sat [] w0 w0 [(1, kT)] [] := Sat.init w0 [(1, kT)] [] (by simp only [List.mem_cons, List.not_mem_nil, or_false]; rintro x (rfl) <;> assumption) (by simp) List.nodup_nil (by simp [blks])
  unfold impl_OpText.f at H
  refine enter Tryd.func8 rfl Tryd.ntmps8 rfl fun a hk => ?_
  apply wp_seq_k; intro K1 hK1
  apply wp_region_lit
  refine sbx 2 hs rfl hk rfl rfl rfl rfl fun b2 w a hk hs => ?_
  refine sa _ rfl hk rfl rfl rfl fun a hk => ?_
  refine sa _ rfl hk rfl rfl rfl fun a hk => ?_
  show wpList _ _ _ [] _ _
  refine wpList_nil ?_
  refine hK1 _ _ ?_
  apply wp_seq_k; intro K3 hK3
  apply wp_seq_k; intro K4 hK4
  apply wp_region_lit
  refine sln [.int .i64 x0.Kind, .int .i64 x0.Key, .int .i64 x0.Value] rfl hk rfl rfl rfl ag26 sz26 (box_cells hs (k := 2) rfl) fun a hk => ?_
  obtain ⟨y5, h6, H⟩ := bind_some H
  refine sc rfl en21 hk rfl rfl rfl (impl_OpOK_t _ x0 _ h6) ?_
  rintro _ w ⟨rfl, hG⟩ a hk
  have hs := hs.call0 hG
  refine sv (.bool (!y5)) hk rfl rfl rfl fun a hk => ?_
  show wpList _ _ _ [] _ _
  refine wpList_nil ?_
  refine hK4 _ _ ?_
  rcases cond_some H with ⟨c7, H⟩ | ⟨c7, H⟩
  ·have hk := hk.lit 6 c7 rfl
   refine cnd_true hk rfl rfl ?_
   apply wp_seq_k; intro K8 hK8
   apply wp_region_lit
   refine sa _ rfl hk rfl rfl rfl fun a hk => ?_
   refine sa _ rfl hk rfl rfl rfl fun a hk => ?_
   show wpList _ _ _ [] _ _
   refine wpList_nil ?_
   refine hK8 _ _ ?_
   refine wp_ret ?_
   obtain rfl := Option.some.inj H
   exact fin hk _ [(.string (⟨#[]⟩ : ByteArray)), (.int .i64 1)] rfl ⟨rfl, ⟨rfl, trivial⟩⟩ ⟨rfl, (hs.pick [] rfl).dnil⟩
  ·have hk := hk.lit 6 c7 rfl
   refine cnd_false hk rfl rfl ?_
   refine wp_skip ?_
   refine hK3 _ _ ?_
   apply wp_seq_k; intro K9 hK9
   apply wp_region_lit
   refine sln [.int .i64 x0.Kind, .int .i64 x0.Key, .int .i64 x0.Value] rfl hk rfl rfl rfl ag26 sz26 (box_cells hs (k := 2) rfl) fun a hk => ?_
   obtain ⟨y10, h11, H⟩ := bind_some H
   refine sc rfl en22 hk rfl rfl rfl (impl_opText_t _ x0 kT tT (hs.hasD (k := 1) rfl) _ h11) ?_
   rintro _ w ⟨rfl, hG⟩ a hk
   have hs := hs.call0 hG
   refine sa _ rfl hk rfl rfl rfl fun a hk => ?_
   refine sa _ rfl hk rfl rfl rfl fun a hk => ?_
   show wpList _ _ _ [] _ _
   refine wpList_nil ?_
   refine hK9 _ _ ?_
   have hs := hs.pick [] rfl
   refine wp_ret ?_
   obtain rfl := Option.some.inj H
   exact fin hk _ [(.string y10), (.int .i64 0)] rfl ⟨rfl, ⟨rfl, trivial⟩⟩ ⟨rfl, (hs.pick [] rfl).dnil⟩

noncomputable def laws_FnExactOpText.f (x0 : S_Op) : Option (Bool) :=
  ((laws_toOp.f x0).bind fun y4 => ((spec_OpText.f y4).bind fun y6 => ((laws_toOp.f x0).bind fun y9 => ((impl_OpText.f y9).bind fun y11 => (((bif (!(y11.1.toList == y6.1.toList)) then (some true) else (some (y11.2 != y6.2))) : Option (Bool)).bind fun u16 => (bif u16 then (some false) else (some true)))))))
set_option maxRecDepth 100000 in
set_option maxHeartbeats 0 in
theorem laws_FnExactOpText_t (w0 : World) (x0 : S_Op) (kT : Chunk) (tT : TabK Tryd.prog kT) (wT : Has w0 kT) (r : Bool) (H : laws_FnExactOpText.f x0 = some r) :
    Calls Tryd.prog 3 #[.agg #[.int .i64 x0.Kind, .int .i64 x0.Key, .int .i64 x0.Value]] w0 (Ret (fun v w => v = .bool r ∧ Sat [] w0 w [] [])) := by
  have hs : Sat [] w0 w0 [(1, kT)] [] := Sat.init w0 [(1, kT)] [] (by simp only [List.mem_cons, List.not_mem_nil, or_false]; rintro x (rfl) <;> assumption) (by simp) List.nodup_nil (by simp [blks])
  unfold laws_FnExactOpText.f at H
  refine enter Tryd.func3 rfl Tryd.ntmps3 rfl fun a hk => ?_
  apply wp_seq_k; intro K1 hK1
  apply wp_region_lit
  refine sbx 2 hs rfl hk rfl rfl rfl rfl fun b2 w a hk hs => ?_
  refine sa _ rfl hk rfl rfl rfl fun a hk => ?_
  show wpList _ _ _ [] _ _
  refine wpList_nil ?_
  refine hK1 _ _ ?_
  apply wp_seq_k; intro K3 hK3
  apply wp_region_lit
  refine sln [.int .i64 x0.Kind, .int .i64 x0.Key, .int .i64 x0.Value] rfl hk rfl rfl rfl ag23 sz23 (box_cells hs (k := 2) rfl) fun a hk => ?_
  obtain ⟨y4, h5, H⟩ := bind_some H
  refine sc rfl en7 hk rfl rfl rfl (laws_toOp_t _ x0 _ h5) ?_
  rintro _ w ⟨rfl, hG⟩ a hk
  have hs := hs.call0 hG
  obtain ⟨y6, h7, H⟩ := bind_some H
  refine sc rfl en6 hk rfl rfl rfl (spec_OpText_t _ y4 _ h7) ?_
  rintro _ w ⟨rfl, hG⟩ a hk
  have hs := hs.call0 hG
  refine sm _ rfl hk rfl rfl rfl fun a hk => ?_
  refine sv (.string y6.1) hk rfl rfl rfl fun a hk => ?_
  refine sv (.int .i64 y6.2) hk rfl rfl rfl fun a hk => ?_
  refine sa _ rfl hk rfl rfl rfl fun a hk => ?_
  refine sa _ rfl hk rfl rfl rfl fun a hk => ?_
  show wpList _ _ _ [] _ _
  refine wpList_nil ?_
  refine hK3 _ _ ?_
  apply wp_seq_k; intro K8 hK8
  apply wp_region_lit
  refine sln [.int .i64 x0.Kind, .int .i64 x0.Key, .int .i64 x0.Value] rfl hk rfl rfl rfl ag23 sz23 (box_cells hs (k := 2) rfl) fun a hk => ?_
  obtain ⟨y9, h10, H⟩ := bind_some H
  refine sc rfl en7 hk rfl rfl rfl (laws_toOp_t _ x0 _ h10) ?_
  rintro _ w ⟨rfl, hG⟩ a hk
  have hs := hs.call0 hG
  obtain ⟨y11, h12, H⟩ := bind_some H
  refine sc rfl en8 hk rfl rfl rfl (impl_OpText_t _ y9 kT tT (hs.hasD (k := 1) rfl) _ h12) ?_
  rintro _ w ⟨rfl, hG⟩ a hk
  have hs := hs.call0 hG
  refine sm _ rfl hk rfl rfl rfl fun a hk => ?_
  refine sv (.string y11.1) hk rfl rfl rfl fun a hk => ?_
  refine sv (.int .i64 y11.2) hk rfl rfl rfl fun a hk => ?_
  refine sa _ rfl hk rfl rfl rfl fun a hk => ?_
  refine sa _ rfl hk rfl rfl rfl fun a hk => ?_
  show wpList _ _ _ [] _ _
  refine wpList_nil ?_
  refine hK8 _ _ ?_
  apply wp_seq_k; intro K13 hK13
  apply wp_seq_k; intro K14 hK14
  obtain ⟨o17, h18, HL19⟩ := bind_some H
  clear H
  obtain ⟨R20, hR20⟩ : ∃ R : Act → World → Prop, R = fun a w => ∃ (u16 : Bool), u16 = o17 ∧ Kn [(26, (.bool u16))] 27 a ∧ Sat [] w0 w [(1, kT)] [] := ⟨_, rfl⟩
  refine wp_cutq R20 ?_ ?_
  ·have H := h18
   apply wp_region_lit
   refine sm _ rfl hk rfl rfl rfl fun a hk => ?_
   refine sm _ rfl hk rfl rfl rfl fun a hk => ?_
   refine sv (.bool (!(y11.1.toList == y6.1.toList))) hk rfl rfl rfl fun a hk => ?_
   refine sm _ rfl hk rfl rfl rfl fun a hk => ?_
   rcases cond_some H with ⟨c21, H⟩ | ⟨c21, H⟩
   ·have hk := hk.lit 22 c21 rfl
    refine sk hk rfl rfl rfl fun a hk => ?_
    refine sk hk rfl rfl rfl fun a hk => ?_
    refine sk hk rfl rfl rfl fun a hk => ?_
    refine sv (.bool true) hk rfl rfl rfl fun a hk => ?_
    show wpList _ _ _ [] _ _
    refine wpList_nil ?_
    obtain rfl := Option.some.inj H
    show R20 _ _
    rw [hR20]
    exact ⟨true, rfl, (hk.c 26 rfl hk.k), (hs.pick [] rfl)⟩
   ·have hk := hk.lit 22 c21 rfl
    refine sm _ rfl hk rfl rfl rfl fun a hk => ?_
    refine sm _ rfl hk rfl rfl rfl fun a hk => ?_
    refine sv (.bool (y11.2 != y6.2)) hk rfl rfl rfl fun a hk => ?_
    refine sv (.bool (y11.2 != y6.2)) hk rfl rfl rfl fun a hk => ?_
    show wpList _ _ _ [] _ _
    refine wpList_nil ?_
    obtain rfl := Option.some.inj H
    show R20 _ _
    rw [hR20]
    exact ⟨(y11.2 != y6.2), rfl, (hk.c 26 rfl hk.k), (hs.pick [] rfl)⟩
  ·intro a w hR0
   rw [hR20] at hR0
   obtain ⟨u16, rfl, hk, hs⟩ := hR0
   have H := HL19
   try dsimp only at H
   refine hK14 _ _ ?_
   have hs := hs.pick [] rfl
   rcases cond_some H with ⟨c22, H⟩ | ⟨c22, H⟩
   ·have hk := hk.lit 26 c22 rfl
    refine cnd_true hk rfl rfl ?_
    apply wp_seq_k; intro K23 hK23
    apply wp_region_lit
    refine sa _ rfl hk rfl rfl rfl fun a hk => ?_
    show wpList _ _ _ [] _ _
    refine wpList_nil ?_
    refine hK23 _ _ ?_
    refine wp_ret ?_
    obtain rfl := Option.some.inj H
    exact fin hk _ [(.bool false)] rfl ⟨rfl, trivial⟩ ⟨rfl, (hs.pick [] rfl).dnil⟩
   ·have hk := hk.lit 26 c22 rfl
    refine cnd_false hk rfl rfl ?_
    refine wp_skip ?_
    refine hK13 _ _ ?_
    apply wp_seq_k; intro K24 hK24
    apply wp_region_lit
    refine sa _ rfl hk rfl rfl rfl fun a hk => ?_
    show wpList _ _ _ [] _ _
    refine wpList_nil ?_
    refine hK24 _ _ ?_
    refine wp_ret ?_
    obtain rfl := Option.some.inj H
    exact fin hk _ [(.bool true)] rfl ⟨rfl, trivial⟩ ⟨rfl, (hs.pick [] rfl).dnil⟩

end Go.Proofs.YteablpohefcohaaDoor
