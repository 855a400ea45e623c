/- The functions that FnExactResultText reaches: for each a model and the walk that shows that the Go code comes to it. -/
import Derived.Test.YteablpohefcohaaDoorT
namespace Go.Proofs.YteablpohefcohaaDoor
open Go Go.Z Go.Proofs Go.MuLone Go.ChangeShapes Go.WideShapes Go.ChangeAt Go.RowKit
set_option linter.unusedVariables false
set_option linter.unusedSimpArgs false
noncomputable def laws_szIntS.f (l0 : List Int) (x1 : Int) : Option (Int) :=
  (bif (decide ((w64 (x1 - (l0.length : Int))) < 0)) then (some (-1)) else (some (w64 (x1 - (l0.length : Int)))))
set_option maxRecDepth 100000 in
set_option maxHeartbeats 0 in
theorem laws_szIntS_t (w0 : World) (A0_ : Option Addr) (p0_ : Nat) (l0 : List Int) (k0_ : Chunk) (v0_ : View (Lay.int .i64) A0_ p0_ l0 k0_) (w0_ : Has w0 k0_) (x1 : Int) (r : Int) (H : laws_szIntS.f l0 x1 = some r) :
    Calls Tryd.prog 23 #[.slice A0_ l0.length p0_, .int .i64 x1] w0 (Ret (fun v w => v = .int .i64 r ∧ Sat [] w0 w [] [])) := by
  have hs : Sat [] w0 w0 [(1, k0_)] [] := Sat.init w0 [(1, k0_)] [] (by simp only [List.mem_cons, List.not_mem_nil, or_false]; rintro x (rfl) <;> assumption) (by simp) List.nodup_nil (by simp [blks])
  unfold laws_szIntS.f at H
  refine enter Tryd.func23 rfl Tryd.ntmps23 rfl fun a hk => ?_
  apply wp_seq_k; intro K1 hK1
  apply wp_region_lit
  refine sa _ rfl hk rfl rfl rfl fun a hk => ?_
  show wpList _ _ _ [] _ _
  refine wpList_nil ?_
  refine hK1 _ _ ?_
  apply wp_seq_k; intro K2 hK2
  apply wp_region_lit
  refine sm _ rfl hk rfl rfl rfl fun a hk => ?_
  refine sm _ rfl hk rfl rfl rfl fun a hk => ?_
  refine sle rfl hk rfl rfl rfl un29 fun a hk => ?_
  refine sv (.int .i64 (w64 (x1 - (l0.length : Int)))) hk rfl rfl rfl fun a hk => ?_
  refine sa _ rfl hk rfl rfl rfl fun a hk => ?_
  show wpList _ _ _ [] _ _
  refine wpList_nil ?_
  refine hK2 _ _ ?_
  apply wp_seq_k; intro K3 hK3
  apply wp_seq_k; intro K4 hK4
  apply wp_region_lit
  refine sm _ rfl hk rfl rfl rfl fun a hk => ?_
  refine sv (.bool (decide ((w64 (x1 - (l0.length : Int))) < 0))) hk rfl rfl rfl fun a hk => ?_
  show wpList _ _ _ [] _ _
  refine wpList_nil ?_
  refine hK4 _ _ ?_
  rcases cond_some H with ⟨c5, H⟩ | ⟨c5, H⟩
  ·have hk := hk.lit 10 c5 rfl
   refine cnd_true hk rfl rfl ?_
   apply wp_seq_k; intro K6 hK6
   apply wp_region_lit
   refine sa _ rfl hk rfl rfl rfl fun a hk => ?_
   show wpList _ _ _ [] _ _
   refine wpList_nil ?_
   refine hK6 _ _ ?_
   have hs := hs.pick [] rfl
   refine wp_ret ?_
   obtain rfl := Option.some.inj H
   exact fin hk _ [(.int .i64 (-1))] rfl ⟨rfl, trivial⟩ ⟨rfl, (hs.pick [] rfl).dnil⟩
  ·have hk := hk.lit 10 c5 rfl
   refine cnd_false hk rfl rfl ?_
   refine wp_skip ?_
   refine hK3 _ _ ?_
   have hs := hs.pick [] rfl
   apply wp_seq_k; intro K7 hK7
   apply wp_region_lit
   refine sm _ rfl hk rfl rfl rfl fun a hk => ?_
   refine sa _ rfl hk rfl rfl rfl fun a hk => ?_
   show wpList _ _ _ [] _ _
   refine wpList_nil ?_
   refine hK7 _ _ ?_
   refine wp_ret ?_
   obtain rfl := Option.some.inj H
   exact fin hk _ [(.int .i64 (w64 (x1 - (l0.length : Int))))] rfl ⟨rfl, trivial⟩ ⟨rfl, (hs.pick [] rfl).dnil⟩

noncomputable def laws_szResult.f (x0 : S_Result) (x1 : Int) : Option (Int) :=
  ((laws_szIntS.f x0.Values x1).bind fun y4 => (bif (decide (y4 < 0)) then (some (-1)) else (some y4)))
set_option maxRecDepth 100000 in
set_option maxHeartbeats 0 in
theorem laws_szResult_t (w0 : World) (x0 : S_Result) (A0_0 : Option Addr) (p0_0 : Nat) (k0_0 : Chunk) (v0_0 : View (Lay.int .i64) A0_0 p0_0 x0.Values k0_0) (w0_0 : Has w0 k0_0) (x1 : Int) (r : Int) (H : laws_szResult.f x0 x1 = some r) :
    Calls Tryd.prog 9 #[.agg #[.int .i64 x0.Code, .slice A0_0 x0.Values.length p0_0], .int .i64 x1] w0 (Ret (fun v w => v = .int .i64 r ∧ Sat [] w0 w [] [])) := by
  have hs : Sat [] w0 w0 [(1, k0_0)] [] := Sat.init w0 [(1, k0_0)] [] (by simp only [List.mem_cons, List.not_mem_nil, or_false]; rintro x (rfl) <;> assumption) (by simp) List.nodup_nil (by simp [blks])
  unfold laws_szResult.f at H
  refine enter Tryd.func9 rfl Tryd.ntmps9 rfl fun a hk => ?_
  apply wp_seq_k; intro K1 hK1
  apply wp_region_lit
  refine sbx 2 hs rfl hk rfl rfl rfl rfl fun b2 w a hk hs => ?_
  refine sa _ rfl hk rfl rfl rfl fun a hk => ?_
  show wpList _ _ _ [] _ _
  refine wpList_nil ?_
  refine hK1 _ _ ?_
  apply wp_seq_k; intro K3 hK3
  apply wp_region_lit
  refine sf ⟨b2, 1, none⟩ rfl hk rfl rfl rfl fd31_1 rfl fun a hk => ?_
  refine sl rfl hk rfl rfl rfl ag29 (box_cell hs (k := 2) rfl rfl) fun a hk => ?_
  refine sm _ rfl hk rfl rfl rfl fun a hk => ?_
  obtain ⟨y4, h5, H⟩ := bind_some H
  refine sc rfl en23 hk rfl rfl rfl (laws_szIntS_t _ A0_0 p0_0 x0.Values _ v0_0 (hs.hasD (k := 1) rfl) x1 _ h5) ?_
  rintro _ w ⟨rfl, hG⟩ a hk
  have hs := hs.call0 hG
  refine sa _ rfl hk rfl rfl rfl fun a hk => ?_
  show wpList _ _ _ [] _ _
  refine wpList_nil ?_
  refine hK3 _ _ ?_
  apply wp_seq_k; intro K6 hK6
  apply wp_seq_k; intro K7 hK7
  apply wp_region_lit
  refine sm _ rfl hk rfl rfl rfl fun a hk => ?_
  refine sv (.bool (decide (y4 < 0))) hk rfl rfl rfl fun a hk => ?_
  show wpList _ _ _ [] _ _
  refine wpList_nil ?_
  refine hK7 _ _ ?_
  rcases cond_some H with ⟨c8, H⟩ | ⟨c8, H⟩
  ·have hk := hk.lit 10 c8 rfl
   refine cnd_true hk rfl rfl ?_
   apply wp_seq_k; intro K9 hK9
   apply wp_region_lit
   refine sa _ rfl hk rfl rfl rfl fun a hk => ?_
   show wpList _ _ _ [] _ _
   refine wpList_nil ?_
   refine hK9 _ _ ?_
   have hs := hs.pick [] rfl
   refine wp_ret ?_
   obtain rfl := Option.some.inj H
   exact fin hk _ [(.int .i64 (-1))] rfl ⟨rfl, trivial⟩ ⟨rfl, (hs.pick [] rfl).dnil⟩
  ·have hk := hk.lit 10 c8 rfl
   refine cnd_false hk rfl rfl ?_
   refine wp_skip ?_
   refine hK6 _ _ ?_
   have hs := hs.pick [] rfl
   apply wp_seq_k; intro K10 hK10
   apply wp_region_lit
   refine sm _ rfl hk rfl rfl rfl fun a hk => ?_
   refine sa _ rfl hk rfl rfl rfl fun a hk => ?_
   show wpList _ _ _ [] _ _
   refine wpList_nil ?_
   refine hK10 _ _ ?_
   refine wp_ret ?_
   obtain rfl := Option.some.inj H
   exact fin hk _ [(.int .i64 y4)] rfl ⟨rfl, trivial⟩ ⟨rfl, (hs.pick [] rfl).dnil⟩

noncomputable def spec_l01In.f (x0 : Int) (x1 : Int) (x2 : Int) : Option (Bool) :=
  (((bif (decide (x1 ≤ x0)) then (some (decide (x0 ≤ x2))) else (some false)) : Option (Bool)).bind fun u4 => (some u4))
set_option maxRecDepth 100000 in
set_option maxHeartbeats 0 in
theorem spec_l01In_t (w0 : World) (x0 : Int) (x1 : Int) (x2 : Int) (r : Bool) (H : spec_l01In.f x0 x1 x2 = some r) :
    Calls Tryd.prog 37 #[.int .i64 x0, .int .i64 x1, .int .i64 x2] w0 (Ret (fun v w => v = .bool r ∧ Sat [] w0 w [] [])) := by
  have hs : Sat [] w0 w0 [] [] := Sat.init w0 [] [] (by simp) (by simp) List.nodup_nil (by simp [blks])
  unfold spec_l01In.f at H
  refine enter Tryd.func37 rfl Tryd.ntmps37 rfl fun a hk => ?_
  apply wp_seq_k; intro K1 hK1
  apply wp_region_lit
  refine sa _ rfl hk rfl rfl rfl fun a hk => ?_
  show wpList _ _ _ [] _ _
  refine wpList_nil ?_
  refine hK1 _ _ ?_
  apply wp_seq_k; intro K2 hK2
  obtain ⟨o5, h6, HL7⟩ := bind_some H
  clear H
  obtain ⟨R8, hR8⟩ : ∃ R : Act → World → Prop, R = fun a w => ∃ (u4 : Bool), u4 = o5 ∧ Kn [(6, (.bool u4))] 15 a ∧ Sat [] w0 w [] [] := ⟨_, rfl⟩
  refine wp_cutq R8 ?_ ?_
  ·have H := h6
   apply wp_region_lit
   refine sm _ rfl hk rfl rfl rfl fun a hk => ?_
   refine sm _ rfl hk rfl rfl rfl fun a hk => ?_
   refine sv (.bool (decide (x1 ≤ x0))) hk rfl rfl rfl fun a hk => ?_
   refine sm _ rfl hk rfl rfl rfl fun a hk => ?_
   rcases cond_some H with ⟨c9, H⟩ | ⟨c9, H⟩
   ·have hk := hk.lit 10 c9 rfl
    refine sm _ rfl hk rfl rfl rfl fun a hk => ?_
    refine sm _ rfl hk rfl rfl rfl fun a hk => ?_
    refine sv (.bool (decide (x0 ≤ x2))) hk rfl rfl rfl fun a hk => ?_
    refine sv (.bool (decide (x0 ≤ x2))) hk rfl rfl rfl fun a hk => ?_
    refine sa _ rfl hk rfl rfl rfl fun a hk => ?_
    show wpList _ _ _ [] _ _
    refine wpList_nil ?_
    obtain rfl := Option.some.inj H
    show R8 _ _
    rw [hR8]
    exact ⟨(decide (x0 ≤ x2)), rfl, (hk.c 6 rfl hk.k), (hs.pick [] rfl)⟩
   ·have hk := hk.lit 10 c9 rfl
    refine sk hk rfl rfl rfl fun a hk => ?_
    refine sk hk rfl rfl rfl fun a hk => ?_
    refine sk hk rfl rfl rfl fun a hk => ?_
    refine sv (.bool false) hk rfl rfl rfl fun a hk => ?_
    refine sa _ rfl hk rfl rfl rfl fun a hk => ?_
    show wpList _ _ _ [] _ _
    refine wpList_nil ?_
    obtain rfl := Option.some.inj H
    show R8 _ _
    rw [hR8]
    exact ⟨false, rfl, (hk.c 6 rfl hk.k), (hs.pick [] rfl)⟩
  ·intro a w hR0
   rw [hR8] at hR0
   obtain ⟨u4, rfl, hk, hs⟩ := hR0
   have H := HL7
   try dsimp only at H
   refine hK2 _ _ ?_
   refine wp_ret ?_
   obtain rfl := Option.some.inj H
   exact fin hk _ [(.bool u4)] rfl ⟨rfl, trivial⟩ ⟨rfl, (hs.pick [] rfl).dnil⟩

noncomputable def spec_l10ResultOK.s0 (x0 : S_Result) (u22 : Int) : Option ((Int) ⊕ Ex (Unit) (Bool)) :=
  (bif (decide (u22 < (x0.Values.length : Int))) then (if 0 ≤ u22 ∧ u22 < (x0.Values.length : Int) then ((spec_l01In.f (x0.Values.getD u22.toNat 0) 0 999999).bind fun y40 => (bif (!y40) then (some (.inr (.ret false))) else (some (.inl (w64 (u22 + 1)))))) else none) else (some (.inr (.out ()))))
noncomputable def spec_l10ResultOK.f (x0 : S_Result) : Option (Bool) :=
  ((((spec_l01In.f x0.Code 0 19).bind fun y11 => (bif (!y11) then (some true) else (bif (decide ((x0.Values.length : Int) > 32)) then (some true) else (bif (x0.Code != 0) then (some (decide ((x0.Values.length : Int) > 0))) else (some false))))) : Option (Bool)).bind fun u6 => (bif u6 then (some false) else ((loopO (fun s => spec_l10ResultOK.s0 x0 s) 0).bind fun o => match o with | .out _ => (some true) | .ret r => (some r))))
set_option maxRecDepth 100000 in
set_option maxHeartbeats 0 in
theorem spec_l10ResultOK_t (w0 : World) (x0 : S_Result) (A0_0 : Option Addr) (p0_0 : Nat) (k0_0 : Chunk) (v0_0 : View (Lay.int .i64) A0_0 p0_0 x0.Values k0_0) (w0_0 : Has w0 k0_0) (r : Bool) (H : spec_l10ResultOK.f x0 = some r) :
    Calls Tryd.prog 24 #[.agg #[.int .i64 x0.Code, .slice A0_0 x0.Values.length p0_0]] w0 (Ret (fun v w => v = .bool r ∧ Sat [] w0 w [] [])) := by
  have hs : Sat [] w0 w0 [(1, k0_0)] [] := Sat.init w0 [(1, k0_0)] [] (by simp only [List.mem_cons, List.not_mem_nil, or_false]; rintro x (rfl) <;> assumption) (by simp) List.nodup_nil (by simp [blks])
  unfold spec_l10ResultOK.f at H
  refine enter Tryd.func24 rfl Tryd.ntmps24 rfl fun a hk => ?_
  apply wp_seq_k; intro K1 hK1
  apply wp_region_lit
  refine sbx 2 hs rfl hk rfl rfl rfl rfl fun b2 w a hk hs => ?_
  refine sa _ rfl hk rfl rfl rfl fun a hk => ?_
  show wpList _ _ _ [] _ _
  refine wpList_nil ?_
  refine hK1 _ _ ?_
  apply wp_seq_k; intro K3 hK3
  apply wp_seq_k; intro K4 hK4
  obtain ⟨o7, h8, HL9⟩ := bind_some H
  clear H
  obtain ⟨R10, hR10⟩ : ∃ R : Act → World → Prop, R = fun a w => ∃ (u6 : Bool), u6 = o7 ∧ Kn [(1, (.pointer (some ⟨b2, 0, none⟩))), (24, (.bool u6))] 39 a ∧ Sat [] w0 w [(1, k0_0)] [(2, [(b2, .cells #[.int .i64 x0.Code, .slice A0_0 x0.Values.length p0_0] 34 (0, 0))])] := ⟨_, rfl⟩
  refine wp_cutq R10 ?_ ?_
  ·have H := h8
   apply wp_region_lit
   refine sf ⟨b2, 0, none⟩ rfl hk rfl rfl rfl fd34_0 rfl fun a hk => ?_
   refine sl rfl hk rfl rfl rfl ag3 (box_cell hs (k := 2) rfl rfl) fun a hk => ?_
   obtain ⟨y11, h12, H⟩ := bind_some H
   refine sc rfl en37 hk rfl rfl rfl (spec_l01In_t _ x0.Code 0 19 _ h12) ?_
   rintro _ w ⟨rfl, hG⟩ a hk
   have hs := hs.call0 hG
   refine sv (.bool (!y11)) hk rfl rfl rfl fun a hk => ?_
   refine sm _ rfl hk rfl rfl rfl fun a hk => ?_
   rcases cond_some H with ⟨c13, H⟩ | ⟨c13, H⟩
   ·have hk := hk.lit 8 c13 rfl
    refine sk hk rfl rfl rfl fun a hk => ?_
    refine sk hk rfl rfl rfl fun a hk => ?_
    refine sk hk rfl rfl rfl fun a hk => ?_
    refine sk hk rfl rfl rfl fun a hk => ?_
    refine sv (.bool true) hk rfl rfl rfl fun a hk => ?_
    refine sm _ rfl hk rfl rfl rfl fun a hk => ?_
    refine sk hk rfl rfl rfl fun a hk => ?_
    refine sk hk rfl rfl rfl fun a hk => ?_
    refine sk hk rfl rfl rfl fun a hk => ?_
    refine sk hk rfl rfl rfl fun a hk => ?_
    refine sk hk rfl rfl rfl fun a hk => ?_
    refine sk hk rfl rfl rfl fun a hk => ?_
    refine sk hk rfl rfl rfl fun a hk => ?_
    refine sk hk rfl rfl rfl fun a hk => ?_
    refine sk hk rfl rfl rfl fun a hk => ?_
    refine sv (.bool true) hk rfl rfl rfl fun a hk => ?_
    show wpList _ _ _ [] _ _
    refine wpList_nil ?_
    obtain rfl := Option.some.inj H
    show R10 _ _
    rw [hR10]
    exact ⟨true, rfl, (hk.c 1 rfl (hk.c 24 rfl hk.k)), (hs.pick [(2, 2)] rfl)⟩
   ·have hk := hk.lit 8 c13 rfl
    refine sf ⟨b2, 1, none⟩ rfl hk rfl rfl rfl fd34_1 rfl fun a hk => ?_
    refine sl rfl hk rfl rfl rfl ag29 (box_cell hs (k := 2) rfl rfl) fun a hk => ?_
    refine sle rfl hk rfl rfl rfl un29 fun a hk => ?_
    refine sv (.bool (decide ((x0.Values.length : Int) > 32))) hk rfl rfl rfl fun a hk => ?_
    refine sv (.bool (decide ((x0.Values.length : Int) > 32))) hk rfl rfl rfl fun a hk => ?_
    refine sm _ rfl hk rfl rfl rfl fun a hk => ?_
    rcases cond_some H with ⟨c14, H⟩ | ⟨c14, H⟩
    ·have hk := hk.lit 14 c14 rfl
     refine sk hk rfl rfl rfl fun a hk => ?_
     refine sk hk rfl rfl rfl fun a hk => ?_
     refine sk hk rfl rfl rfl fun a hk => ?_
     refine sk hk rfl rfl rfl fun a hk => ?_
     refine sk hk rfl rfl rfl fun a hk => ?_
     refine sk hk rfl rfl rfl fun a hk => ?_
     refine sk hk rfl rfl rfl fun a hk => ?_
     refine sk hk rfl rfl rfl fun a hk => ?_
     refine sk hk rfl rfl rfl fun a hk => ?_
     refine sv (.bool true) hk rfl rfl rfl fun a hk => ?_
     show wpList _ _ _ [] _ _
     refine wpList_nil ?_
     obtain rfl := Option.some.inj H
     show R10 _ _
     rw [hR10]
     exact ⟨true, rfl, (hk.c 1 rfl (hk.c 24 rfl hk.k)), (hs.pick [(2, 2)] rfl)⟩
    ·have hk := hk.lit 14 c14 rfl
     refine sf ⟨b2, 0, none⟩ rfl hk rfl rfl rfl fd34_0 rfl fun a hk => ?_
     refine sl rfl hk rfl rfl rfl ag3 (box_cell hs (k := 2) rfl rfl) fun a hk => ?_
     refine sv (.bool (x0.Code != 0)) hk rfl rfl rfl fun a hk => ?_
     refine sm _ rfl hk rfl rfl rfl fun a hk => ?_
     rcases cond_some H with ⟨c15, H⟩ | ⟨c15, H⟩
     ·have hk := hk.lit 18 c15 rfl
      refine sf ⟨b2, 1, none⟩ rfl hk rfl rfl rfl fd34_1 rfl fun a hk => ?_
      refine sl rfl hk rfl rfl rfl ag29 (box_cell hs (k := 2) rfl rfl) fun a hk => ?_
      refine sle rfl hk rfl rfl rfl un29 fun a hk => ?_
      refine sv (.bool (decide ((x0.Values.length : Int) > 0))) hk rfl rfl rfl fun a hk => ?_
      refine sv (.bool (decide ((x0.Values.length : Int) > 0))) hk rfl rfl rfl fun a hk => ?_
      refine sv (.bool (decide ((x0.Values.length : Int) > 0))) hk rfl rfl rfl fun a hk => ?_
      show wpList _ _ _ [] _ _
      refine wpList_nil ?_
      obtain rfl := Option.some.inj H
      show R10 _ _
      rw [hR10]
      exact ⟨(decide ((x0.Values.length : Int) > 0)), rfl, (hk.c 1 rfl (hk.c 24 rfl hk.k)), (hs.pick [(2, 2)] rfl)⟩
     ·have hk := hk.lit 18 c15 rfl
      refine sk hk rfl rfl rfl fun a hk => ?_
      refine sk hk rfl rfl rfl fun a hk => ?_
      refine sk hk rfl rfl rfl fun a hk => ?_
      refine sk hk rfl rfl rfl fun a hk => ?_
      refine sv (.bool false) hk rfl rfl rfl fun a hk => ?_
      refine sv (.bool false) hk rfl rfl rfl fun a hk => ?_
      show wpList _ _ _ [] _ _
      refine wpList_nil ?_
      obtain rfl := Option.some.inj H
      show R10 _ _
      rw [hR10]
      exact ⟨false, rfl, (hk.c 1 rfl (hk.c 24 rfl hk.k)), (hs.pick [(2, 2)] rfl)⟩
  ·intro a w hR0
   rw [hR10] at hR0
   obtain ⟨u6, rfl, hk, hs⟩ := hR0
   have H := HL9
   try dsimp only at H
   refine hK4 _ _ ?_
   rcases cond_some H with ⟨c16, H⟩ | ⟨c16, H⟩
   ·have hk := hk.lit 24 c16 rfl
    refine cnd_true hk rfl rfl ?_
    apply wp_seq_k; intro K17 hK17
    apply wp_region_lit
    refine sa _ rfl hk rfl rfl rfl fun a hk => ?_
    show wpList _ _ _ [] _ _
    refine wpList_nil ?_
    refine hK17 _ _ ?_
    refine wp_ret ?_
    obtain rfl := Option.some.inj H
    exact fin hk _ [(.bool false)] rfl ⟨rfl, trivial⟩ ⟨rfl, (hs.pick [] rfl).dnil⟩
   ·have hk := hk.lit 24 c16 rfl
    refine cnd_false hk rfl rfl ?_
    refine wp_skip ?_
    refine hK3 _ _ ?_
    apply wp_seq_k; intro K18 hK18
    apply wp_seq_k; intro K19 hK19
    apply wp_region_lit
    refine sa _ rfl hk rfl rfl rfl fun a hk => ?_
    show wpList _ _ _ [] _ _
    refine wpList_nil ?_
    refine hK19 _ _ ?_
    have hs := hs.pick [(2, 2)] rfl
    obtain ⟨o23, h24, HL25⟩ := bind_some H
    clear H
    obtain ⟨R26, hR26⟩ : ∃ R : Act → World → Prop, R = fun a w => o23 = .out () ∧ Kn [] 39 a ∧ Sat [] w0 w [(1, k0_0)] [] := ⟨_, rfl⟩
    refine wp_cutq R26 ?_ ?_
    ·refine wp_block ?_
     obtain ⟨fu28, h24⟩ := loopO_some h24
     obtain ⟨I27, hI27⟩ : ∃ I : Nat → Act → World → Prop, I = fun fu a w => ∃ (u22 : Int), loopN (fun s => spec_l10ResultOK.s0 x0 s) fu u22 = some o23 ∧ Kn [(1, (.pointer (some ⟨b2, 0, none⟩))), (3, (.int .i64 u22))] 39 a ∧ Sat [] w0 w [(1, k0_0)] [(2, [(b2, .cells #[.int .i64 x0.Code, .slice A0_0 x0.Values.length p0_0] 34 (0, 0))])] := ⟨_, rfl⟩
     refine wp_loop_ghost I27 fu28 ?_ ?_
     ·rw [hI27]
      exact ⟨0, h24, (hk.c 1 rfl (hk.c 3 rfl hk.k)), (hs.pick [(2, 2)] rfl)⟩
     ·clear h24 hk hs
      intro fu28 a w hI0
      rw [hI27] at hI0
      obtain ⟨u22, hi, hk, hs⟩ := hI0
      obtain ⟨x29, H, h30⟩ := loop_round hi
      try dsimp only at H
      unfold spec_l10ResultOK.s0 at H
      apply wp_seq_k; intro K31 hK31
      apply wp_seq_k; intro K32 hK32
      apply wp_region_lit
      refine sm _ rfl hk rfl rfl rfl fun a hk => ?_
      refine sf ⟨b2, 1, none⟩ rfl hk rfl rfl rfl fd34_1 rfl fun a hk => ?_
      refine sl rfl hk rfl rfl rfl ag29 (box_cell hs (k := 2) rfl rfl) fun a hk => ?_
      refine sle rfl hk rfl rfl rfl un29 fun a hk => ?_
      refine sv (.bool (decide (u22 < (x0.Values.length : Int)))) hk rfl rfl rfl fun a hk => ?_
      show wpList _ _ _ [] _ _
      refine wpList_nil ?_
      refine hK32 _ _ ?_
      rcases cond_some H with ⟨c33, H⟩ | ⟨c33, H⟩
      ·have hk := hk.lit 29 c33 rfl
       refine cnd_true hk rfl rfl ?_
       refine wp_skip ?_
       refine hK31 _ _ ?_
       apply wp_seq_k; intro K34 hK34
       refine wp_block ?_
       apply wp_seq_k; intro K35 hK35
       apply wp_region_lit
       refine sf ⟨b2, 1, none⟩ rfl hk rfl rfl rfl fd34_1 rfl fun a hk => ?_
       refine sl rfl hk rfl rfl rfl ag29 (box_cell hs (k := 2) rfl rfl) fun a hk => ?_
       refine sm _ rfl hk rfl rfl rfl fun a hk => ?_
       rcases ite_some H with ⟨c36, H⟩ | ⟨_, H⟩
       rotate_left
       ·cases H
       obtain ⟨b37, q38, hAc36⟩ := (v0_0).some_ u22 c36.1 c36.2
       refine si rfl hk rfl rfl rfl rfl un29 sz3 c36.1 c36.2 hAc36 fun a hk => ?_
       obtain ⟨_, rfl, e39⟩ := (v0_0).at_ 0 u22 c36.1 c36.2
       refine sl (v := (.int .i64 (x0.Values.getD u22.toNat 0))) rfl hk rfl rfl rfl ag3 ((e39 0 _ rfl).cell (hs.hasD (k := 1) rfl)) fun a hk => ?_
       obtain ⟨y40, h41, H⟩ := bind_some H
       refine sc rfl en37 hk rfl rfl rfl (spec_l01In_t _ (x0.Values.getD u22.toNat 0) 0 999999 _ h41) ?_
       rintro _ w ⟨rfl, hG⟩ a hk
       have hs := hs.call0 hG
       refine sv (.bool (!y40)) hk rfl rfl rfl fun a hk => ?_
       show wpList _ _ _ [] _ _
       refine wpList_nil ?_
       refine hK35 _ _ ?_
       rcases cond_some H with ⟨c42, H⟩ | ⟨c42, H⟩
       ·have hk := hk.lit 38 c42 rfl
        refine cnd_true hk rfl rfl ?_
        apply wp_seq_k; intro K43 hK43
        apply wp_region_lit
        refine sa _ rfl hk rfl rfl rfl fun a hk => ?_
        show wpList _ _ _ [] _ _
        refine wpList_nil ?_
        refine hK43 _ _ ?_
        have hs := hs.pick [] rfl
        refine wp_ret ?_
        obtain rfl := Option.some.inj H
        have ho23 := h30
        try dsimp only at ho23
        subst ho23
        have H := HL25
        try dsimp only at H
        obtain rfl := Option.some.inj H
        exact fin hk _ [(.bool false)] rfl ⟨rfl, trivial⟩ ⟨rfl, (hs.pick [] rfl).dnil⟩
       ·have hk := hk.lit 38 c42 rfl
        refine cnd_false hk rfl rfl ?_
        refine wp_skip ?_
        refine hK34 _ _ ?_
        have hs := hs.pick [(2, 2)] rfl
        apply wp_region_lit
        refine sm _ rfl hk rfl rfl rfl fun a hk => ?_
        refine sv (.int .i64 (w64 (u22 + 1))) hk rfl rfl rfl fun a hk => ?_
        refine sa _ rfl hk rfl rfl rfl fun a hk => ?_
        show wpList _ _ _ [] _ _
        refine wpList_nil ?_
        obtain rfl := Option.some.inj H
        obtain ⟨m44, hmm44, h30⟩ := h30
        show ∃ n', n' < _ ∧ I27 n' _ _
        refine ⟨m44, hmm44, ?_⟩
        rw [hI27]
        exact ⟨(w64 (u22 + 1)), h30, (hk.c 1 rfl (hk.c 3 rfl hk.k)), (hs.pick [(2, 2)] rfl)⟩
      ·have hk := hk.lit 29 c33 rfl
       refine cnd_false hk rfl rfl ?_
       refine wp_exit ?_
       obtain rfl := Option.some.inj H
       show R26 _ _
       rw [hR26]
       exact ⟨h30.symm, hk.k, (hs.pick [] rfl)⟩
    ·intro a w hR0
     rw [hR26] at hR0
     obtain ⟨rfl, hk, hs⟩ := hR0
     have H := HL25
     try dsimp only at H
     refine hK18 _ _ ?_
     apply wp_seq_k; intro K45 hK45
     apply wp_region_lit
     refine sa _ rfl hk rfl rfl rfl fun a hk => ?_
     show wpList _ _ _ [] _ _
     refine wpList_nil ?_
     refine hK45 _ _ ?_
     refine wp_ret ?_
     obtain rfl := Option.some.inj H
     exact fin hk _ [(.bool true)] rfl ⟨rfl, trivial⟩ ⟨rfl, (hs.pick [] rfl).dnil⟩

noncomputable def spec_l00Digits.g : Nat → Int → Option (ByteArray)
  | 0, _ => none
  | n + 1, x0 => (bif (x0 == (-9223372036854775808)) then (some (⟨#[45, 57, 50, 50, 51, 51, 55, 50, 48, 51, 54, 56, 53, 52, 55, 55, 53, 56, 48, 56]⟩ : ByteArray)) else (bif (decide (x0 < 0)) then ((spec_l00Digits.g n (w64 (0 - x0))).bind fun y10 => (if (⟨#[45]⟩ : ByteArray).size + y10.size ≤ 1152921504606846976 then (some ((⟨#[45]⟩ : ByteArray) ++ y10)) else none)) else (bif (decide (x0 < 10)) then (some (strOfNums ([(IntKind.wrap .u8 (w64 (48 + x0)))]))) else ((spec_l00Digits.g n (IntKind.wrap .i64 (Int.tdiv x0 10))).bind fun y22 => (if y22.size + (strOfNums ([(IntKind.wrap .u8 (w64 (48 + (Int.tmod x0 10))))])).size ≤ 1152921504606846976 then (some (y22 ++ (strOfNums ([(IntKind.wrap .u8 (w64 (48 + (Int.tmod x0 10))))])))) else none)))))
noncomputable def spec_l00Digits.f (x0 : Int) : Option (ByteArray) := recO (fun n => spec_l00Digits.g n x0)
set_option maxRecDepth 100000 in
set_option maxHeartbeats 0 in
theorem spec_l00Digits_n : ∀ (n : Nat) (w0 : World) (x0 : Int) (r : ByteArray) (H : spec_l00Digits.g n x0 = some r), Calls Tryd.prog 39 #[.int .i64 x0] w0 (Ret (fun v w => v = .string r ∧ Sat [] w0 w [] [])) := by
  intro n
  induction n with
  | zero => intro w0 x0 r H; rw [spec_l00Digits.g] at H; cases H
  | succ n ih =>
  intro w0 x0 r H
  have hs : Sat [] w0 w0 [] [] := Sat.init w0 [] [] (by simp) (by simp) List.nodup_nil (by simp [blks])
  rw [spec_l00Digits.g] at H
  refine enter Tryd.func39 rfl Tryd.ntmps39 rfl fun a hk => ?_
  apply wp_seq_k; intro K1 hK1
  apply wp_region_lit
  refine sa _ rfl hk rfl rfl rfl fun a hk => ?_
  show wpList _ _ _ [] _ _
  refine wpList_nil ?_
  refine hK1 _ _ ?_
  apply wp_seq_k; intro K2 hK2
  apply wp_seq_k; intro K3 hK3
  apply wp_region_lit
  refine sm _ rfl hk rfl rfl rfl fun a hk => ?_
  refine sv (.bool (x0 == (-9223372036854775808))) hk rfl rfl rfl fun a hk => ?_
  show wpList _ _ _ [] _ _
  refine wpList_nil ?_
  refine hK3 _ _ ?_
  rcases cond_some H with ⟨c4, H⟩ | ⟨c4, H⟩
  ·have hk := hk.lit 4 c4 rfl
   refine cnd_true hk rfl rfl ?_
   apply wp_seq_k; intro K5 hK5
   apply wp_region_lit
   refine sa _ rfl hk rfl rfl rfl fun a hk => ?_
   show wpList _ _ _ [] _ _
   refine wpList_nil ?_
   refine hK5 _ _ ?_
   refine wp_ret ?_
   obtain rfl := Option.some.inj H
   exact fin hk _ [(.string (⟨#[45, 57, 50, 50, 51, 51, 55, 50, 48, 51, 54, 56, 53, 52, 55, 55, 53, 56, 48, 56]⟩ : ByteArray))] rfl ⟨rfl, trivial⟩ ⟨rfl, (hs.pick [] rfl).dnil⟩
  ·have hk := hk.lit 4 c4 rfl
   refine cnd_false hk rfl rfl ?_
   refine wp_skip ?_
   refine hK2 _ _ ?_
   apply wp_seq_k; intro K6 hK6
   apply wp_seq_k; intro K7 hK7
   apply wp_region_lit
   refine sm _ rfl hk rfl rfl rfl fun a hk => ?_
   refine sv (.bool (decide (x0 < 0))) hk rfl rfl rfl fun a hk => ?_
   show wpList _ _ _ [] _ _
   refine wpList_nil ?_
   refine hK7 _ _ ?_
   have hs := hs.pick [] rfl
   rcases cond_some H with ⟨c8, H⟩ | ⟨c8, H⟩
   ·have hk := hk.lit 6 c8 rfl
    refine cnd_true hk rfl rfl ?_
    apply wp_seq_k; intro K9 hK9
    apply wp_region_lit
    refine sm _ rfl hk rfl rfl rfl fun a hk => ?_
    refine sv (.int .i64 (w64 (0 - x0))) hk rfl rfl rfl fun a hk => ?_
    obtain ⟨y10, h11, H⟩ := bind_some H
    refine sc rfl en39 hk rfl rfl rfl (ih _ (w64 (0 - x0)) _ h11) ?_
    rintro _ w ⟨rfl, hG⟩ a hk
    have hs := hs.call0 hG
    rcases ite_some H with ⟨c12, H⟩ | ⟨_, H⟩
    rotate_left
    ·cases H
    refine ssa rfl hk rfl rfl rfl rfl c12 fun a hk => ?_
    refine sa _ rfl hk rfl rfl rfl fun a hk => ?_
    show wpList _ _ _ [] _ _
    refine wpList_nil ?_
    refine hK9 _ _ ?_
    refine wp_ret ?_
    obtain rfl := Option.some.inj H
    exact fin hk _ [(.string ((⟨#[45]⟩ : ByteArray) ++ y10))] rfl ⟨rfl, trivial⟩ ⟨rfl, (hs.pick [] rfl).dnil⟩
   ·have hk := hk.lit 6 c8 rfl
    refine cnd_false hk rfl rfl ?_
    refine wp_skip ?_
    refine hK6 _ _ ?_
    apply wp_seq_k; intro K13 hK13
    apply wp_seq_k; intro K14 hK14
    apply wp_region_lit
    refine sm _ rfl hk rfl rfl rfl fun a hk => ?_
    refine sv (.bool (decide (x0 < 10))) hk rfl rfl rfl fun a hk => ?_
    show wpList _ _ _ [] _ _
    refine wpList_nil ?_
    refine hK14 _ _ ?_
    rcases cond_some H with ⟨c15, H⟩ | ⟨c15, H⟩
    ·have hk := hk.lit 12 c15 rfl
     refine cnd_true hk rfl rfl ?_
     apply wp_seq_k; intro K16 hK16
     apply wp_region_lit
     refine sm _ rfl hk rfl rfl rfl fun a hk => ?_
     refine sv (.int .i64 (w64 (48 + x0))) hk rfl rfl rfl fun a hk => ?_
     refine scn rfl hk rfl rfl rfl un5 un3 fun a hk => ?_
     refine sbs (L := (Lay.int .u8)) (pv := [(0, (.int .u8 (IntKind.wrap .u8 (w64 (48 + x0)))))]) (xs := [(IntKind.wrap .u8 (w64 (48 + x0)))]) (ess := [[.int .u8 (IntKind.wrap .u8 (w64 (48 + x0)))]]) 1 hs rfl hk rfl rfl rfl un75 (bs5_0 (IntKind.wrap .u8 (w64 (48 + x0)))) (AllOwn.cons0 ⟨rfl, rfl⟩ AllOwn.nil) rfl rfl rfl fun b17 k18 w a hk o19 hs => ?_
     refine sbt (xs := ([(IntKind.wrap .u8 (w64 (48 + x0)))])) rfl hk rfl rfl rfl rfl un75 un5 un9 o19.view (hs.hasG (k := 1) rfl) fun a hk => ?_
     refine sa _ rfl hk rfl rfl rfl fun a hk => ?_
     show wpList _ _ _ [] _ _
     refine wpList_nil ?_
     refine hK16 _ _ ?_
     refine wp_ret ?_
     obtain rfl := Option.some.inj H
     exact fin hk _ [(.string (strOfNums ([(IntKind.wrap .u8 (w64 (48 + x0)))])))] rfl ⟨rfl, trivial⟩ ⟨rfl, (hs.pick [] rfl).dnil⟩
    ·have hk := hk.lit 12 c15 rfl
     refine cnd_false hk rfl rfl ?_
     refine wp_skip ?_
     refine hK13 _ _ ?_
     apply wp_seq_k; intro K20 hK20
     refine wp_region_tree (.q 0 (.q 1 (.q 2 (.alt 3 (.alt 4 (.alt 5 (.alt 6 (.alt 7 (.alt 8 (.alt 9 (.last 10) .stop) .stop) .stop) .stop) .stop) .stop) .stop)))) mo (by kernel_rfl) (hs.pick [] rfl) fun _ => ?_
     have hs := hs.drew
     refine tqst (.int .i64 x0) hk rfl rfl rfl rfl (fun w hs => sm _ rfl hk rfl rfl rfl fun a hk => qe hk) fun a hk => ?_
     refine tqst (.int .i64 (IntKind.wrap .i64 (Int.tdiv x0 10))) hk rfl rfl rfl rfl (fun w hs => sv (.int .i64 (IntKind.wrap .i64 (Int.tdiv x0 10))) hk rfl rfl rfl fun a hk => qe hk) fun a hk => ?_
     obtain ⟨y22, h23, H⟩ := bind_some H
     refine tqst (.string y22) hk rfl rfl rfl rfl (fun w hs => sc rfl en39 hk rfl rfl rfl (ih _ (IntKind.wrap .i64 (Int.tdiv x0 10)) _ h23) fun _ w hR a hk => qc hR hk) fun a hk => ?_
     refine tsst hk rfl rfl (fun K_r21_3 hK_r21_3 w hF => ?_) wt_stop
     have hs := hs.f hF
     refine sm _ rfl hk rfl rfl rfl fun a hk => ?_
     refine se (hs.pick [] rfl) hk (hK_r21_3 _ _ ?_)
     refine tsst hk rfl rfl (fun K_r21_4 hK_r21_4 w hF => ?_) wt_stop
     have hs := hs.f hF
     refine sv (.int .i64 (Int.tmod x0 10)) hk rfl rfl rfl fun a hk => ?_
     refine se (hs.pick [] rfl) hk (hK_r21_4 _ _ ?_)
     refine tsst hk rfl rfl (fun K_r21_5 hK_r21_5 w hF => ?_) wt_stop
     have hs := hs.f hF
     refine sv (.int .i64 (w64 (48 + (Int.tmod x0 10)))) hk rfl rfl rfl fun a hk => ?_
     refine se (hs.pick [] rfl) hk (hK_r21_5 _ _ ?_)
     refine tsst hk rfl rfl (fun K_r21_6 hK_r21_6 w hF => ?_) wt_stop
     have hs := hs.f hF
     refine scn rfl hk rfl rfl rfl un5 un3 fun a hk => ?_
     refine se (hs.pick [] rfl) hk (hK_r21_6 _ _ ?_)
     refine tsst hk rfl rfl (fun K_r21_7 hK_r21_7 w hF => ?_) wt_stop
     have hs := hs.f hF
     refine sbs (L := (Lay.int .u8)) (pv := [(0, (.int .u8 (IntKind.wrap .u8 (w64 (48 + (Int.tmod x0 10))))))]) (xs := [(IntKind.wrap .u8 (w64 (48 + (Int.tmod x0 10))))]) (ess := [[.int .u8 (IntKind.wrap .u8 (w64 (48 + (Int.tmod x0 10))))]]) 3 hs rfl hk rfl rfl rfl un75 (bs5_0 (IntKind.wrap .u8 (w64 (48 + (Int.tmod x0 10))))) (AllOwn.cons0 ⟨rfl, rfl⟩ AllOwn.nil) rfl rfl rfl fun b24 k25 w a hk o26 hs => ?_
     refine se (hs.pick [] rfl) hk (hK_r21_7 _ _ ?_)
     refine tsst hk rfl rfl (fun K_r21_8 hK_r21_8 w hF => ?_) wt_stop
     have hs := hs.f hF
     refine sbt (xs := ([(IntKind.wrap .u8 (w64 (48 + (Int.tmod x0 10))))])) rfl hk rfl rfl rfl rfl un75 un5 un9 o26.view (hs.hasG (k := 3) rfl) fun a hk => ?_
     refine se (hs.pick [] rfl) hk (hK_r21_8 _ _ ?_)
     refine tsst hk rfl rfl (fun K_r21_9 hK_r21_9 w hF => ?_) wt_stop
     have hs := hs.f hF
     rcases ite_some H with ⟨c27, H⟩ | ⟨_, H⟩
     rotate_left
     ·cases H
     refine ssa rfl hk rfl rfl rfl rfl c27 fun a hk => ?_
     refine se (hs.pick [] rfl) hk (hK_r21_9 _ _ ?_)
     refine tlst hk rfl rfl fun K_r21_10 hK_r21_10 w hF => ?_
     have hs := hs.f hF
     refine sa _ rfl hk rfl rfl rfl fun a hk => ?_
     refine se trivial hk (hK_r21_10 _ _ fun w hF => ?_)
     have hs := hs.f hF
     refine hK20 _ _ ?_
     have hs := hs.pick [] rfl
     refine wp_ret ?_
     obtain rfl := Option.some.inj H
     exact fin hk _ [(.string (y22 ++ (strOfNums ([(IntKind.wrap .u8 (w64 (48 + (Int.tmod x0 10))))]))))] rfl ⟨rfl, trivial⟩ ⟨rfl, (hs.pick [] rfl).dnil⟩
set_option maxRecDepth 100000 in
set_option maxHeartbeats 0 in
theorem spec_l00Digits_t (w0 : World) (x0 : Int) (r : ByteArray) (H : spec_l00Digits.f x0 = some r) :
    Calls Tryd.prog 39 #[.int .i64 x0] w0 (Ret (fun v w => v = .string r ∧ Sat [] w0 w [] [])) := by
  obtain ⟨n, H⟩ := recO_some H
  exact spec_l00Digits_n n w0 x0 r H

noncomputable def spec_CodeWord.f (x0 : Int) : Option (ByteArray) :=
  (((bif (decide (x0 < 0)) then (some true) else (some (decide (x0 ≥ (20 : Int))))) : Option (Bool)).bind fun u9 => (bif u9 then (some (⟨#[]⟩ : ByteArray)) else (if 0 ≤ x0 ∧ x0 < (20 : Int) then (some (([(⟨#[111, 107]⟩ : ByteArray), (⟨#[98, 97, 100]⟩ : ByteArray), (⟨#[108, 111, 110, 103]⟩ : ByteArray), (⟨#[102, 111, 114, 109]⟩ : ByteArray), (⟨#[114, 97, 110, 103, 101]⟩ : ByteArray), (⟨#[110, 111, 110, 101]⟩ : ByteArray), (⟨#[109, 97, 110, 121]⟩ : ByteArray), (⟨#[102, 117, 108, 108]⟩ : ByteArray), (⟨#[115, 105, 122, 101]⟩ : ByteArray), (⟨#[116, 97, 103]⟩ : ByteArray), (⟨#[116, 97, 109, 112, 101, 114, 101, 100]⟩ : ByteArray), (⟨#[116, 111, 114, 110]⟩ : ByteArray), (⟨#[115, 116, 97, 115, 104]⟩ : ByteArray), (⟨#[116, 97, 112, 101]⟩ : ByteArray), (⟨#[99, 104, 101, 99, 107]⟩ : ByteArray), (⟨#[112, 101, 110, 100, 105, 110, 103]⟩ : ByteArray), (⟨#[100, 111, 119, 110]⟩ : ByteArray), (⟨#[117, 112]⟩ : ByteArray), (⟨#[115, 112, 101, 110, 116]⟩ : ByteArray), (⟨#[107, 101, 121]⟩ : ByteArray)]).getD x0.toNat ByteArray.empty)) else none)))
set_option maxRecDepth 100000 in
set_option maxHeartbeats 0 in
theorem spec_CodeWord_t (w0 : World) (x0 : Int) (r : ByteArray) (H : spec_CodeWord.f x0 = some r) :
    Calls Tryd.prog 46 #[.int .i64 x0] w0 (Ret (fun v w => v = .string r ∧ Sat [] w0 w [] [])) := by
  have hs : Sat [] w0 w0 [] [] := Sat.init w0 [] [] (by simp) (by simp) List.nodup_nil (by simp [blks])
  unfold spec_CodeWord.f at H
  refine enter Tryd.func46 rfl Tryd.ntmps46 rfl fun a hk => ?_
  apply wp_seq_k; intro K1 hK1
  apply wp_region_lit
  refine sa _ rfl hk rfl rfl rfl fun a hk => ?_
  show wpList _ _ _ [] _ _
  refine wpList_nil ?_
  refine hK1 _ _ ?_
  apply wp_seq_k; intro K2 hK2
  apply wp_region_lit
  refine sbs (L := Lay.str) (pv := [(0, (.string (⟨#[111, 107]⟩ : ByteArray))), (1, (.string (⟨#[98, 97, 100]⟩ : ByteArray))), (2, (.string (⟨#[108, 111, 110, 103]⟩ : ByteArray))), (3, (.string (⟨#[102, 111, 114, 109]⟩ : ByteArray))), (4, (.string (⟨#[114, 97, 110, 103, 101]⟩ : ByteArray))), (5, (.string (⟨#[110, 111, 110, 101]⟩ : ByteArray))), (6, (.string (⟨#[109, 97, 110, 121]⟩ : ByteArray))), (7, (.string (⟨#[102, 117, 108, 108]⟩ : ByteArray))), (8, (.string (⟨#[115, 105, 122, 101]⟩ : ByteArray))), (9, (.string (⟨#[116, 97, 103]⟩ : ByteArray))), (10, (.string (⟨#[116, 97, 109, 112, 101, 114, 101, 100]⟩ : ByteArray))), (11, (.string (⟨#[116, 111, 114, 110]⟩ : ByteArray))), (12, (.string (⟨#[115, 116, 97, 115, 104]⟩ : ByteArray))), (13, (.string (⟨#[116, 97, 112, 101]⟩ : ByteArray))), (14, (.string (⟨#[99, 104, 101, 99, 107]⟩ : ByteArray))), (15, (.string (⟨#[112, 101, 110, 100, 105, 110, 103]⟩ : ByteArray))), (16, (.string (⟨#[100, 111, 119, 110]⟩ : ByteArray))), (17, (.string (⟨#[117, 112]⟩ : ByteArray))), (18, (.string (⟨#[115, 112, 101, 110, 116]⟩ : ByteArray))), (19, (.string (⟨#[107, 101, 121]⟩ : ByteArray)))]) (xs := [(⟨#[111, 107]⟩ : ByteArray), (⟨#[98, 97, 100]⟩ : ByteArray), (⟨#[108, 111, 110, 103]⟩ : ByteArray), (⟨#[102, 111, 114, 109]⟩ : ByteArray), (⟨#[114, 97, 110, 103, 101]⟩ : ByteArray), (⟨#[110, 111, 110, 101]⟩ : ByteArray), (⟨#[109, 97, 110, 121]⟩ : ByteArray), (⟨#[102, 117, 108, 108]⟩ : ByteArray), (⟨#[115, 105, 122, 101]⟩ : ByteArray), (⟨#[116, 97, 103]⟩ : ByteArray), (⟨#[116, 97, 109, 112, 101, 114, 101, 100]⟩ : ByteArray), (⟨#[116, 111, 114, 110]⟩ : ByteArray), (⟨#[115, 116, 97, 115, 104]⟩ : ByteArray), (⟨#[116, 97, 112, 101]⟩ : ByteArray), (⟨#[99, 104, 101, 99, 107]⟩ : ByteArray), (⟨#[112, 101, 110, 100, 105, 110, 103]⟩ : ByteArray), (⟨#[100, 111, 119, 110]⟩ : ByteArray), (⟨#[117, 112]⟩ : ByteArray), (⟨#[115, 112, 101, 110, 116]⟩ : ByteArray), (⟨#[107, 101, 121]⟩ : ByteArray)]) (ess := [[.string (⟨#[111, 107]⟩ : ByteArray)], [.string (⟨#[98, 97, 100]⟩ : ByteArray)], [.string (⟨#[108, 111, 110, 103]⟩ : ByteArray)], [.string (⟨#[102, 111, 114, 109]⟩ : ByteArray)], [.string (⟨#[114, 97, 110, 103, 101]⟩ : ByteArray)], [.string (⟨#[110, 111, 110, 101]⟩ : ByteArray)], [.string (⟨#[109, 97, 110, 121]⟩ : ByteArray)], [.string (⟨#[102, 117, 108, 108]⟩ : ByteArray)], [.string (⟨#[115, 105, 122, 101]⟩ : ByteArray)], [.string (⟨#[116, 97, 103]⟩ : ByteArray)], [.string (⟨#[116, 97, 109, 112, 101, 114, 101, 100]⟩ : ByteArray)], [.string (⟨#[116, 111, 114, 110]⟩ : ByteArray)], [.string (⟨#[115, 116, 97, 115, 104]⟩ : ByteArray)], [.string (⟨#[116, 97, 112, 101]⟩ : ByteArray)], [.string (⟨#[99, 104, 101, 99, 107]⟩ : ByteArray)], [.string (⟨#[112, 101, 110, 100, 105, 110, 103]⟩ : ByteArray)], [.string (⟨#[100, 111, 119, 110]⟩ : ByteArray)], [.string (⟨#[117, 112]⟩ : ByteArray)], [.string (⟨#[115, 112, 101, 110, 116]⟩ : ByteArray)], [.string (⟨#[107, 101, 121]⟩ : ByteArray)]]) 1 hs rfl hk rfl rfl rfl un64 (bs9_1 (⟨#[111, 107]⟩ : ByteArray) (⟨#[98, 97, 100]⟩ : ByteArray) (⟨#[108, 111, 110, 103]⟩ : ByteArray) (⟨#[102, 111, 114, 109]⟩ : ByteArray) (⟨#[114, 97, 110, 103, 101]⟩ : ByteArray) (⟨#[110, 111, 110, 101]⟩ : ByteArray) (⟨#[109, 97, 110, 121]⟩ : ByteArray) (⟨#[102, 117, 108, 108]⟩ : ByteArray) (⟨#[115, 105, 122, 101]⟩ : ByteArray) (⟨#[116, 97, 103]⟩ : ByteArray) (⟨#[116, 97, 109, 112, 101, 114, 101, 100]⟩ : ByteArray) (⟨#[116, 111, 114, 110]⟩ : ByteArray) (⟨#[115, 116, 97, 115, 104]⟩ : ByteArray) (⟨#[116, 97, 112, 101]⟩ : ByteArray) (⟨#[99, 104, 101, 99, 107]⟩ : ByteArray) (⟨#[112, 101, 110, 100, 105, 110, 103]⟩ : ByteArray) (⟨#[100, 111, 119, 110]⟩ : ByteArray) (⟨#[117, 112]⟩ : ByteArray) (⟨#[115, 112, 101, 110, 116]⟩ : ByteArray) (⟨#[107, 101, 121]⟩ : ByteArray)) (AllOwn.cons0 ⟨rfl, rfl⟩ (AllOwn.cons0 ⟨rfl, rfl⟩ (AllOwn.cons0 ⟨rfl, rfl⟩ (AllOwn.cons0 ⟨rfl, rfl⟩ (AllOwn.cons0 ⟨rfl, rfl⟩ (AllOwn.cons0 ⟨rfl, rfl⟩ (AllOwn.cons0 ⟨rfl, rfl⟩ (AllOwn.cons0 ⟨rfl, rfl⟩ (AllOwn.cons0 ⟨rfl, rfl⟩ (AllOwn.cons0 ⟨rfl, rfl⟩ (AllOwn.cons0 ⟨rfl, rfl⟩ (AllOwn.cons0 ⟨rfl, rfl⟩ (AllOwn.cons0 ⟨rfl, rfl⟩ (AllOwn.cons0 ⟨rfl, rfl⟩ (AllOwn.cons0 ⟨rfl, rfl⟩ (AllOwn.cons0 ⟨rfl, rfl⟩ (AllOwn.cons0 ⟨rfl, rfl⟩ (AllOwn.cons0 ⟨rfl, rfl⟩ (AllOwn.cons0 ⟨rfl, rfl⟩ (AllOwn.cons0 ⟨rfl, rfl⟩ AllOwn.nil)))))))))))))))))))) rfl rfl rfl fun b3 k4 w a hk o5 hs => ?_
  refine sa _ rfl hk rfl rfl rfl fun a hk => ?_
  show wpList _ _ _ [] _ _
  refine wpList_nil ?_
  refine hK2 _ _ ?_
  apply wp_seq_k; intro K6 hK6
  apply wp_seq_k; intro K7 hK7
  obtain ⟨o10, h11, HL12⟩ := bind_some H
  clear H
  obtain ⟨R13, hR13⟩ : ∃ R : Act → World → Prop, R = fun a w => ∃ (u9 : Bool), u9 = o10 ∧ Kn [(0, (.int .i64 x0)), (3, (.slice (some ⟨b3, 0, none⟩) 20 20)), (12, (.bool u9))] 17 a ∧ Sat [] w0 w [] [(1, k4)] := ⟨_, rfl⟩
  refine wp_cutq R13 ?_ ?_
  ·have H := h11
   apply wp_region_lit
   refine sm _ rfl hk rfl rfl rfl fun a hk => ?_
   refine sv (.bool (decide (x0 < 0))) hk rfl rfl rfl fun a hk => ?_
   refine sm _ rfl hk rfl rfl rfl fun a hk => ?_
   rcases cond_some H with ⟨c14, H⟩ | ⟨c14, H⟩
   ·have hk := hk.lit 7 c14 rfl
    refine sk hk rfl rfl rfl fun a hk => ?_
    refine sk hk rfl rfl rfl fun a hk => ?_
    refine sk hk rfl rfl rfl fun a hk => ?_
    refine sk hk rfl rfl rfl fun a hk => ?_
    refine sv (.bool true) hk rfl rfl rfl fun a hk => ?_
    show wpList _ _ _ [] _ _
    refine wpList_nil ?_
    obtain rfl := Option.some.inj H
    show R13 _ _
    rw [hR13]
    exact ⟨true, rfl, (hk.c 0 rfl (hk.c 3 rfl (hk.c 12 rfl hk.k))), (hs.pick [(1, 1)] rfl)⟩
   ·have hk := hk.lit 7 c14 rfl
    refine sm _ rfl hk rfl rfl rfl fun a hk => ?_
    refine sm _ rfl hk rfl rfl rfl fun a hk => ?_
    refine sle rfl hk rfl rfl rfl un64 fun a hk => ?_
    refine sv (.bool (decide (x0 ≥ (20 : Int)))) hk rfl rfl rfl fun a hk => ?_
    refine sv (.bool (decide (x0 ≥ (20 : Int)))) hk rfl rfl rfl fun a hk => ?_
    show wpList _ _ _ [] _ _
    refine wpList_nil ?_
    obtain rfl := Option.some.inj H
    show R13 _ _
    rw [hR13]
    exact ⟨(decide (x0 ≥ (20 : Int))), rfl, (hk.c 0 rfl (hk.c 3 rfl (hk.c 12 rfl hk.k))), (hs.pick [(1, 1)] rfl)⟩
  ·intro a w hR0
   rw [hR13] at hR0
   obtain ⟨u9, rfl, hk, hs⟩ := hR0
   have H := HL12
   try dsimp only at H
   refine hK7 _ _ ?_
   rcases cond_some H with ⟨c15, H⟩ | ⟨c15, H⟩
   ·have hk := hk.lit 12 c15 rfl
    refine cnd_true hk rfl rfl ?_
    apply wp_seq_k; intro K16 hK16
    apply wp_region_lit
    refine sa _ rfl hk rfl rfl rfl fun a hk => ?_
    show wpList _ _ _ [] _ _
    refine wpList_nil ?_
    refine hK16 _ _ ?_
    have hs := hs.pick [] rfl
    refine wp_ret ?_
    obtain rfl := Option.some.inj H
    exact fin hk _ [(.string (⟨#[]⟩ : ByteArray))] rfl ⟨rfl, trivial⟩ ⟨rfl, (hs.pick [] rfl).dnil⟩
   ·have hk := hk.lit 12 c15 rfl
    refine cnd_false hk rfl rfl ?_
    refine wp_skip ?_
    refine hK6 _ _ ?_
    have hs := hs.pick [(1, 1)] rfl
    apply wp_seq_k; intro K17 hK17
    apply wp_region_lit
    refine sm _ rfl hk rfl rfl rfl fun a hk => ?_
    refine sm _ rfl hk rfl rfl rfl fun a hk => ?_
    rcases ite_some H with ⟨c18, H⟩ | ⟨_, H⟩
    rotate_left
    ·cases H
    obtain ⟨b19, q20, hAc18⟩ := (o5.view).some_ x0 c18.1 c18.2
    refine si rfl hk rfl rfl rfl rfl un64 sz9 c18.1 c18.2 hAc18 fun a hk => ?_
    obtain ⟨_, rfl, e21⟩ := (o5.view).at_ ByteArray.empty x0 c18.1 c18.2
    refine sl (v := (.string (([(⟨#[111, 107]⟩ : ByteArray), (⟨#[98, 97, 100]⟩ : ByteArray), (⟨#[108, 111, 110, 103]⟩ : ByteArray), (⟨#[102, 111, 114, 109]⟩ : ByteArray), (⟨#[114, 97, 110, 103, 101]⟩ : ByteArray), (⟨#[110, 111, 110, 101]⟩ : ByteArray), (⟨#[109, 97, 110, 121]⟩ : ByteArray), (⟨#[102, 117, 108, 108]⟩ : ByteArray), (⟨#[115, 105, 122, 101]⟩ : ByteArray), (⟨#[116, 97, 103]⟩ : ByteArray), (⟨#[116, 97, 109, 112, 101, 114, 101, 100]⟩ : ByteArray), (⟨#[116, 111, 114, 110]⟩ : ByteArray), (⟨#[115, 116, 97, 115, 104]⟩ : ByteArray), (⟨#[116, 97, 112, 101]⟩ : ByteArray), (⟨#[99, 104, 101, 99, 107]⟩ : ByteArray), (⟨#[112, 101, 110, 100, 105, 110, 103]⟩ : ByteArray), (⟨#[100, 111, 119, 110]⟩ : ByteArray), (⟨#[117, 112]⟩ : ByteArray), (⟨#[115, 112, 101, 110, 116]⟩ : ByteArray), (⟨#[107, 101, 121]⟩ : ByteArray)]).getD x0.toNat ByteArray.empty))) rfl hk rfl rfl rfl ag9 ((e21 0 _ rfl).cell (hs.hasG (k := 1) rfl)) fun a hk => ?_
    refine sa _ rfl hk rfl rfl rfl fun a hk => ?_
    show wpList _ _ _ [] _ _
    refine wpList_nil ?_
    refine hK17 _ _ ?_
    refine wp_ret ?_
    obtain rfl := Option.some.inj H
    exact fin hk _ [(.string (([(⟨#[111, 107]⟩ : ByteArray), (⟨#[98, 97, 100]⟩ : ByteArray), (⟨#[108, 111, 110, 103]⟩ : ByteArray), (⟨#[102, 111, 114, 109]⟩ : ByteArray), (⟨#[114, 97, 110, 103, 101]⟩ : ByteArray), (⟨#[110, 111, 110, 101]⟩ : ByteArray), (⟨#[109, 97, 110, 121]⟩ : ByteArray), (⟨#[102, 117, 108, 108]⟩ : ByteArray), (⟨#[115, 105, 122, 101]⟩ : ByteArray), (⟨#[116, 97, 103]⟩ : ByteArray), (⟨#[116, 97, 109, 112, 101, 114, 101, 100]⟩ : ByteArray), (⟨#[116, 111, 114, 110]⟩ : ByteArray), (⟨#[115, 116, 97, 115, 104]⟩ : ByteArray), (⟨#[116, 97, 112, 101]⟩ : ByteArray), (⟨#[99, 104, 101, 99, 107]⟩ : ByteArray), (⟨#[112, 101, 110, 100, 105, 110, 103]⟩ : ByteArray), (⟨#[100, 111, 119, 110]⟩ : ByteArray), (⟨#[117, 112]⟩ : ByteArray), (⟨#[115, 112, 101, 110, 116]⟩ : ByteArray), (⟨#[107, 101, 121]⟩ : ByteArray)]).getD x0.toNat ByteArray.empty))] rfl ⟨rfl, trivial⟩ ⟨rfl, (hs.pick [] rfl).dnil⟩

noncomputable def spec_l10Text.s0 (x0 : S_Result) (u10 : ByteArray) (u11 : Int) : Option ((ByteArray × Int) ⊕ Ex (ByteArray) (ByteArray)) :=
  (bif (decide (u11 < (x0.Values.length : Int))) then (if 0 ≤ u11 ∧ u11 < (x0.Values.length : Int) then ((spec_l00Digits.f (x0.Values.getD u11.toNat 0)).bind fun y29 => (if (⟨#[32]⟩ : ByteArray).size + y29.size ≤ 1152921504606846976 then (if u10.size + ((⟨#[32]⟩ : ByteArray) ++ y29).size ≤ 1152921504606846976 then (some (.inl ((u10 ++ ((⟨#[32]⟩ : ByteArray) ++ y29)), (w64 (u11 + 1))))) else none) else none)) else none) else (some (.inr (.out u10))))
noncomputable def spec_l10Text.f (x0 : S_Result) : Option (ByteArray) :=
  ((spec_CodeWord.f x0.Code).bind fun y4 => ((loopO (fun s => spec_l10Text.s0 x0 s.1 s.2) (y4, 0)).bind fun o => match o with | .out u12 => (some u12) | .ret r => (some r)))
set_option maxRecDepth 100000 in
set_option maxHeartbeats 0 in
theorem spec_l10Text_t (w0 : World) (x0 : S_Result) (A0_0 : Option Addr) (p0_0 : Nat) (k0_0 : Chunk) (v0_0 : View (Lay.int .i64) A0_0 p0_0 x0.Values k0_0) (w0_0 : Has w0 k0_0) (r : ByteArray) (H : spec_l10Text.f x0 = some r) :
    Calls Tryd.prog 25 #[.agg #[.int .i64 x0.Code, .slice A0_0 x0.Values.length p0_0]] w0 (Ret (fun v w => v = .string r ∧ Sat [] w0 w [] [])) := by
  have hs : Sat [] w0 w0 [(1, k0_0)] [] := Sat.init w0 [(1, k0_0)] [] (by simp only [List.mem_cons, List.not_mem_nil, or_false]; rintro x (rfl) <;> assumption) (by simp) List.nodup_nil (by simp [blks])
  unfold spec_l10Text.f at H
  refine enter Tryd.func25 rfl Tryd.ntmps25 rfl fun a hk => ?_
  apply wp_seq_k; intro K1 hK1
  apply wp_region_lit
  refine sbx 2 hs rfl hk rfl rfl rfl rfl fun b2 w a hk hs => ?_
  refine sa _ rfl hk rfl rfl rfl fun a hk => ?_
  show wpList _ _ _ [] _ _
  refine wpList_nil ?_
  refine hK1 _ _ ?_
  apply wp_seq_k; intro K3 hK3
  apply wp_region_lit
  refine sf ⟨b2, 0, none⟩ rfl hk rfl rfl rfl fd34_0 rfl fun a hk => ?_
  refine sl rfl hk rfl rfl rfl ag3 (box_cell hs (k := 2) rfl rfl) fun a hk => ?_
  obtain ⟨y4, h5, H⟩ := bind_some H
  refine sc rfl en46 hk rfl rfl rfl (spec_CodeWord_t _ x0.Code _ h5) ?_
  rintro _ w ⟨rfl, hG⟩ a hk
  have hs := hs.call0 hG
  refine sa _ rfl hk rfl rfl rfl fun a hk => ?_
  show wpList _ _ _ [] _ _
  refine wpList_nil ?_
  refine hK3 _ _ ?_
  apply wp_seq_k; intro K6 hK6
  apply wp_seq_k; intro K7 hK7
  apply wp_region_lit
  refine sa _ rfl hk rfl rfl rfl fun a hk => ?_
  show wpList _ _ _ [] _ _
  refine wpList_nil ?_
  refine hK7 _ _ ?_
  obtain ⟨o13, h14, HL15⟩ := bind_some H
  clear H
  obtain ⟨R16, hR16⟩ : ∃ R : Act → World → Prop, R = fun a w => ∃ (u12 : ByteArray), o13 = .out u12 ∧ Kn [(3, (.string u12))] 25 a ∧ Sat [] w0 w [(1, k0_0)] [] := ⟨_, rfl⟩
  refine wp_cutq R16 ?_ ?_
  ·refine wp_block ?_
   obtain ⟨fu18, h14⟩ := loopO_some h14
   obtain ⟨I17, hI17⟩ : ∃ I : Nat → Act → World → Prop, I = fun fu a w => ∃ (u10 : ByteArray) (u11 : Int), loopN (fun s => spec_l10Text.s0 x0 s.1 s.2) fu (u10, u11) = some o13 ∧ Kn [(1, (.pointer (some ⟨b2, 0, none⟩))), (3, (.string u10)), (4, (.int .i64 u11))] 25 a ∧ Sat [] w0 w [(1, k0_0)] [(2, [(b2, .cells #[.int .i64 x0.Code, .slice A0_0 x0.Values.length p0_0] 34 (0, 0))])] := ⟨_, rfl⟩
   refine wp_loop_ghost I17 fu18 ?_ ?_
   ·rw [hI17]
    exact ⟨y4, 0, h14, (hk.c 1 rfl (hk.c 3 rfl (hk.c 4 rfl hk.k))), (hs.pick [(2, 2)] rfl)⟩
   ·clear h14 hk hs
    intro fu18 a w hI0
    rw [hI17] at hI0
    obtain ⟨u10, u11, hi, hk, hs⟩ := hI0
    obtain ⟨x19, H, h20⟩ := loop_round hi
    try dsimp only at H
    unfold spec_l10Text.s0 at H
    apply wp_seq_k; intro K21 hK21
    apply wp_seq_k; intro K22 hK22
    apply wp_region_lit
    refine sm _ rfl hk rfl rfl rfl fun a hk => ?_
    refine sf ⟨b2, 1, none⟩ rfl hk rfl rfl rfl fd34_1 rfl fun a hk => ?_
    refine sl rfl hk rfl rfl rfl ag29 (box_cell hs (k := 2) rfl rfl) fun a hk => ?_
    refine sle rfl hk rfl rfl rfl un29 fun a hk => ?_
    refine sv (.bool (decide (u11 < (x0.Values.length : Int)))) hk rfl rfl rfl fun a hk => ?_
    show wpList _ _ _ [] _ _
    refine wpList_nil ?_
    refine hK22 _ _ ?_
    have hs := hs.pick [(2, 2)] rfl
    rcases cond_some H with ⟨c23, H⟩ | ⟨c23, H⟩
    ·have hk := hk.lit 12 c23 rfl
     refine cnd_true hk rfl rfl ?_
     refine wp_skip ?_
     refine hK21 _ _ ?_
     apply wp_seq_k; intro K24 hK24
     refine wp_block ?_
     apply wp_region_lit
     refine sm _ rfl hk rfl rfl rfl fun a hk => ?_
     refine sf ⟨b2, 1, none⟩ rfl hk rfl rfl rfl fd34_1 rfl fun a hk => ?_
     refine sl rfl hk rfl rfl rfl ag29 (box_cell hs (k := 2) rfl rfl) fun a hk => ?_
     refine sm _ rfl hk rfl rfl rfl fun a hk => ?_
     rcases ite_some H with ⟨c25, H⟩ | ⟨_, H⟩
     rotate_left
     ·cases H
     obtain ⟨b26, q27, hAc25⟩ := (v0_0).some_ u11 c25.1 c25.2
     refine si rfl hk rfl rfl rfl rfl un29 sz3 c25.1 c25.2 hAc25 fun a hk => ?_
     obtain ⟨_, rfl, e28⟩ := (v0_0).at_ 0 u11 c25.1 c25.2
     refine sl (v := (.int .i64 (x0.Values.getD u11.toNat 0))) rfl hk rfl rfl rfl ag3 ((e28 0 _ rfl).cell (hs.hasD (k := 1) rfl)) fun a hk => ?_
     obtain ⟨y29, h30, H⟩ := bind_some H
     refine sc rfl en39 hk rfl rfl rfl (spec_l00Digits_t _ (x0.Values.getD u11.toNat 0) _ h30) ?_
     rintro _ w ⟨rfl, hG⟩ a hk
     have hs := hs.call0 hG
     rcases ite_some H with ⟨c31, H⟩ | ⟨_, H⟩
     rotate_left
     ·cases H
     refine ssa rfl hk rfl rfl rfl rfl c31 fun a hk => ?_
     rcases ite_some H with ⟨c32, H⟩ | ⟨_, H⟩
     rotate_left
     ·cases H
     refine ssa rfl hk rfl rfl rfl rfl c32 fun a hk => ?_
     refine sa _ rfl hk rfl rfl rfl fun a hk => ?_
     show wpList _ _ _ [] _ _
     refine wpList_nil ?_
     refine hK24 _ _ ?_
     apply wp_region_lit
     refine sm _ rfl hk rfl rfl rfl fun a hk => ?_
     refine sv (.int .i64 (w64 (u11 + 1))) hk rfl rfl rfl fun a hk => ?_
     refine sa _ rfl hk rfl rfl rfl fun a hk => ?_
     show wpList _ _ _ [] _ _
     refine wpList_nil ?_
     obtain rfl := Option.some.inj H
     obtain ⟨m33, hmm33, h20⟩ := h20
     show ∃ n', n' < _ ∧ I17 n' _ _
     refine ⟨m33, hmm33, ?_⟩
     rw [hI17]
     exact ⟨(u10 ++ ((⟨#[32]⟩ : ByteArray) ++ y29)), (w64 (u11 + 1)), h20, (hk.c 1 rfl (hk.c 3 rfl (hk.c 4 rfl hk.k))), (hs.pick [(2, 2)] rfl)⟩
    ·have hk := hk.lit 12 c23 rfl
     refine cnd_false hk rfl rfl ?_
     refine wp_exit ?_
     obtain rfl := Option.some.inj H
     show R16 _ _
     rw [hR16]
     exact ⟨u10, h20.symm, (hk.c 3 rfl hk.k), (hs.pick [] rfl)⟩
  ·intro a w hR0
   rw [hR16] at hR0
   obtain ⟨u12, rfl, hk, hs⟩ := hR0
   have H := HL15
   try dsimp only at H
   refine hK6 _ _ ?_
   have hs := hs.pick [] rfl
   apply wp_seq_k; intro K34 hK34
   apply wp_region_lit
   refine sm _ rfl hk rfl rfl rfl fun a hk => ?_
   refine sa _ rfl hk rfl rfl rfl fun a hk => ?_
   show wpList _ _ _ [] _ _
   refine wpList_nil ?_
   refine hK34 _ _ ?_
   refine wp_ret ?_
   obtain rfl := Option.some.inj H
   exact fin hk _ [(.string u12)] rfl ⟨rfl, trivial⟩ ⟨rfl, (hs.pick [] rfl).dnil⟩

noncomputable def spec_ResultText.f (x0 : S_Result) : Option (ByteArray × Int) :=
  ((spec_l10ResultOK.f x0).bind fun y5 => (bif (!y5) then (some ((⟨#[]⟩ : ByteArray), 1)) else ((spec_l10Text.f x0).bind fun y10 => (some (y10, 0)))))
set_option maxRecDepth 100000 in
set_option maxHeartbeats 0 in
theorem spec_ResultText_t (w0 : World) (x0 : S_Result) (A0_0 : Option Addr) (p0_0 : Nat) (k0_0 : Chunk) (v0_0 : View (Lay.int .i64) A0_0 p0_0 x0.Values k0_0) (w0_0 : Has w0 k0_0) (r : ByteArray × Int) (H : spec_ResultText.f x0 = some r) :
    Calls Tryd.prog 10 #[.agg #[.int .i64 x0.Code, .slice A0_0 x0.Values.length p0_0]] w0 (Ret (fun v w => v = .tuple #[.string r.1, .int .i64 r.2] ∧ Sat [] w0 w [] [])) := by
  have hs : Sat [] w0 w0 [(1, k0_0)] [] := Sat.init w0 [(1, k0_0)] [] (by simp only [List.mem_cons, List.not_mem_nil, or_false]; rintro x (rfl) <;> assumption) (by simp) List.nodup_nil (by simp [blks])
  unfold spec_ResultText.f at H
  refine enter Tryd.func10 rfl Tryd.ntmps10 rfl fun a hk => ?_
  apply wp_seq_k; intro K1 hK1
  apply wp_region_lit
  refine sbx 2 hs rfl hk rfl rfl rfl rfl fun b2 w a hk hs => ?_
  refine sa _ rfl hk rfl rfl rfl fun a hk => ?_
  refine sa _ rfl hk rfl rfl rfl fun a hk => ?_
  show wpList _ _ _ [] _ _
  refine wpList_nil ?_
  refine hK1 _ _ ?_
  apply wp_seq_k; intro K3 hK3
  apply wp_seq_k; intro K4 hK4
  apply wp_region_lit
  refine sln [.int .i64 x0.Code, .slice A0_0 x0.Values.length p0_0] rfl hk rfl rfl rfl ag34 sz34 (box_cells hs (k := 2) rfl) fun a hk => ?_
  obtain ⟨y5, h6, H⟩ := bind_some H
  refine sc rfl en24 hk rfl rfl rfl (spec_l10ResultOK_t _ x0 A0_0 p0_0 _ v0_0 (hs.hasD (k := 1) rfl) _ h6) ?_
  rintro _ w ⟨rfl, hG⟩ a hk
  have hs := hs.call0 hG
  refine sv (.bool (!y5)) hk rfl rfl rfl fun a hk => ?_
  show wpList _ _ _ [] _ _
  refine wpList_nil ?_
  refine hK4 _ _ ?_
  rcases cond_some H with ⟨c7, H⟩ | ⟨c7, H⟩
  ·have hk := hk.lit 6 c7 rfl
   refine cnd_true hk rfl rfl ?_
   apply wp_seq_k; intro K8 hK8
   apply wp_region_lit
   refine sa _ rfl hk rfl rfl rfl fun a hk => ?_
   refine sa _ rfl hk rfl rfl rfl fun a hk => ?_
   show wpList _ _ _ [] _ _
   refine wpList_nil ?_
   refine hK8 _ _ ?_
   refine wp_ret ?_
   obtain rfl := Option.some.inj H
   exact fin hk _ [(.string (⟨#[]⟩ : ByteArray)), (.int .i64 1)] rfl ⟨rfl, ⟨rfl, trivial⟩⟩ ⟨rfl, (hs.pick [] rfl).dnil⟩
  ·have hk := hk.lit 6 c7 rfl
   refine cnd_false hk rfl rfl ?_
   refine wp_skip ?_
   refine hK3 _ _ ?_
   apply wp_seq_k; intro K9 hK9
   apply wp_region_lit
   refine sln [.int .i64 x0.Code, .slice A0_0 x0.Values.length p0_0] rfl hk rfl rfl rfl ag34 sz34 (box_cells hs (k := 2) rfl) fun a hk => ?_
   obtain ⟨y10, h11, H⟩ := bind_some H
   refine sc rfl en25 hk rfl rfl rfl (spec_l10Text_t _ x0 A0_0 p0_0 _ v0_0 (hs.hasD (k := 1) rfl) _ h11) ?_
   rintro _ w ⟨rfl, hG⟩ a hk
   have hs := hs.call0 hG
   refine sa _ rfl hk rfl rfl rfl fun a hk => ?_
   refine sa _ rfl hk rfl rfl rfl fun a hk => ?_
   show wpList _ _ _ [] _ _
   refine wpList_nil ?_
   refine hK9 _ _ ?_
   have hs := hs.pick [] rfl
   refine wp_ret ?_
   obtain rfl := Option.some.inj H
   exact fin hk _ [(.string y10), (.int .i64 0)] rfl ⟨rfl, ⟨rfl, trivial⟩⟩ ⟨rfl, (hs.pick [] rfl).dnil⟩

noncomputable def laws_toIntS.s0 (l0 : List Int) (u12 : List Int) (u16 : Int) : Option (((List Int) × Int) ⊕ Ex ((List Int)) ((List Int))) :=
  (bif (decide (u16 < (l0.length : Int))) then (if 0 ≤ u16 ∧ u16 < (l0.length : Int) then (if 0 ≤ u16 ∧ u16 < ((((l0.length : Int)).toNat) : Int) then (some (.inl ((u12.set u16.toNat (l0.getD u16.toNat 0)), (w64 (u16 + 1))))) else none) else none) else (some (.inr (.out u12))))
noncomputable def laws_toIntS.f (l0 : List Int) : Option ((List Int)) :=
  (if 0 ≤ (l0.length : Int) ∧ (l0.length : Int) ≤ 1073741824 then ((loopO (fun s => laws_toIntS.s0 l0 s.1 s.2) ((List.replicate ((l0.length : Int)).toNat (0 : Int)), 0)).bind fun o => match o with | .out u17 => (some u17) | .ret r => (some r)) else none)
set_option maxRecDepth 100000 in
set_option maxHeartbeats 0 in
theorem laws_toIntS_t (w0 : World) (A0_ : Option Addr) (p0_ : Nat) (l0 : List Int) (k0_ : Chunk) (v0_ : View (Lay.int .i64) A0_ p0_ l0 k0_) (w0_ : Has w0 k0_) (r : (List Int)) (H : laws_toIntS.f l0 = some r) :
    Calls Tryd.prog 26 #[.slice A0_ l0.length p0_] w0 (Ret (fun v w => ∃ (A0 : Option Addr) (p0 : Nat) (k0 : Chunk), v = .slice A0 r.length p0 ∧ Own (Lay.int .i64) 3 A0 p0 r k0 ∧ Sat [] w0 w [] [(0, k0)])) := by
  have hs : Sat [] w0 w0 [(1, k0_)] [] := Sat.init w0 [(1, k0_)] [] (by simp only [List.mem_cons, List.not_mem_nil, or_false]; rintro x (rfl) <;> assumption) (by simp) List.nodup_nil (by simp [blks])
  unfold laws_toIntS.f at H
  refine enter Tryd.func26 rfl Tryd.ntmps26 rfl fun a hk => ?_
  apply wp_seq_k; intro K1 hK1
  apply wp_region_lit
  refine sa _ rfl hk rfl rfl rfl fun a hk => ?_
  show wpList _ _ _ [] _ _
  refine wpList_nil ?_
  refine hK1 _ _ ?_
  apply wp_seq_k; intro K2 hK2
  apply wp_region_lit
  refine sm _ rfl hk rfl rfl rfl fun a hk => ?_
  refine sle rfl hk rfl rfl rfl un29 fun a hk => ?_
  rcases ite_some H with ⟨c3, H⟩ | ⟨_, H⟩
  rotate_left
  ·cases H
  refine smk 2 (Lay.int .i64) hs rfl hk rfl rfl rfl rfl un29 mk3 lz3 rfl rfl c3.1 c3.2 fun b4 k5 w a hk o6 hs => ?_
  have lh7 : (List.replicate ((l0.length : Int)).toNat (0 : Int)).length = ((l0.length : Int)).toNat := List.length_replicate
  refine sa _ rfl hk rfl rfl rfl fun a hk => ?_
  show wpList _ _ _ [] _ _
  refine wpList_nil ?_
  refine hK2 _ _ ?_
  apply wp_seq_k; intro K8 hK8
  apply wp_seq_k; intro K9 hK9
  apply wp_region_lit
  refine sa _ rfl hk rfl rfl rfl fun a hk => ?_
  show wpList _ _ _ [] _ _
  refine wpList_nil ?_
  refine hK9 _ _ ?_
  obtain ⟨o21, h22, HL23⟩ := bind_some H
  clear H
  obtain ⟨R24, hR24⟩ : ∃ R : Act → World → Prop, R = fun a w => ∃ (u17 : List Int) (k18 : Chunk), o21 = .out u17 ∧ Kn [(3, (.slice (some ⟨b4, 0, none⟩) (((l0.length : Int)).toNat) (((l0.length : Int)).toNat)))] 22 a ∧ Sat [] w0 w [(1, k0_)] [(2, k18)] ∧ Own (Lay.int .i64) 3 (some ⟨b4, 0, none⟩) (((l0.length : Int)).toNat) u17 k18 ∧ u17.length = (((l0.length : Int)).toNat) := ⟨_, rfl⟩
  refine wp_cutq R24 ?_ ?_
  ·refine wp_block ?_
   obtain ⟨fu26, h22⟩ := loopO_some h22
   obtain ⟨I25, hI25⟩ : ∃ I : Nat → Act → World → Prop, I = fun fu a w => ∃ (u12 : List Int) (u16 : Int) (k13 : Chunk), loopN (fun s => laws_toIntS.s0 l0 s.1 s.2) fu (u12, u16) = some o21 ∧ Kn [(0, (.slice A0_ l0.length p0_)), (3, (.slice (some ⟨b4, 0, none⟩) (((l0.length : Int)).toNat) (((l0.length : Int)).toNat))), (4, (.int .i64 u16))] 22 a ∧ Sat [] w0 w [(1, k0_)] [(2, k13)] ∧ Own (Lay.int .i64) 3 (some ⟨b4, 0, none⟩) (((l0.length : Int)).toNat) u12 k13 ∧ u12.length = (((l0.length : Int)).toNat) := ⟨_, rfl⟩
   refine wp_loop_ghost I25 fu26 ?_ ?_
   ·rw [hI25]
    exact ⟨(List.replicate ((l0.length : Int)).toNat (0 : Int)), 0, _, h22, (hk.c 0 rfl (hk.c 3 rfl (hk.c 4 rfl hk.k))), (hs.pick [(2, 2)] rfl), o6, lh7⟩
   ·clear h22 hk hs
    intro fu26 a w hI0
    rw [hI25] at hI0
    obtain ⟨u12, u16, k13, hi, hk, hs, o14, lh15⟩ := hI0
    obtain ⟨x27, H, h28⟩ := loop_round hi
    try dsimp only at H
    unfold laws_toIntS.s0 at H
    apply wp_seq_k; intro K29 hK29
    apply wp_seq_k; intro K30 hK30
    apply wp_region_lit
    refine sm _ rfl hk rfl rfl rfl fun a hk => ?_
    refine sm _ rfl hk rfl rfl rfl fun a hk => ?_
    refine sle rfl hk rfl rfl rfl un29 fun a hk => ?_
    refine sv (.bool (decide (u16 < (l0.length : Int)))) hk rfl rfl rfl fun a hk => ?_
    show wpList _ _ _ [] _ _
    refine wpList_nil ?_
    refine hK30 _ _ ?_
    have hs := hs.pick [(2, 2)] rfl
    rcases cond_some H with ⟨c31, H⟩ | ⟨c31, H⟩
    ·have hk := hk.lit 11 c31 rfl
     refine cnd_true hk rfl rfl ?_
     refine wp_skip ?_
     refine hK29 _ _ ?_
     apply wp_seq_k; intro K32 hK32
     refine wp_block ?_
     apply wp_region_lit
     refine sm _ rfl hk rfl rfl rfl fun a hk => ?_
     refine sm _ rfl hk rfl rfl rfl fun a hk => ?_
     refine sm _ rfl hk rfl rfl rfl fun a hk => ?_
     refine sm _ rfl hk rfl rfl rfl fun a hk => ?_
     rcases ite_some H with ⟨c33, H⟩ | ⟨_, H⟩
     rotate_left
     ·cases H
     obtain ⟨b34, q35, hAc33⟩ := (v0_).some_ u16 c33.1 c33.2
     refine si rfl hk rfl rfl rfl rfl un29 sz3 c33.1 c33.2 hAc33 fun a hk => ?_
     obtain ⟨_, rfl, e36⟩ := (v0_).at_ 0 u16 c33.1 c33.2
     refine sl (v := (.int .i64 (l0.getD u16.toNat 0))) rfl hk rfl rfl rfl ag3 ((e36 0 _ rfl).cell (hs.hasD (k := 1) rfl)) fun a hk => ?_
     rcases ite_some H with ⟨c37, H⟩ | ⟨_, H⟩
     rotate_left
     ·cases H
     obtain ⟨b38, q39, hAc37⟩ := (o14.view).some_ u16 c37.1 (by rw [lh15]; exact c37.2)
     refine si rfl hk rfl rfl rfl rfl un29 sz3 c37.1 c37.2 hAc37 fun a hk => ?_
     refine so (j := 0) 2 0 (l0.getD u16.toNat 0) hs rfl o14 c37.1 (by rw [lh15]; exact c37.2) rfl hk rfl rfl rfl rfl rfl sz3 (by simp [Value.cells, Value.oneCell']) (Nat.le_of_ble_eq_true rfl) (fun _ _ h => ⟨by rw [h.1]; rfl, h.2⟩) fun k40 w a hk o41 hs => ?_
     have lh42 : (u12.set u16.toNat (l0.getD u16.toNat 0)).length = (((l0.length : Int)).toNat) := by rw [List.length_set]; exact lh15
     show wpList _ _ _ [] _ _
     refine wpList_nil ?_
     refine hK32 _ _ ?_
     apply wp_region_lit
     refine sm _ rfl hk rfl rfl rfl fun a hk => ?_
     refine sv (.int .i64 (w64 (u16 + 1))) hk rfl rfl rfl fun a hk => ?_
     refine sa _ rfl hk rfl rfl rfl fun a hk => ?_
     show wpList _ _ _ [] _ _
     refine wpList_nil ?_
     obtain rfl := Option.some.inj H
     obtain ⟨m43, hmm43, h28⟩ := h28
     show ∃ n', n' < _ ∧ I25 n' _ _
     refine ⟨m43, hmm43, ?_⟩
     rw [hI25]
     exact ⟨(u12.set u16.toNat (l0.getD u16.toNat 0)), (w64 (u16 + 1)), _, h28, (hk.c 0 rfl (hk.c 3 rfl (hk.c 4 rfl hk.k))), (hs.pick [(2, 2)] rfl), o41, lh42⟩
    ·have hk := hk.lit 11 c31 rfl
     refine cnd_false hk rfl rfl ?_
     refine wp_exit ?_
     obtain rfl := Option.some.inj H
     show R24 _ _
     rw [hR24]
     exact ⟨u12, _, h28.symm, (hk.c 3 rfl hk.k), (hs.pick [(2, 2)] rfl), o14, lh15⟩
  ·intro a w hR0
   rw [hR24] at hR0
   obtain ⟨u17, k18, rfl, hk, hs, o19, lh20⟩ := hR0
   have H := HL23
   try dsimp only at H
   refine hK8 _ _ ?_
   have hs := hs.pick [(2, 2)] rfl
   apply wp_seq_k; intro K44 hK44
   apply wp_region_lit
   refine sm _ rfl hk rfl rfl rfl fun a hk => ?_
   refine sa _ rfl hk rfl rfl rfl fun a hk => ?_
   show wpList _ _ _ [] _ _
   refine wpList_nil ?_
   refine hK44 _ _ ?_
   refine wp_ret ?_
   obtain rfl := Option.some.inj H
   exact fin hk _ [(.slice (some ⟨b4, 0, none⟩) (((l0.length : Int)).toNat) (((l0.length : Int)).toNat))] rfl ⟨rfl, trivial⟩ ⟨(some ⟨b4, 0, none⟩), (((l0.length : Int)).toNat), _, (by first | (rw [lh20]; done) | (rw [lh20]; rfl)), o19, (hs.pick [(0, 2)] rfl).dnil⟩

noncomputable def laws_toResult.f (x0 : S_Result) : Option (S_Result) :=
  ((laws_toIntS.f x0.Values).bind fun y8 => (some (⟨x0.Code, y8⟩ : S_Result)))
set_option maxRecDepth 100000 in
set_option maxHeartbeats 0 in
theorem laws_toResult_t (w0 : World) (x0 : S_Result) (A0_0 : Option Addr) (p0_0 : Nat) (k0_0 : Chunk) (v0_0 : View (Lay.int .i64) A0_0 p0_0 x0.Values k0_0) (w0_0 : Has w0 k0_0) (r : S_Result) (H : laws_toResult.f x0 = some r) :
    Calls Tryd.prog 11 #[.agg #[.int .i64 x0.Code, .slice A0_0 x0.Values.length p0_0]] w0 (Ret (fun v w => ∃ (A0 : Option Addr) (p0 : Nat) (k0 : Chunk), v = .agg #[.int .i64 r.Code, .slice A0 r.Values.length p0] ∧ Own (Lay.int .i64) 3 A0 p0 r.Values k0 ∧ Sat [] w0 w [] [(0, k0)])) := by
  have hs : Sat [] w0 w0 [(1, k0_0)] [] := Sat.init w0 [(1, k0_0)] [] (by simp only [List.mem_cons, List.not_mem_nil, or_false]; rintro x (rfl) <;> assumption) (by simp) List.nodup_nil (by simp [blks])
  unfold laws_toResult.f at H
  refine enter Tryd.func11 rfl Tryd.ntmps11 rfl fun a hk => ?_
  apply wp_seq_k; intro K1 hK1
  apply wp_region_lit
  refine sbx 2 hs rfl hk rfl rfl rfl rfl fun b2 w a hk hs => ?_
  refine salx 3 hs rfl hk rfl rfl ze34 rfl fun b3 w a hk hs => ?_
  show wpList _ _ _ [] _ _
  refine wpList_nil ?_
  refine hK1 _ _ ?_
  apply wp_seq_k; intro K4 hK4
  apply wp_region_lit
  refine salx 4 hs rfl hk rfl rfl ze34 rfl fun b5 w a hk hs => ?_
  show wpList _ _ _ [] _ _
  refine wpList_nil ?_
  refine hK4 _ _ ?_
  apply wp_seq_k; intro K6 hK6
  apply wp_region_lit
  refine sf ⟨b2, 0, none⟩ rfl hk rfl rfl rfl fd31_0 rfl fun a hk => ?_
  refine sl rfl hk rfl rfl rfl ag3 (box_cell hs (k := 2) rfl rfl) fun a hk => ?_
  refine sf ⟨b5, 0, none⟩ rfl hk rfl rfl rfl fd34_0 rfl fun a hk => ?_
  refine ssx (cs' := #[.int .i64 x0.Code, .slice none 0 0]) 4 hs rfl rfl hk rfl rfl rfl rfl sz3 rfl rfl rfl rfl fun w a hk hs => ?_
  show wpList _ _ _ [] _ _
  refine wpList_nil ?_
  refine hK6 _ _ ?_
  apply wp_seq_k; intro K7 hK7
  apply wp_region_lit
  refine sf ⟨b2, 1, none⟩ rfl hk rfl rfl rfl fd31_1 rfl fun a hk => ?_
  refine sl rfl hk rfl rfl rfl ag29 (box_cell hs (k := 2) rfl rfl) fun a hk => ?_
  obtain ⟨y8, h9, H⟩ := bind_some H
  refine sc rfl en26 hk rfl rfl rfl (laws_toIntS_t _ A0_0 p0_0 x0.Values _ v0_0 (hs.hasD (k := 1) rfl) _ h9) ?_
  rintro _ w ⟨A10, p11, k12, rfl, o13, hG⟩ a hk
  have hs := hs.call0k hG [5] rfl
  refine sf ⟨b5, 1, none⟩ rfl hk rfl rfl rfl fd34_1 rfl fun a hk => ?_
  refine ssx (cs' := #[.int .i64 x0.Code, .slice A10 y8.length p11]) 4 hs rfl rfl hk rfl rfl rfl rfl sz29 rfl rfl rfl rfl fun w a hk hs => ?_
  show wpList _ _ _ [] _ _
  refine wpList_nil ?_
  refine hK7 _ _ ?_
  have hs := hs.pick [(3, 3), (4, 4), (5, 5)] rfl
  apply wp_seq_k; intro K14 hK14
  apply wp_region_lit
  refine sln [.int .i64 x0.Code, .slice A10 y8.length p11] rfl hk rfl rfl rfl ag34 sz34 (box_cells hs (k := 4) rfl) fun a hk => ?_
  refine ssw 3 hs rfl rfl hk rfl rfl rfl rfl sz34 (by simp [Value.oneCell']) rfl fun w a hk hs => ?_
  show wpList _ _ _ [] _ _
  refine wpList_nil ?_
  refine hK14 _ _ ?_
  refine wp_ret ?_
  obtain rfl := Option.some.inj H
  exact fin hk _ [(.agg #[.int .i64 x0.Code, .slice A10 y8.length p11])] rfl ⟨⟨_, rfl, run_loadN ag34 sz34 (box_cells hs (k := 3) rfl)⟩, trivial⟩ ⟨A10, p11, _, rfl, o13, (hs.pick [(0, 5)] rfl).dnil⟩

noncomputable def impl_within.f (x0 : Int) (x1 : Int) (x2 : Int) : Option (Bool) :=
  (((bif (decide (x1 ≤ x0)) then (some (decide (x0 ≤ x2))) else (some false)) : Option (Bool)).bind fun u4 => (some u4))
set_option maxRecDepth 100000 in
set_option maxHeartbeats 0 in
theorem impl_within_t (w0 : World) (x0 : Int) (x1 : Int) (x2 : Int) (r : Bool) (H : impl_within.f x0 x1 x2 = some r) :
    Calls Tryd.prog 40 #[.int .i64 x0, .int .i64 x1, .int .i64 x2] w0 (Ret (fun v w => v = .bool r ∧ Sat [] w0 w [] [])) := by
  have hs : Sat [] w0 w0 [] [] := Sat.init w0 [] [] (by simp) (by simp) List.nodup_nil (by simp [blks])
  unfold impl_within.f at H
  refine enter Tryd.func40 rfl Tryd.ntmps40 rfl fun a hk => ?_
  apply wp_seq_k; intro K1 hK1
  apply wp_region_lit
  refine sa _ rfl hk rfl rfl rfl fun a hk => ?_
  show wpList _ _ _ [] _ _
  refine wpList_nil ?_
  refine hK1 _ _ ?_
  apply wp_seq_k; intro K2 hK2
  obtain ⟨o5, h6, HL7⟩ := bind_some H
  clear H
  obtain ⟨R8, hR8⟩ : ∃ R : Act → World → Prop, R = fun a w => ∃ (u4 : Bool), u4 = o5 ∧ Kn [(6, (.bool u4))] 15 a ∧ Sat [] w0 w [] [] := ⟨_, rfl⟩
  refine wp_cutq R8 ?_ ?_
  ·have H := h6
   apply wp_region_lit
   refine sm _ rfl hk rfl rfl rfl fun a hk => ?_
   refine sm _ rfl hk rfl rfl rfl fun a hk => ?_
   refine sv (.bool (decide (x1 ≤ x0))) hk rfl rfl rfl fun a hk => ?_
   refine sm _ rfl hk rfl rfl rfl fun a hk => ?_
   rcases cond_some H with ⟨c9, H⟩ | ⟨c9, H⟩
   ·have hk := hk.lit 10 c9 rfl
    refine sm _ rfl hk rfl rfl rfl fun a hk => ?_
    refine sm _ rfl hk rfl rfl rfl fun a hk => ?_
    refine sv (.bool (decide (x0 ≤ x2))) hk rfl rfl rfl fun a hk => ?_
    refine sv (.bool (decide (x0 ≤ x2))) hk rfl rfl rfl fun a hk => ?_
    refine sa _ rfl hk rfl rfl rfl fun a hk => ?_
    show wpList _ _ _ [] _ _
    refine wpList_nil ?_
    obtain rfl := Option.some.inj H
    show R8 _ _
    rw [hR8]
    exact ⟨(decide (x0 ≤ x2)), rfl, (hk.c 6 rfl hk.k), (hs.pick [] rfl)⟩
   ·have hk := hk.lit 10 c9 rfl
    refine sk hk rfl rfl rfl fun a hk => ?_
    refine sk hk rfl rfl rfl fun a hk => ?_
    refine sk hk rfl rfl rfl fun a hk => ?_
    refine sv (.bool false) hk rfl rfl rfl fun a hk => ?_
    refine sa _ rfl hk rfl rfl rfl fun a hk => ?_
    show wpList _ _ _ [] _ _
    refine wpList_nil ?_
    obtain rfl := Option.some.inj H
    show R8 _ _
    rw [hR8]
    exact ⟨false, rfl, (hk.c 6 rfl hk.k), (hs.pick [] rfl)⟩
  ·intro a w hR0
   rw [hR8] at hR0
   obtain ⟨u4, rfl, hk, hs⟩ := hR0
   have H := HL7
   try dsimp only at H
   refine hK2 _ _ ?_
   refine wp_ret ?_
   obtain rfl := Option.some.inj H
   exact fin hk _ [(.bool u4)] rfl ⟨rfl, trivial⟩ ⟨rfl, (hs.pick [] rfl).dnil⟩

noncomputable def impl_isValue.f (x0 : Int) : Option (Bool) :=
  ((impl_within.f x0 0 999999).bind fun y3 => (some y3))
set_option maxRecDepth 100000 in
set_option maxHeartbeats 0 in
theorem impl_isValue_t (w0 : World) (x0 : Int) (r : Bool) (H : impl_isValue.f x0 = some r) :
    Calls Tryd.prog 43 #[.int .i64 x0] w0 (Ret (fun v w => v = .bool r ∧ Sat [] w0 w [] [])) := by
  have hs : Sat [] w0 w0 [] [] := Sat.init w0 [] [] (by simp) (by simp) List.nodup_nil (by simp [blks])
  unfold impl_isValue.f at H
  refine enter Tryd.func43 rfl Tryd.ntmps43 rfl fun a hk => ?_
  apply wp_seq_k; intro K1 hK1
  apply wp_region_lit
  refine sa _ rfl hk rfl rfl rfl fun a hk => ?_
  show wpList _ _ _ [] _ _
  refine wpList_nil ?_
  refine hK1 _ _ ?_
  apply wp_seq_k; intro K2 hK2
  apply wp_region_lit
  refine sm _ rfl hk rfl rfl rfl fun a hk => ?_
  obtain ⟨y3, h4, H⟩ := bind_some H
  refine sc rfl en40 hk rfl rfl rfl (impl_within_t _ x0 0 999999 _ h4) ?_
  rintro _ w ⟨rfl, hG⟩ a hk
  have hs := hs.call0 hG
  refine sa _ rfl hk rfl rfl rfl fun a hk => ?_
  show wpList _ _ _ [] _ _
  refine wpList_nil ?_
  refine hK2 _ _ ?_
  refine wp_ret ?_
  obtain rfl := Option.some.inj H
  exact fin hk _ [(.bool y3)] rfl ⟨rfl, trivial⟩ ⟨rfl, (hs.pick [] rfl).dnil⟩

noncomputable def impl_isCode.f (x0 : Int) : Option (Bool) :=
  ((impl_within.f x0 0 19).bind fun y3 => (some y3))
set_option maxRecDepth 100000 in
set_option maxHeartbeats 0 in
theorem impl_isCode_t (w0 : World) (x0 : Int) (r : Bool) (H : impl_isCode.f x0 = some r) :
    Calls Tryd.prog 47 #[.int .i64 x0] w0 (Ret (fun v w => v = .bool r ∧ Sat [] w0 w [] [])) := by
  have hs : Sat [] w0 w0 [] [] := Sat.init w0 [] [] (by simp) (by simp) List.nodup_nil (by simp [blks])
  unfold impl_isCode.f at H
  refine enter Tryd.func47 rfl Tryd.ntmps47 rfl fun a hk => ?_
  apply wp_seq_k; intro K1 hK1
  apply wp_region_lit
  refine sa _ rfl hk rfl rfl rfl fun a hk => ?_
  show wpList _ _ _ [] _ _
  refine wpList_nil ?_
  refine hK1 _ _ ?_
  apply wp_seq_k; intro K2 hK2
  apply wp_region_lit
  refine sm _ rfl hk rfl rfl rfl fun a hk => ?_
  obtain ⟨y3, h4, H⟩ := bind_some H
  refine sc rfl en40 hk rfl rfl rfl (impl_within_t _ x0 0 19 _ h4) ?_
  rintro _ w ⟨rfl, hG⟩ a hk
  have hs := hs.call0 hG
  refine sa _ rfl hk rfl rfl rfl fun a hk => ?_
  show wpList _ _ _ [] _ _
  refine wpList_nil ?_
  refine hK2 _ _ ?_
  refine wp_ret ?_
  obtain rfl := Option.some.inj H
  exact fin hk _ [(.bool y3)] rfl ⟨rfl, trivial⟩ ⟨rfl, (hs.pick [] rfl).dnil⟩

noncomputable def slices_IndexFunc_int_int.s0 (l0 : List Int) (q1 : Int → Option (Bool)) (u6 : Int) : Option ((Int) ⊕ Ex (Unit) (Int)) :=
  (bif (decide (u6 < (l0.length : Int))) then (if 0 ≤ u6 ∧ u6 < (l0.length : Int) then ((q1 (l0.getD u6.toNat 0)).bind fun y25 => (bif y25 then (some (.inr (.ret u6))) else (some (.inl (w64 (u6 + 1)))))) else none) else (some (.inr (.out ()))))
noncomputable def slices_IndexFunc_int_int.f (l0 : List Int) (q1 : Int → Option (Bool)) : Option (Int) :=
  ((loopO (fun s => slices_IndexFunc_int_int.s0 l0 q1 s) 0).bind fun o => match o with | .out _ => (some (-1)) | .ret r => (some r))
set_option maxRecDepth 100000 in
set_option maxHeartbeats 0 in
theorem slices_IndexFunc_int_int_t (w0 : World) (A0_ : Option Addr) (p0_ : Nat) (l0 : List Int) (k0_ : Chunk) (v0_ : View (Lay.int .i64) A0_ p0_ l0 k0_) (w0_ : Has w0 k0_) (f1_ : FuncId) (c1_ : List Value) (e1_ : Enters Tryd.prog f1_) (q1 : Int → Option (Bool)) (k1_ : Chunk) (t1_ : ∀ w, Has w k1_ → ∀ (z0 : Int) (r : Bool), q1 z0 = some r → Calls Tryd.prog f1_ (([.int .i64 z0] : List Value) ++ c1_).toArray w (Ret (fun v w2 => v = .bool r ∧ Sat [] w w2 [] []))) (w1_ : Has w0 k1_) (r : Int) (H : slices_IndexFunc_int_int.f l0 q1 = some r) :
    Calls Tryd.prog 70 #[.slice A0_ l0.length p0_, .func (.func f1_) #[] c1_.toArray] w0 (Ret (fun v w => v = .int .i64 r ∧ Sat [] w0 w [] [])) := by
  have hs : Sat [] w0 w0 [(1, k0_), (2, k1_)] [] := Sat.init w0 [(1, k0_), (2, k1_)] [] (by simp only [List.mem_cons, List.not_mem_nil, or_false]; rintro x (rfl | rfl) <;> assumption) (by simp) List.nodup_nil (by simp [blks])
  unfold slices_IndexFunc_int_int.f at H
  refine enter Tryd.func70 rfl Tryd.ntmps70 rfl fun a hk => ?_
  apply wp_seq_k; intro K1 hK1
  apply wp_region_lit
  refine sa _ rfl hk rfl rfl rfl fun a hk => ?_
  show wpList _ _ _ [] _ _
  refine wpList_nil ?_
  refine hK1 _ _ ?_
  apply wp_seq_k; intro K2 hK2
  apply wp_seq_k; intro K3 hK3
  apply wp_region_lit
  refine sm _ rfl hk rfl rfl rfl fun a hk => ?_
  refine sle rfl hk rfl rfl rfl un29 fun a hk => ?_
  refine sm _ rfl hk rfl rfl rfl fun a hk => ?_
  show wpList _ _ _ [] _ _
  refine wpList_nil ?_
  refine hK3 _ _ ?_
  obtain ⟨o7, h8, HL9⟩ := bind_some H
  clear H
  obtain ⟨R10, hR10⟩ : ∃ R : Act → World → Prop, R = fun a w => o7 = .out () ∧ Kn [] 19 a ∧ Sat [] w0 w [(1, k0_), (2, k1_)] [] := ⟨_, rfl⟩
  refine wp_cutq R10 ?_ ?_
  ·refine wp_block ?_
   obtain ⟨fu12, h8⟩ := loopO_some h8
   obtain ⟨I11, hI11⟩ : ∃ I : Nat → Act → World → Prop, I = fun fu a w => ∃ (u6 : Int), loopN (fun s => slices_IndexFunc_int_int.s0 l0 q1 s) fu u6 = some o7 ∧ Kn [(0, (.slice A0_ l0.length p0_)), (1, (.func (.func f1_) #[] c1_.toArray)), (7, (.int .i64 (l0.length : Int))), (8, (.int .i64 u6))] 19 a ∧ Sat [] w0 w [(1, k0_), (2, k1_)] [] := ⟨_, rfl⟩
   refine wp_loop_ghost I11 fu12 ?_ ?_
   ·rw [hI11]
    exact ⟨0, h8, (hk.c 0 rfl (hk.c 1 rfl (hk.c 7 rfl (hk.c 8 rfl hk.k)))), (hs.pick [] rfl)⟩
   ·clear h8 hk hs
    intro fu12 a w hI0
    rw [hI11] at hI0
    obtain ⟨u6, hi, hk, hs⟩ := hI0
    obtain ⟨x13, H, h14⟩ := loop_round hi
    try dsimp only at H
    unfold slices_IndexFunc_int_int.s0 at H
    apply wp_seq_k; intro K15 hK15
    apply wp_region_lit
    refine sv (.bool (decide (u6 < (l0.length : Int)))) hk rfl rfl rfl fun a hk => ?_
    show wpList _ _ _ [] _ _
    refine wpList_nil ?_
    refine hK15 _ _ ?_
    apply wp_seq_k; intro K16 hK16
    rcases cond_some H with ⟨c17, H⟩ | ⟨c17, H⟩
    ·have hk := hk.lit 9 c17 rfl
     refine cnd_true hk rfl rfl ?_
     refine wp_skip ?_
     refine hK16 _ _ ?_
     have hs := hs.pick [] rfl
     apply wp_seq_k; intro K18 hK18
     refine wp_block ?_
     apply wp_seq_k; intro K19 hK19
     apply wp_region_lit
     refine sm _ rfl hk rfl rfl rfl fun a hk => ?_
     refine sa _ rfl hk rfl rfl rfl fun a hk => ?_
     show wpList _ _ _ [] _ _
     refine wpList_nil ?_
     refine hK19 _ _ ?_
     apply wp_seq_k; intro K20 hK20
     apply wp_region_lit
     refine sm _ rfl hk rfl rfl rfl fun a hk => ?_
     refine sm _ rfl hk rfl rfl rfl fun a hk => ?_
     refine sm _ rfl hk rfl rfl rfl fun a hk => ?_
     rcases ite_some H with ⟨c21, H⟩ | ⟨_, H⟩
     rotate_left
     ·cases H
     obtain ⟨b22, q23, hAc21⟩ := (v0_).some_ u6 c21.1 c21.2
     refine si rfl hk rfl rfl rfl rfl un29 sz3 c21.1 c21.2 hAc21 fun a hk => ?_
     obtain ⟨_, rfl, e24⟩ := (v0_).at_ 0 u6 c21.1 c21.2
     refine sl (v := (.int .i64 (l0.getD u6.toNat 0))) rfl hk rfl rfl rfl ag3 ((e24 0 _ rfl).cell (hs.hasD (k := 1) rfl)) fun a hk => ?_
     obtain ⟨y25, h26, H⟩ := bind_some H
     refine scv (vs := ([(.int .i64 (l0.getD u6.toNat 0))] : List Value) ++ c1_) rfl rfl e1_ hk rfl rfl rfl (t1_ _ (hs.hasD (k := 2) rfl) (l0.getD u6.toNat 0) _ h26) ?_
     rintro _ w ⟨rfl, hG⟩ a hk
     have hs := hs.call0 hG
     show wpList _ _ _ [] _ _
     refine wpList_nil ?_
     refine hK20 _ _ ?_
     rcases cond_some H with ⟨c27, H⟩ | ⟨c27, H⟩
     ·have hk := hk.lit 16 c27 rfl
      refine cnd_true hk rfl rfl ?_
      apply wp_seq_k; intro K28 hK28
      apply wp_region_lit
      refine sm _ rfl hk rfl rfl rfl fun a hk => ?_
      refine sa _ rfl hk rfl rfl rfl fun a hk => ?_
      show wpList _ _ _ [] _ _
      refine wpList_nil ?_
      refine hK28 _ _ ?_
      refine wp_ret ?_
      obtain rfl := Option.some.inj H
      have ho7 := h14
      try dsimp only at ho7
      subst ho7
      have H := HL9
      try dsimp only at H
      obtain rfl := Option.some.inj H
      exact fin hk _ [(.int .i64 u6)] rfl ⟨rfl, trivial⟩ ⟨rfl, (hs.pick [] rfl).dnil⟩
     ·have hk := hk.lit 16 c27 rfl
      refine cnd_false hk rfl rfl ?_
      refine wp_skip ?_
      refine hK18 _ _ ?_
      apply wp_region_lit
      refine sv (.int .i64 (w64 (u6 + 1))) hk rfl rfl rfl fun a hk => ?_
      refine sm _ rfl hk rfl rfl rfl fun a hk => ?_
      show wpList _ _ _ [] _ _
      refine wpList_nil ?_
      obtain rfl := Option.some.inj H
      obtain ⟨m29, hmm29, h14⟩ := h14
      show ∃ n', n' < _ ∧ I11 n' _ _
      refine ⟨m29, hmm29, ?_⟩
      rw [hI11]
      exact ⟨(w64 (u6 + 1)), h14, (hk.c 0 rfl (hk.c 1 rfl (hk.c 7 rfl (hk.c 8 rfl hk.k)))), (hs.pick [] rfl)⟩
    ·have hk := hk.lit 9 c17 rfl
     refine cnd_false hk rfl rfl ?_
     refine wp_exit ?_
     obtain rfl := Option.some.inj H
     show R10 _ _
     rw [hR10]
     exact ⟨h14.symm, hk.k, (hs.pick [] rfl)⟩
  ·intro a w hR0
   rw [hR10] at hR0
   obtain ⟨rfl, hk, hs⟩ := hR0
   have H := HL9
   try dsimp only at H
   refine hK2 _ _ ?_
   apply wp_seq_k; intro K30 hK30
   apply wp_region_lit
   refine sa _ rfl hk rfl rfl rfl fun a hk => ?_
   show wpList _ _ _ [] _ _
   refine wpList_nil ?_
   refine hK30 _ _ ?_
   have hs := hs.pick [] rfl
   refine wp_ret ?_
   obtain rfl := Option.some.inj H
   exact fin hk _ [(.int .i64 (-1))] rfl ⟨rfl, trivial⟩ ⟨rfl, (hs.pick [] rfl).dnil⟩

noncomputable def slices_ContainsFunc_int_int.f (l0 : List Int) (q1 : Int → Option (Bool)) : Option (Bool) :=
  ((slices_IndexFunc_int_int.f l0 q1).bind fun y3 => (some (decide (y3 ≥ 0))))
set_option maxRecDepth 100000 in
set_option maxHeartbeats 0 in
theorem slices_ContainsFunc_int_int_t (w0 : World) (A0_ : Option Addr) (p0_ : Nat) (l0 : List Int) (k0_ : Chunk) (v0_ : View (Lay.int .i64) A0_ p0_ l0 k0_) (w0_ : Has w0 k0_) (f1_ : FuncId) (c1_ : List Value) (e1_ : Enters Tryd.prog f1_) (q1 : Int → Option (Bool)) (k1_ : Chunk) (t1_ : ∀ w, Has w k1_ → ∀ (z0 : Int) (r : Bool), q1 z0 = some r → Calls Tryd.prog f1_ (([.int .i64 z0] : List Value) ++ c1_).toArray w (Ret (fun v w2 => v = .bool r ∧ Sat [] w w2 [] []))) (w1_ : Has w0 k1_) (r : Bool) (H : slices_ContainsFunc_int_int.f l0 q1 = some r) :
    Calls Tryd.prog 59 #[.slice A0_ l0.length p0_, .func (.func f1_) #[] c1_.toArray] w0 (Ret (fun v w => v = .bool r ∧ Sat [] w0 w [] [])) := by
  have hs : Sat [] w0 w0 [(1, k0_), (2, k1_)] [] := Sat.init w0 [(1, k0_), (2, k1_)] [] (by simp only [List.mem_cons, List.not_mem_nil, or_false]; rintro x (rfl | rfl) <;> assumption) (by simp) List.nodup_nil (by simp [blks])
  unfold slices_ContainsFunc_int_int.f at H
  refine enter Tryd.func59 rfl Tryd.ntmps59 rfl fun a hk => ?_
  apply wp_seq_k; intro K1 hK1
  apply wp_region_lit
  refine sa _ rfl hk rfl rfl rfl fun a hk => ?_
  show wpList _ _ _ [] _ _
  refine wpList_nil ?_
  refine hK1 _ _ ?_
  apply wp_seq_k; intro K2 hK2
  apply wp_region_lit
  refine sm _ rfl hk rfl rfl rfl fun a hk => ?_
  refine sm _ rfl hk rfl rfl rfl fun a hk => ?_
  obtain ⟨y3, h4, H⟩ := bind_some H
  refine sc rfl en70 hk rfl rfl rfl (slices_IndexFunc_int_int_t _ A0_ p0_ l0 _ v0_ (hs.hasD (k := 1) rfl) f1_ c1_ e1_ q1 k1_ t1_ (hs.hasD (k := 2) rfl) _ h4) ?_
  rintro _ w ⟨rfl, hG⟩ a hk
  have hs := hs.call0 hG
  refine sv (.bool (decide (y3 ≥ 0))) hk rfl rfl rfl fun a hk => ?_
  refine sa _ rfl hk rfl rfl rfl fun a hk => ?_
  show wpList _ _ _ [] _ _
  refine wpList_nil ?_
  refine hK2 _ _ ?_
  refine wp_ret ?_
  obtain rfl := Option.some.inj H
  exact fin hk _ [(.bool (decide (y3 ≥ 0)))] rfl ⟨rfl, trivial⟩ ⟨rfl, (hs.pick [] rfl).dnil⟩

noncomputable def impl_areAll_int__c1.f (x0 : Int) (q1 : Int → Option (Bool)) : Option (Bool) :=
  ((q1 x0).bind fun y3 => (some (!y3)))
set_option maxRecDepth 100000 in
set_option maxHeartbeats 0 in
theorem impl_areAll_int__c1_t (w0 : World) (x0 : Int) (b1_ : Nat) (f1_ : FuncId) (c1_ : List Value) (e1_ : Enters Tryd.prog f1_) (q1 : Int → Option (Bool)) (k1_ : Chunk) (t1_ : ∀ w, Has w k1_ → ∀ (z0 : Int) (r : Bool), q1 z0 = some r → Calls Tryd.prog f1_ (([.int .i64 z0] : List Value) ++ c1_).toArray w (Ret (fun v w2 => v = .bool r ∧ Sat [] w w2 [] []))) (w1_ : Has w0 k1_) (h1_ : Has w0 [(b1_, .cells #[.func (.func f1_) #[] c1_.toArray] 67 (0, 0))]) (r : Bool) (H : impl_areAll_int__c1.f x0 q1 = some r) :
    Calls Tryd.prog 60 #[.int .i64 x0, .pointer (some ⟨b1_, 0, none⟩)] w0 (Ret (fun v w => v = .bool r ∧ Sat [] w0 w [] [])) := by
  have hs : Sat [] w0 w0 [(2, k1_), (1, [(b1_, .cells #[.func (.func f1_) #[] c1_.toArray] 67 (0, 0))])] [] := Sat.init w0 [(2, k1_), (1, [(b1_, .cells #[.func (.func f1_) #[] c1_.toArray] 67 (0, 0))])] [] (by simp only [List.mem_cons, List.not_mem_nil, or_false]; rintro x (rfl | rfl) <;> assumption) (by simp) List.nodup_nil (by simp [blks])
  unfold impl_areAll_int__c1.f at H
  refine enter Tryd.func60 rfl Tryd.ntmps60 rfl fun a hk => ?_
  apply wp_seq_k; intro K1 hK1
  apply wp_region_lit
  refine sa _ rfl hk rfl rfl rfl fun a hk => ?_
  show wpList _ _ _ [] _ _
  refine wpList_nil ?_
  refine hK1 _ _ ?_
  apply wp_seq_k; intro K2 hK2
  apply wp_region_lit
  refine sl rfl hk rfl rfl rfl ag67 (box_cellD hs (k := 1) rfl rfl) fun a hk => ?_
  refine sm _ rfl hk rfl rfl rfl fun a hk => ?_
  obtain ⟨y3, h4, H⟩ := bind_some H
  refine scv (vs := ([(.int .i64 x0)] : List Value) ++ c1_) rfl rfl e1_ hk rfl rfl rfl (t1_ _ (hs.hasD (k := 2) rfl) x0 _ h4) ?_
  rintro _ w ⟨rfl, hG⟩ a hk
  have hs := hs.call0 hG
  refine sv (.bool (!y3)) hk rfl rfl rfl fun a hk => ?_
  refine sa _ rfl hk rfl rfl rfl fun a hk => ?_
  show wpList _ _ _ [] _ _
  refine wpList_nil ?_
  refine hK2 _ _ ?_
  refine wp_ret ?_
  obtain rfl := Option.some.inj H
  exact fin hk _ [(.bool (!y3))] rfl ⟨rfl, trivial⟩ ⟨rfl, (hs.pick [] rfl).dnil⟩

noncomputable def impl_areAll_int.f (l0 : List Int) (q1 : Int → Option (Bool)) : Option (Bool) :=
  ((slices_ContainsFunc_int_int.f l0 (fun z0 => impl_areAll_int__c1.f z0 q1)).bind fun y4 => (some (!y4)))
set_option maxRecDepth 100000 in
set_option maxHeartbeats 0 in
theorem impl_areAll_int_t (w0 : World) (A0_ : Option Addr) (p0_ : Nat) (l0 : List Int) (k0_ : Chunk) (v0_ : View (Lay.int .i64) A0_ p0_ l0 k0_) (w0_ : Has w0 k0_) (f1_ : FuncId) (c1_ : List Value) (e1_ : Enters Tryd.prog f1_) (q1 : Int → Option (Bool)) (k1_ : Chunk) (t1_ : ∀ w, Has w k1_ → ∀ (z0 : Int) (r : Bool), q1 z0 = some r → Calls Tryd.prog f1_ (([.int .i64 z0] : List Value) ++ c1_).toArray w (Ret (fun v w2 => v = .bool r ∧ Sat [] w w2 [] []))) (w1_ : Has w0 k1_) (r : Bool) (H : impl_areAll_int.f l0 q1 = some r) :
    Calls Tryd.prog 48 #[.slice A0_ l0.length p0_, .func (.func f1_) #[] c1_.toArray] w0 (Ret (fun v w => v = .bool r ∧ Sat [] w0 w [] [])) := by
  have hs : Sat [] w0 w0 [(1, k0_), (2, k1_)] [] := Sat.init w0 [(1, k0_), (2, k1_)] [] (by simp only [List.mem_cons, List.not_mem_nil, or_false]; rintro x (rfl | rfl) <;> assumption) (by simp) List.nodup_nil (by simp [blks])
  unfold impl_areAll_int.f at H
  refine enter Tryd.func48 rfl Tryd.ntmps48 rfl fun a hk => ?_
  apply wp_seq_k; intro K1 hK1
  apply wp_region_lit
  refine sbx 3 hs rfl hk rfl rfl rfl rfl fun b2 w a hk hs => ?_
  refine sa _ rfl hk rfl rfl rfl fun a hk => ?_
  show wpList _ _ _ [] _ _
  refine wpList_nil ?_
  refine hK1 _ _ ?_
  apply wp_seq_k; intro K3 hK3
  apply wp_region_lit
  refine sm _ rfl hk rfl rfl rfl fun a hk => ?_
  refine smf (cs := [.pointer (some ⟨b2, 0, none⟩)]) rfl hk rfl rfl rfl fun a hk => ?_
  obtain ⟨y4, h5, H⟩ := bind_some H
  refine sc rfl en59 hk rfl rfl rfl (slices_ContainsFunc_int_int_t _ A0_ p0_ l0 _ v0_ (hs.hasD (k := 1) rfl) 60 [.pointer (some ⟨b2, 0, none⟩)] en60 (fun z0 => impl_areAll_int__c1.f z0 q1) ([(b2, .cells #[.func (.func f1_) #[] c1_.toArray] 67 (0, 0))] ++ k1_) (fun w hz z0 r h => impl_areAll_int__c1_t w z0 _ f1_ c1_ e1_ q1 k1_ t1_ (Has.right hz) (Has.left hz) r h) (Has.app (hs.hasG (k := 3) rfl) (hs.hasD (k := 2) rfl)) _ h5) ?_
  rintro _ w ⟨rfl, hG⟩ a hk
  have hs := hs.call0 hG
  refine sv (.bool (!y4)) hk rfl rfl rfl fun a hk => ?_
  refine sa _ rfl hk rfl rfl rfl fun a hk => ?_
  show wpList _ _ _ [] _ _
  refine wpList_nil ?_
  refine hK3 _ _ ?_
  refine wp_ret ?_
  obtain rfl := Option.some.inj H
  exact fin hk _ [(.bool (!y4))] rfl ⟨rfl, trivial⟩ ⟨rfl, (hs.pick [] rfl).dnil⟩

noncomputable def impl_isResult.f (x0 : S_Result) : Option (Bool) :=
  ((((impl_isCode.f x0.Code).bind fun y10 => (bif y10 then (bif (decide ((x0.Values.length : Int) ≤ 32)) then ((impl_areAll_int.f x0.Values impl_isValue.f).bind fun y14 => (bif y14 then (bif (x0.Code == 0) then (some true) else (some ((x0.Values.length : Int) == 0))) else (some false))) else (some false)) else (some false))) : Option (Bool)).bind fun u5 => (some u5))
set_option maxRecDepth 100000 in
set_option maxHeartbeats 0 in
theorem impl_isResult_t (w0 : World) (x0 : S_Result) (A0_0 : Option Addr) (p0_0 : Nat) (k0_0 : Chunk) (v0_0 : View (Lay.int .i64) A0_0 p0_0 x0.Values k0_0) (w0_0 : Has w0 k0_0) (r : Bool) (H : impl_isResult.f x0 = some r) :
    Calls Tryd.prog 27 #[.agg #[.int .i64 x0.Code, .slice A0_0 x0.Values.length p0_0]] w0 (Ret (fun v w => v = .bool r ∧ Sat [] w0 w [] [])) := by
  have hs : Sat [] w0 w0 [(1, k0_0)] [] := Sat.init w0 [(1, k0_0)] [] (by simp only [List.mem_cons, List.not_mem_nil, or_false]; rintro x (rfl) <;> assumption) (by simp) List.nodup_nil (by simp [blks])
  unfold impl_isResult.f at H
  refine enter Tryd.func27 rfl Tryd.ntmps27 rfl fun a hk => ?_
  apply wp_seq_k; intro K1 hK1
  apply wp_region_lit
  refine sbx 2 hs rfl hk rfl rfl rfl rfl fun b2 w a hk hs => ?_
  refine sa _ rfl hk rfl rfl rfl fun a hk => ?_
  show wpList _ _ _ [] _ _
  refine wpList_nil ?_
  refine hK1 _ _ ?_
  apply wp_seq_k; intro K3 hK3
  obtain ⟨o6, h7, HL8⟩ := bind_some H
  clear H
  obtain ⟨R9, hR9⟩ : ∃ R : Act → World → Prop, R = fun a w => ∃ (u5 : Bool), u5 = o6 ∧ Kn [(2, (.bool u5))] 28 a ∧ Sat [] w0 w [(1, k0_0)] [] := ⟨_, rfl⟩
  refine wp_cutq R9 ?_ ?_
  ·have H := h7
   apply wp_region_lit
   refine sf ⟨b2, 0, none⟩ rfl hk rfl rfl rfl fd34_0 rfl fun a hk => ?_
   refine sl rfl hk rfl rfl rfl ag3 (box_cell hs (k := 2) rfl rfl) fun a hk => ?_
   obtain ⟨y10, h11, H⟩ := bind_some H
   refine sc rfl en47 hk rfl rfl rfl (impl_isCode_t _ x0.Code _ h11) ?_
   rintro _ w ⟨rfl, hG⟩ a hk
   have hs := hs.call0 hG
   refine sm _ rfl hk rfl rfl rfl fun a hk => ?_
   rcases cond_some H with ⟨c12, H⟩ | ⟨c12, H⟩
   ·have hk := hk.lit 6 c12 rfl
    refine sf ⟨b2, 1, none⟩ rfl hk rfl rfl rfl fd34_1 rfl fun a hk => ?_
    refine sl rfl hk rfl rfl rfl ag29 (box_cell hs (k := 2) rfl rfl) fun a hk => ?_
    refine sle rfl hk rfl rfl rfl un29 fun a hk => ?_
    refine sv (.bool (decide ((x0.Values.length : Int) ≤ 32))) hk rfl rfl rfl fun a hk => ?_
    refine sv (.bool (decide ((x0.Values.length : Int) ≤ 32))) hk rfl rfl rfl fun a hk => ?_
    refine sm _ rfl hk rfl rfl rfl fun a hk => ?_
    rcases cond_some H with ⟨c13, H⟩ | ⟨c13, H⟩
    ·have hk := hk.lit 12 c13 rfl
     refine sf ⟨b2, 1, none⟩ rfl hk rfl rfl rfl fd34_1 rfl fun a hk => ?_
     refine sl rfl hk rfl rfl rfl ag29 (box_cell hs (k := 2) rfl rfl) fun a hk => ?_
     obtain ⟨y14, h15, H⟩ := bind_some H
     refine sc rfl en48 hk rfl rfl rfl (impl_areAll_int_t _ A0_0 p0_0 x0.Values _ v0_0 (hs.hasD (k := 1) rfl) 43 [] en43 impl_isValue.f [] (fun w _ z0 r h => impl_isValue_t w z0 r h) (Has.nil _) _ h15) ?_
     rintro _ w ⟨rfl, hG⟩ a hk
     have hs := hs.call0 hG
     refine sv (.bool y14) hk rfl rfl rfl fun a hk => ?_
     refine sm _ rfl hk rfl rfl rfl fun a hk => ?_
     rcases cond_some H with ⟨c16, H⟩ | ⟨c16, H⟩
     ·have hk := hk.lit 17 c16 rfl
      refine sf ⟨b2, 0, none⟩ rfl hk rfl rfl rfl fd34_0 rfl fun a hk => ?_
      refine sl rfl hk rfl rfl rfl ag3 (box_cell hs (k := 2) rfl rfl) fun a hk => ?_
      refine sv (.bool (x0.Code == 0)) hk rfl rfl rfl fun a hk => ?_
      refine sm _ rfl hk rfl rfl rfl fun a hk => ?_
      rcases cond_some H with ⟨c17, H⟩ | ⟨c17, H⟩
      ·have hk := hk.lit 21 c17 rfl
       refine sk hk rfl rfl rfl fun a hk => ?_
       refine sk hk rfl rfl rfl fun a hk => ?_
       refine sk hk rfl rfl rfl fun a hk => ?_
       refine sk hk rfl rfl rfl fun a hk => ?_
       refine sv (.bool true) hk rfl rfl rfl fun a hk => ?_
       refine sv (.bool true) hk rfl rfl rfl fun a hk => ?_
       refine sa _ rfl hk rfl rfl rfl fun a hk => ?_
       show wpList _ _ _ [] _ _
       refine wpList_nil ?_
       obtain rfl := Option.some.inj H
       show R9 _ _
       rw [hR9]
       exact ⟨true, rfl, (hk.c 2 rfl hk.k), (hs.pick [] rfl)⟩
      ·have hk := hk.lit 21 c17 rfl
       refine sf ⟨b2, 1, none⟩ rfl hk rfl rfl rfl fd34_1 rfl fun a hk => ?_
       refine sl rfl hk rfl rfl rfl ag29 (box_cell hs (k := 2) rfl rfl) fun a hk => ?_
       refine sle rfl hk rfl rfl rfl un29 fun a hk => ?_
       refine sv (.bool ((x0.Values.length : Int) == 0)) hk rfl rfl rfl fun a hk => ?_
       refine sv (.bool ((x0.Values.length : Int) == 0)) hk rfl rfl rfl fun a hk => ?_
       refine sv (.bool ((x0.Values.length : Int) == 0)) hk rfl rfl rfl fun a hk => ?_
       refine sa _ rfl hk rfl rfl rfl fun a hk => ?_
       show wpList _ _ _ [] _ _
       refine wpList_nil ?_
       obtain rfl := Option.some.inj H
       show R9 _ _
       rw [hR9]
       exact ⟨((x0.Values.length : Int) == 0), rfl, (hk.c 2 rfl hk.k), (hs.pick [] rfl)⟩
     ·have hk := hk.lit 17 c16 rfl
      refine sk hk rfl rfl rfl fun a hk => ?_
      refine sk hk rfl rfl rfl fun a hk => ?_
      refine sk hk rfl rfl rfl fun a hk => ?_
      refine sk hk rfl rfl rfl fun a hk => ?_
      refine sk hk rfl rfl rfl fun a hk => ?_
      refine sk hk rfl rfl rfl fun a hk => ?_
      refine sk hk rfl rfl rfl fun a hk => ?_
      refine sk hk rfl rfl rfl fun a hk => ?_
      refine sk hk rfl rfl rfl fun a hk => ?_
      refine sv (.bool false) hk rfl rfl rfl fun a hk => ?_
      refine sa _ rfl hk rfl rfl rfl fun a hk => ?_
      show wpList _ _ _ [] _ _
      refine wpList_nil ?_
      obtain rfl := Option.some.inj H
      show R9 _ _
      rw [hR9]
      exact ⟨false, rfl, (hk.c 2 rfl hk.k), (hs.pick [] rfl)⟩
    ·have hk := hk.lit 12 c13 rfl
     refine sk hk rfl rfl rfl fun a hk => ?_
     refine sk hk rfl rfl rfl fun a hk => ?_
     refine sk hk rfl rfl rfl fun a hk => ?_
     refine sv (.bool false) hk rfl rfl rfl fun a hk => ?_
     refine sm _ rfl hk rfl rfl rfl fun a hk => ?_
     refine sk hk rfl rfl rfl fun a hk => ?_
     refine sk hk rfl rfl rfl fun a hk => ?_
     refine sk hk rfl rfl rfl fun a hk => ?_
     refine sk hk rfl rfl rfl fun a hk => ?_
     refine sk hk rfl rfl rfl fun a hk => ?_
     refine sk hk rfl rfl rfl fun a hk => ?_
     refine sk hk rfl rfl rfl fun a hk => ?_
     refine sk hk rfl rfl rfl fun a hk => ?_
     refine sk hk rfl rfl rfl fun a hk => ?_
     refine sv (.bool false) hk rfl rfl rfl fun a hk => ?_
     refine sa _ rfl hk rfl rfl rfl fun a hk => ?_
     show wpList _ _ _ [] _ _
     refine wpList_nil ?_
     obtain rfl := Option.some.inj H
     show R9 _ _
     rw [hR9]
     exact ⟨false, rfl, (hk.c 2 rfl hk.k), (hs.pick [] rfl)⟩
   ·have hk := hk.lit 6 c12 rfl
    refine sk hk rfl rfl rfl fun a hk => ?_
    refine sk hk rfl rfl rfl fun a hk => ?_
    refine sk hk rfl rfl rfl fun a hk => ?_
    refine sk hk rfl rfl rfl fun a hk => ?_
    refine sv (.bool false) hk rfl rfl rfl fun a hk => ?_
    refine sm _ rfl hk rfl rfl rfl fun a hk => ?_
    refine sk hk rfl rfl rfl fun a hk => ?_
    refine sk hk rfl rfl rfl fun a hk => ?_
    refine sk hk rfl rfl rfl fun a hk => ?_
    refine sv (.bool false) hk rfl rfl rfl fun a hk => ?_
    refine sm _ rfl hk rfl rfl rfl fun a hk => ?_
    refine sk hk rfl rfl rfl fun a hk => ?_
    refine sk hk rfl rfl rfl fun a hk => ?_
    refine sk hk rfl rfl rfl fun a hk => ?_
    refine sk hk rfl rfl rfl fun a hk => ?_
    refine sk hk rfl rfl rfl fun a hk => ?_
    refine sk hk rfl rfl rfl fun a hk => ?_
    refine sk hk rfl rfl rfl fun a hk => ?_
    refine sk hk rfl rfl rfl fun a hk => ?_
    refine sk hk rfl rfl rfl fun a hk => ?_
    refine sv (.bool false) hk rfl rfl rfl fun a hk => ?_
    refine sa _ rfl hk rfl rfl rfl fun a hk => ?_
    show wpList _ _ _ [] _ _
    refine wpList_nil ?_
    obtain rfl := Option.some.inj H
    show R9 _ _
    rw [hR9]
    exact ⟨false, rfl, (hk.c 2 rfl hk.k), (hs.pick [] rfl)⟩
  ·intro a w hR0
   rw [hR9] at hR0
   obtain ⟨u5, rfl, hk, hs⟩ := hR0
   have H := HL8
   try dsimp only at H
   refine hK3 _ _ ?_
   refine wp_ret ?_
   obtain rfl := Option.some.inj H
   exact fin hk _ [(.bool u5)] rfl ⟨rfl, trivial⟩ ⟨rfl, (hs.pick [] rfl).dnil⟩

def itoa_ren : Go.Shelf.Ren := ⟨fun | 171 => 45 | 243 => 58 | 246 => 69 | 283 => 76 | 284 => 77 | 285 => 78 | 286 => 79 | 129 => 84 | 317 => 83 | 318 => 85 | 319 => 86 | 320 => 87 | 337 => 88 | 338 => 89 | n => n, fun | 3 => 3 | 9 => 9 | 2 => 2 | 4 => 4 | 171 => 91 | 0 => 0 | 53 => 92 | 37 => 75 | 5 => 5 | 173 => 95 | 212 => 103 | 51 => 104 | 20 => 20 | 213 => 105 | 46 => 106 | 232 => 109 | 233 => 110 | n => n, fun | 17 => 0 | 18 => 2 | 19 => 3 | n => n⟩
theorem itoa_lays : Go.Proofs.LaysM.n171 Tryd.prog itoa_ren := {
  mixed := by kernel_rfl
  f129 := Tryd.func84.trans (congrArg some (by kernel_rfl))
  f171 := Tryd.func45.trans (congrArg some (by kernel_rfl))
  f243 := Tryd.func58.trans (congrArg some (by kernel_rfl))
  f246 := Tryd.func69.trans (congrArg some (by kernel_rfl))
  f283 := Tryd.func76.trans (congrArg some (by kernel_rfl))
  f284 := Tryd.func77.trans (congrArg some (by kernel_rfl))
  f285 := Tryd.func78.trans (congrArg some (by kernel_rfl))
  f286 := Tryd.func79.trans (congrArg some (by kernel_rfl))
  f317 := Tryd.func83.trans (congrArg some (by kernel_rfl))
  f318 := Tryd.func85.trans (congrArg some (by kernel_rfl))
  f319 := Tryd.func86.trans (congrArg some (by kernel_rfl))
  f320 := Tryd.func87.trans (congrArg some (by kernel_rfl))
  f337 := Tryd.func88.trans (congrArg some (by kernel_rfl))
  f338 := Tryd.func89.trans (congrArg some (by kernel_rfl))
  t0 := Tryd.underlying0
  a0 := Tryd.isAgg0
  z0 := Tryd.sizeOf0
  v0 := Tryd.zeroValue0
  t2 := Tryd.underlying2
  a2 := Tryd.isAgg2
  z2 := Tryd.sizeOf2
  v2 := Tryd.zeroValue2
  t3 := Tryd.underlying3
  a3 := Tryd.isAgg3
  z3 := Tryd.sizeOf3
  v3 := Tryd.zeroValue3
  t4 := Tryd.underlying4
  a4 := Tryd.isAgg4
  z4 := Tryd.sizeOf4
  v4 := Tryd.zeroValue4
  t5 := Tryd.underlying5
  a5 := Tryd.isAgg5
  z5 := Tryd.sizeOf5
  v5 := Tryd.zeroValue5
  t9 := Tryd.underlying9
  a9 := Tryd.isAgg9
  z9 := Tryd.sizeOf9
  v9 := Tryd.zeroValue9
  t20 := Tryd.underlying20
  a20 := Tryd.isAgg20
  z20 := Tryd.sizeOf20
  v20 := Tryd.zeroValue20
  t37 := Tryd.underlying75
  a37 := Tryd.isAgg75
  z37 := Tryd.sizeOf75
  v37 := Tryd.zeroValue75
  t46 := Tryd.underlying106
  a46 := Tryd.isAgg106
  z46 := Tryd.sizeOf106
  v46 := Tryd.zeroValue106
  t51 := Tryd.underlying104
  a51 := Tryd.isAgg104
  z51 := Tryd.sizeOf104
  v51 := Tryd.zeroValue104
  t53 := Tryd.underlying92
  a53 := Tryd.isAgg92
  z53 := Tryd.sizeOf92
  v53 := Tryd.zeroValue92
  t171 := Tryd.underlying91
  a171 := Tryd.isAgg91
  z171 := Tryd.sizeOf91
  v171 := Tryd.zeroValue91
  t173 := Tryd.underlying95
  a173 := Tryd.isAgg95
  z173 := Tryd.sizeOf95
  v173 := Tryd.zeroValue95
  t212 := Tryd.underlying103
  a212 := Tryd.isAgg103
  z212 := Tryd.sizeOf103
  v212 := Tryd.zeroValue103
  t213 := Tryd.underlying105
  a213 := Tryd.isAgg105
  z213 := Tryd.sizeOf105
  t232 := Tryd.underlying109
  a232 := Tryd.isAgg109
  z232 := Tryd.sizeOf109
  v232 := Tryd.zeroValue109
  t233 := Tryd.underlying110
  a233 := Tryd.isAgg110
  z233 := Tryd.sizeOf110
  v233 := Tryd.zeroValue110
  g17 := by kernel_rfl
  g18 := by kernel_rfl
  g19 := by kernel_rfl
  i0 := by kernel_rfl
  i2 := by kernel_rfl
  i3 := by kernel_rfl
  i4 := by kernel_rfl
  i5 := by kernel_rfl
  i9 := by kernel_rfl
  i20 := by kernel_rfl
  i37 := by kernel_rfl
  i46 := by kernel_rfl
  i51 := by kernel_rfl
  i53 := by kernel_rfl
  i171 := by kernel_rfl
  i173 := by kernel_rfl
  i212 := by kernel_rfl
  i232 := by kernel_rfl
  i233 := by kernel_rfl
  m17 := by kernel_rfl
  m18 := by kernel_rfl
  m19 := by kernel_rfl }
open Go.RowKit Go.Sort Go.Lib in
theorem itoa_shelf (n : Int) (h0 : -9223372036854775808 ≤ n) (h1 : n ≤ 9223372036854775807) (w : World) (htab : Lib.TabIs Tryd.prog w "internal/strconv.uint64pow10" .u64 Lib.pow10Tab) :
    Calls Tryd.prog 45 #[.int .i64 n] w fun e w' => e = .returned (.string ⟨(Lib.itoa n).toArray⟩) ∧ ∃ k os, w' = grow (w.drewN k) os := Any.strconv_Itoa itoa_lays n h0 h1 w htab
noncomputable def strconv_Itoa.f (x0 : Int) : Option ByteArray := if -9223372036854775808 ≤ x0 ∧ x0 ≤ 9223372036854775807 then some (itoaB x0) else none
theorem strconv_Itoa_t (w0 : World) (x0 : Int) (kT : Chunk) (tT : TabK Tryd.prog kT) (wT : Has w0 kT) (r : ByteArray) (H : strconv_Itoa.f x0 = some r) :
    Calls Tryd.prog 45 #[.int .i64 x0] w0 (Ret (fun v w => v = .string r ∧ Sat [] w0 w [] [])) := by
  unfold strconv_Itoa.f at H
  rcases ite_some H with ⟨h, H⟩ | ⟨_, H⟩
  rotate_left
  · cases H
  obtain rfl := Option.some.inj H
  refine (itoa_shelf x0 h.1 h.2 w0 (tT _ wT)).mono ?_
  rintro e w' ⟨rfl, k, os, rfl⟩
  exact ⟨_, rfl, rfl, sat_grown _ _ _⟩

noncomputable def impl_codeWords.f  : Option ((List ByteArray)) :=
  (some ([(⟨#[111, 107]⟩ : ByteArray), (⟨#[98, 97, 100]⟩ : ByteArray), (⟨#[108, 111, 110, 103]⟩ : ByteArray), (⟨#[102, 111, 114, 109]⟩ : ByteArray), (⟨#[114, 97, 110, 103, 101]⟩ : ByteArray), (⟨#[110, 111, 110, 101]⟩ : ByteArray), (⟨#[109, 97, 110, 121]⟩ : ByteArray), (⟨#[102, 117, 108, 108]⟩ : ByteArray), (⟨#[115, 105, 122, 101]⟩ : ByteArray), (⟨#[116, 97, 103]⟩ : ByteArray), (⟨#[116, 97, 109, 112, 101, 114, 101, 100]⟩ : ByteArray), (⟨#[116, 111, 114, 110]⟩ : ByteArray), (⟨#[115, 116, 97, 115, 104]⟩ : ByteArray), (⟨#[116, 97, 112, 101]⟩ : ByteArray), (⟨#[99, 104, 101, 99, 107]⟩ : ByteArray), (⟨#[112, 101, 110, 100, 105, 110, 103]⟩ : ByteArray), (⟨#[100, 111, 119, 110]⟩ : ByteArray), (⟨#[117, 112]⟩ : ByteArray), (⟨#[115, 112, 101, 110, 116]⟩ : ByteArray), (⟨#[107, 101, 121]⟩ : ByteArray)]))
set_option maxRecDepth 100000 in
set_option maxHeartbeats 0 in
theorem impl_codeWords_t (w0 : World)  (r : (List ByteArray)) (H : impl_codeWords.f  = some r) :
    Calls Tryd.prog 61 #[] w0 (Ret (fun v w => ∃ (A0 : Option Addr) (p0 : Nat) (k0 : Chunk), v = .slice A0 r.length p0 ∧ Own Lay.str 9 A0 p0 r k0 ∧ Sat [] w0 w [] [(0, k0)])) := by
  have hs : Sat [] w0 w0 [] [] := Sat.init w0 [] [] (by simp) (by simp) List.nodup_nil (by simp [blks])
  unfold impl_codeWords.f at H
  refine enter Tryd.func61 rfl Tryd.ntmps61 rfl fun a hk => ?_
  apply wp_seq_k; intro K1 hK1
  apply wp_region_lit
  refine sa _ rfl hk rfl rfl rfl fun a hk => ?_
  show wpList _ _ _ [] _ _
  refine wpList_nil ?_
  refine hK1 _ _ ?_
  apply wp_seq_k; intro K2 hK2
  apply wp_region_lit
  refine sbs (L := Lay.str) (pv := [(0, (.string (⟨#[111, 107]⟩ : ByteArray))), (1, (.string (⟨#[98, 97, 100]⟩ : ByteArray))), (2, (.string (⟨#[108, 111, 110, 103]⟩ : ByteArray))), (3, (.string (⟨#[102, 111, 114, 109]⟩ : ByteArray))), (4, (.string (⟨#[114, 97, 110, 103, 101]⟩ : ByteArray))), (5, (.string (⟨#[110, 111, 110, 101]⟩ : ByteArray))), (6, (.string (⟨#[109, 97, 110, 121]⟩ : ByteArray))), (7, (.string (⟨#[102, 117, 108, 108]⟩ : ByteArray))), (8, (.string (⟨#[115, 105, 122, 101]⟩ : ByteArray))), (9, (.string (⟨#[116, 97, 103]⟩ : ByteArray))), (10, (.string (⟨#[116, 97, 109, 112, 101, 114, 101, 100]⟩ : ByteArray))), (11, (.string (⟨#[116, 111, 114, 110]⟩ : ByteArray))), (12, (.string (⟨#[115, 116, 97, 115, 104]⟩ : ByteArray))), (13, (.string (⟨#[116, 97, 112, 101]⟩ : ByteArray))), (14, (.string (⟨#[99, 104, 101, 99, 107]⟩ : ByteArray))), (15, (.string (⟨#[112, 101, 110, 100, 105, 110, 103]⟩ : ByteArray))), (16, (.string (⟨#[100, 111, 119, 110]⟩ : ByteArray))), (17, (.string (⟨#[117, 112]⟩ : ByteArray))), (18, (.string (⟨#[115, 112, 101, 110, 116]⟩ : ByteArray))), (19, (.string (⟨#[107, 101, 121]⟩ : ByteArray)))]) (xs := [(⟨#[111, 107]⟩ : ByteArray), (⟨#[98, 97, 100]⟩ : ByteArray), (⟨#[108, 111, 110, 103]⟩ : ByteArray), (⟨#[102, 111, 114, 109]⟩ : ByteArray), (⟨#[114, 97, 110, 103, 101]⟩ : ByteArray), (⟨#[110, 111, 110, 101]⟩ : ByteArray), (⟨#[109, 97, 110, 121]⟩ : ByteArray), (⟨#[102, 117, 108, 108]⟩ : ByteArray), (⟨#[115, 105, 122, 101]⟩ : ByteArray), (⟨#[116, 97, 103]⟩ : ByteArray), (⟨#[116, 97, 109, 112, 101, 114, 101, 100]⟩ : ByteArray), (⟨#[116, 111, 114, 110]⟩ : ByteArray), (⟨#[115, 116, 97, 115, 104]⟩ : ByteArray), (⟨#[116, 97, 112, 101]⟩ : ByteArray), (⟨#[99, 104, 101, 99, 107]⟩ : ByteArray), (⟨#[112, 101, 110, 100, 105, 110, 103]⟩ : ByteArray), (⟨#[100, 111, 119, 110]⟩ : ByteArray), (⟨#[117, 112]⟩ : ByteArray), (⟨#[115, 112, 101, 110, 116]⟩ : ByteArray), (⟨#[107, 101, 121]⟩ : ByteArray)]) (ess := [[.string (⟨#[111, 107]⟩ : ByteArray)], [.string (⟨#[98, 97, 100]⟩ : ByteArray)], [.string (⟨#[108, 111, 110, 103]⟩ : ByteArray)], [.string (⟨#[102, 111, 114, 109]⟩ : ByteArray)], [.string (⟨#[114, 97, 110, 103, 101]⟩ : ByteArray)], [.string (⟨#[110, 111, 110, 101]⟩ : ByteArray)], [.string (⟨#[109, 97, 110, 121]⟩ : ByteArray)], [.string (⟨#[102, 117, 108, 108]⟩ : ByteArray)], [.string (⟨#[115, 105, 122, 101]⟩ : ByteArray)], [.string (⟨#[116, 97, 103]⟩ : ByteArray)], [.string (⟨#[116, 97, 109, 112, 101, 114, 101, 100]⟩ : ByteArray)], [.string (⟨#[116, 111, 114, 110]⟩ : ByteArray)], [.string (⟨#[115, 116, 97, 115, 104]⟩ : ByteArray)], [.string (⟨#[116, 97, 112, 101]⟩ : ByteArray)], [.string (⟨#[99, 104, 101, 99, 107]⟩ : ByteArray)], [.string (⟨#[112, 101, 110, 100, 105, 110, 103]⟩ : ByteArray)], [.string (⟨#[100, 111, 119, 110]⟩ : ByteArray)], [.string (⟨#[117, 112]⟩ : ByteArray)], [.string (⟨#[115, 112, 101, 110, 116]⟩ : ByteArray)], [.string (⟨#[107, 101, 121]⟩ : ByteArray)]]) 1 hs rfl hk rfl rfl rfl un64 (bs9_1 (⟨#[111, 107]⟩ : ByteArray) (⟨#[98, 97, 100]⟩ : ByteArray) (⟨#[108, 111, 110, 103]⟩ : ByteArray) (⟨#[102, 111, 114, 109]⟩ : ByteArray) (⟨#[114, 97, 110, 103, 101]⟩ : ByteArray) (⟨#[110, 111, 110, 101]⟩ : ByteArray) (⟨#[109, 97, 110, 121]⟩ : ByteArray) (⟨#[102, 117, 108, 108]⟩ : ByteArray) (⟨#[115, 105, 122, 101]⟩ : ByteArray) (⟨#[116, 97, 103]⟩ : ByteArray) (⟨#[116, 97, 109, 112, 101, 114, 101, 100]⟩ : ByteArray) (⟨#[116, 111, 114, 110]⟩ : ByteArray) (⟨#[115, 116, 97, 115, 104]⟩ : ByteArray) (⟨#[116, 97, 112, 101]⟩ : ByteArray) (⟨#[99, 104, 101, 99, 107]⟩ : ByteArray) (⟨#[112, 101, 110, 100, 105, 110, 103]⟩ : ByteArray) (⟨#[100, 111, 119, 110]⟩ : ByteArray) (⟨#[117, 112]⟩ : ByteArray) (⟨#[115, 112, 101, 110, 116]⟩ : ByteArray) (⟨#[107, 101, 121]⟩ : ByteArray)) (AllOwn.cons0 ⟨rfl, rfl⟩ (AllOwn.cons0 ⟨rfl, rfl⟩ (AllOwn.cons0 ⟨rfl, rfl⟩ (AllOwn.cons0 ⟨rfl, rfl⟩ (AllOwn.cons0 ⟨rfl, rfl⟩ (AllOwn.cons0 ⟨rfl, rfl⟩ (AllOwn.cons0 ⟨rfl, rfl⟩ (AllOwn.cons0 ⟨rfl, rfl⟩ (AllOwn.cons0 ⟨rfl, rfl⟩ (AllOwn.cons0 ⟨rfl, rfl⟩ (AllOwn.cons0 ⟨rfl, rfl⟩ (AllOwn.cons0 ⟨rfl, rfl⟩ (AllOwn.cons0 ⟨rfl, rfl⟩ (AllOwn.cons0 ⟨rfl, rfl⟩ (AllOwn.cons0 ⟨rfl, rfl⟩ (AllOwn.cons0 ⟨rfl, rfl⟩ (AllOwn.cons0 ⟨rfl, rfl⟩ (AllOwn.cons0 ⟨rfl, rfl⟩ (AllOwn.cons0 ⟨rfl, rfl⟩ (AllOwn.cons0 ⟨rfl, rfl⟩ AllOwn.nil)))))))))))))))))))) rfl rfl rfl fun b3 k4 w a hk o5 hs => ?_
  refine sa _ rfl hk rfl rfl rfl fun a hk => ?_
  show wpList _ _ _ [] _ _
  refine wpList_nil ?_
  refine hK2 _ _ ?_
  refine wp_ret ?_
  obtain rfl := Option.some.inj H
  exact fin hk _ [(.slice (some ⟨b3, 0, none⟩) 20 20)] rfl ⟨rfl, trivial⟩ ⟨(some ⟨b3, 0, none⟩), 20, _, rfl, o5, (hs.pick [(0, 1)] rfl).dnil⟩

noncomputable def impl_CodeWord.f (x0 : Int) : Option (ByteArray) :=
  ((impl_isCode.f x0).bind fun y4 => (bif (!y4) then (some (⟨#[]⟩ : ByteArray)) else ((impl_codeWords.f).bind fun y9 => (if 0 ≤ x0 ∧ x0 < (y9.length : Int) then (some (y9.getD x0.toNat ByteArray.empty)) else none))))
set_option maxRecDepth 100000 in
set_option maxHeartbeats 0 in
theorem impl_CodeWord_t (w0 : World) (x0 : Int) (r : ByteArray) (H : impl_CodeWord.f x0 = some r) :
    Calls Tryd.prog 49 #[.int .i64 x0] w0 (Ret (fun v w => v = .string r ∧ Sat [] w0 w [] [])) := by
  have hs : Sat [] w0 w0 [] [] := Sat.init w0 [] [] (by simp) (by simp) List.nodup_nil (by simp [blks])
  unfold impl_CodeWord.f at H
  refine enter Tryd.func49 rfl Tryd.ntmps49 rfl fun a hk => ?_
  apply wp_seq_k; intro K1 hK1
  apply wp_region_lit
  refine sa _ rfl hk rfl rfl rfl fun a hk => ?_
  show wpList _ _ _ [] _ _
  refine wpList_nil ?_
  refine hK1 _ _ ?_
  apply wp_seq_k; intro K2 hK2
  apply wp_seq_k; intro K3 hK3
  apply wp_region_lit
  refine sm _ rfl hk rfl rfl rfl fun a hk => ?_
  obtain ⟨y4, h5, H⟩ := bind_some H
  refine sc rfl en47 hk rfl rfl rfl (impl_isCode_t _ x0 _ h5) ?_
  rintro _ w ⟨rfl, hG⟩ a hk
  have hs := hs.call0 hG
  refine sv (.bool (!y4)) hk rfl rfl rfl fun a hk => ?_
  show wpList _ _ _ [] _ _
  refine wpList_nil ?_
  refine hK3 _ _ ?_
  rcases cond_some H with ⟨c6, H⟩ | ⟨c6, H⟩
  ·have hk := hk.lit 5 c6 rfl
   refine cnd_true hk rfl rfl ?_
   apply wp_seq_k; intro K7 hK7
   apply wp_region_lit
   refine sa _ rfl hk rfl rfl rfl fun a hk => ?_
   show wpList _ _ _ [] _ _
   refine wpList_nil ?_
   refine hK7 _ _ ?_
   refine wp_ret ?_
   obtain rfl := Option.some.inj H
   exact fin hk _ [(.string (⟨#[]⟩ : ByteArray))] rfl ⟨rfl, trivial⟩ ⟨rfl, (hs.pick [] rfl).dnil⟩
  ·have hk := hk.lit 5 c6 rfl
   refine cnd_false hk rfl rfl ?_
   refine wp_skip ?_
   refine hK2 _ _ ?_
   apply wp_seq_k; intro K8 hK8
   apply wp_region_lit
   obtain ⟨y9, h10, H⟩ := bind_some H
   refine sc rfl en61 hk rfl rfl rfl (impl_codeWords_t _ _ h10) ?_
   rintro _ w ⟨A11, p12, k13, rfl, o14, hG⟩ a hk
   have hs := hs.call0k hG [1] rfl
   refine sm _ rfl hk rfl rfl rfl fun a hk => ?_
   rcases ite_some H with ⟨c15, H⟩ | ⟨_, H⟩
   rotate_left
   ·cases H
   obtain ⟨b16, q17, hAc15⟩ := (o14.view).some_ x0 c15.1 c15.2
   refine si rfl hk rfl rfl rfl rfl un64 sz9 c15.1 c15.2 hAc15 fun a hk => ?_
   obtain ⟨_, rfl, e18⟩ := (o14.view).at_ ByteArray.empty x0 c15.1 c15.2
   refine sl (v := (.string (y9.getD x0.toNat ByteArray.empty))) rfl hk rfl rfl rfl ag9 ((e18 0 _ rfl).cell (hs.hasG (k := 1) rfl)) fun a hk => ?_
   refine sa _ rfl hk rfl rfl rfl fun a hk => ?_
   show wpList _ _ _ [] _ _
   refine wpList_nil ?_
   refine hK8 _ _ ?_
   have hs := hs.pick [] rfl
   refine wp_ret ?_
   obtain rfl := Option.some.inj H
   exact fin hk _ [(.string (y9.getD x0.toNat ByteArray.empty))] rfl ⟨rfl, trivial⟩ ⟨rfl, (hs.pick [] rfl).dnil⟩

noncomputable def impl_resultText.s0 (x0 : S_Result) (u10 : ByteArray) (u11 : Int) : Option ((ByteArray × Int) ⊕ Ex (ByteArray) (ByteArray)) :=
  (bif (decide (u11 < (x0.Values.length : Int))) then (if 0 ≤ u11 ∧ u11 < (x0.Values.length : Int) then ((strconv_Itoa.f (x0.Values.getD u11.toNat 0)).bind fun y30 => (if (⟨#[32]⟩ : ByteArray).size + y30.size ≤ 1152921504606846976 then (if u10.size + ((⟨#[32]⟩ : ByteArray) ++ y30).size ≤ 1152921504606846976 then (some (.inl ((u10 ++ ((⟨#[32]⟩ : ByteArray) ++ y30)), (w64 (u11 + 1))))) else none) else none)) else none) else (some (.inr (.out u10))))
noncomputable def impl_resultText.f (x0 : S_Result) : Option (ByteArray) :=
  ((impl_CodeWord.f x0.Code).bind fun y4 => ((loopO (fun s => impl_resultText.s0 x0 s.1 s.2) (y4, 0)).bind fun o => match o with | .out u12 => (some u12) | .ret r => (some r)))
set_option maxRecDepth 100000 in
set_option maxHeartbeats 0 in
theorem impl_resultText_t (w0 : World) (x0 : S_Result) (A0_0 : Option Addr) (p0_0 : Nat) (k0_0 : Chunk) (v0_0 : View (Lay.int .i64) A0_0 p0_0 x0.Values k0_0) (w0_0 : Has w0 k0_0) (kT : Chunk) (tT : TabK Tryd.prog kT) (wT : Has w0 kT) (r : ByteArray) (H : impl_resultText.f x0 = some r) :
    Calls Tryd.prog 28 #[.agg #[.int .i64 x0.Code, .slice A0_0 x0.Values.length p0_0]] w0 (Ret (fun v w => v = .string r ∧ Sat [] w0 w [] [])) := by
  have hs : Sat [] w0 w0 [(1, k0_0), (2, kT)] [] := Sat.init w0 [(1, k0_0), (2, kT)] [] (by simp only [List.mem_cons, List.not_mem_nil, or_false]; rintro x (rfl | rfl) <;> assumption) (by simp) List.nodup_nil (by simp [blks])
  unfold impl_resultText.f at H
  refine enter Tryd.func28 rfl Tryd.ntmps28 rfl fun a hk => ?_
  apply wp_seq_k; intro K1 hK1
  apply wp_region_lit
  refine sbx 3 hs rfl hk rfl rfl rfl rfl fun b2 w a hk hs => ?_
  refine sa _ rfl hk rfl rfl rfl fun a hk => ?_
  show wpList _ _ _ [] _ _
  refine wpList_nil ?_
  refine hK1 _ _ ?_
  apply wp_seq_k; intro K3 hK3
  apply wp_region_lit
  refine sf ⟨b2, 0, none⟩ rfl hk rfl rfl rfl fd34_0 rfl fun a hk => ?_
  refine sl rfl hk rfl rfl rfl ag3 (box_cell hs (k := 3) rfl rfl) fun a hk => ?_
  obtain ⟨y4, h5, H⟩ := bind_some H
  refine sc rfl en49 hk rfl rfl rfl (impl_CodeWord_t _ x0.Code _ h5) ?_
  rintro _ w ⟨rfl, hG⟩ a hk
  have hs := hs.call0 hG
  refine sa _ rfl hk rfl rfl rfl fun a hk => ?_
  show wpList _ _ _ [] _ _
  refine wpList_nil ?_
  refine hK3 _ _ ?_
  apply wp_seq_k; intro K6 hK6
  apply wp_seq_k; intro K7 hK7
  apply wp_region_lit
  refine sf ⟨b2, 1, none⟩ rfl hk rfl rfl rfl fd34_1 rfl fun a hk => ?_
  refine sl rfl hk rfl rfl rfl ag29 (box_cell hs (k := 3) rfl rfl) fun a hk => ?_
  refine sle rfl hk rfl rfl rfl un29 fun a hk => ?_
  refine sm _ rfl hk rfl rfl rfl fun a hk => ?_
  show wpList _ _ _ [] _ _
  refine wpList_nil ?_
  refine hK7 _ _ ?_
  obtain ⟨o13, h14, HL15⟩ := bind_some H
  clear H
  obtain ⟨R16, hR16⟩ : ∃ R : Act → World → Prop, R = fun a w => ∃ (u12 : ByteArray), o13 = .out u12 ∧ Kn [(3, (.string u12))] 23 a ∧ Sat [] w0 w [(1, k0_0), (2, kT)] [] := ⟨_, rfl⟩
  refine wp_cutq R16 ?_ ?_
  ·refine wp_block ?_
   obtain ⟨fu18, h14⟩ := loopO_some h14
   obtain ⟨I17, hI17⟩ : ∃ I : Nat → Act → World → Prop, I = fun fu a w => ∃ (u10 : ByteArray) (u11 : Int), loopN (fun s => impl_resultText.s0 x0 s.1 s.2) fu (u10, u11) = some o13 ∧ Kn [(3, (.string u10)), (10, (.slice A0_0 x0.Values.length p0_0)), (11, (.int .i64 (x0.Values.length : Int))), (12, (.int .i64 u11))] 23 a ∧ Sat [] w0 w [(1, k0_0), (2, kT)] [] := ⟨_, rfl⟩
   refine wp_loop_ghost I17 fu18 ?_ ?_
   ·rw [hI17]
    exact ⟨y4, 0, h14, (hk.c 3 rfl (hk.c 10 rfl (hk.c 11 rfl (hk.c 12 rfl hk.k)))), (hs.pick [] rfl)⟩
   ·clear h14 hk hs
    intro fu18 a w hI0
    rw [hI17] at hI0
    obtain ⟨u10, u11, hi, hk, hs⟩ := hI0
    obtain ⟨x19, H, h20⟩ := loop_round hi
    try dsimp only at H
    unfold impl_resultText.s0 at H
    apply wp_seq_k; intro K21 hK21
    apply wp_region_lit
    refine sv (.bool (decide (u11 < (x0.Values.length : Int)))) hk rfl rfl rfl fun a hk => ?_
    show wpList _ _ _ [] _ _
    refine wpList_nil ?_
    refine hK21 _ _ ?_
    have hs := hs.pick [] rfl
    apply wp_seq_k; intro K22 hK22
    rcases cond_some H with ⟨c23, H⟩ | ⟨c23, H⟩
    ·have hk := hk.lit 13 c23 rfl
     refine cnd_true hk rfl rfl ?_
     refine wp_skip ?_
     refine hK22 _ _ ?_
     apply wp_seq_k; intro K24 hK24
     refine wp_block ?_
     apply wp_seq_k; intro K25 hK25
     apply wp_region_lit
     rcases ite_some H with ⟨c26, H⟩ | ⟨_, H⟩
     rotate_left
     ·cases H
     obtain ⟨b27, q28, hAc26⟩ := (v0_0).some_ u11 c26.1 c26.2
     refine si rfl hk rfl rfl rfl rfl un29 sz3 c26.1 c26.2 hAc26 fun a hk => ?_
     obtain ⟨_, rfl, e29⟩ := (v0_0).at_ 0 u11 c26.1 c26.2
     refine sl (v := (.int .i64 (x0.Values.getD u11.toNat 0))) rfl hk rfl rfl rfl ag3 ((e29 0 _ rfl).cell (hs.hasD (k := 1) rfl)) fun a hk => ?_
     refine sa _ rfl hk rfl rfl rfl fun a hk => ?_
     show wpList _ _ _ [] _ _
     refine wpList_nil ?_
     refine hK25 _ _ ?_
     apply wp_region_lit
     refine sm _ rfl hk rfl rfl rfl fun a hk => ?_
     refine sm _ rfl hk rfl rfl rfl fun a hk => ?_
     obtain ⟨y30, h31, H⟩ := bind_some H
     refine sc rfl en45 hk rfl rfl rfl (strconv_Itoa_t _ (x0.Values.getD u11.toNat 0) kT tT (hs.hasD (k := 2) rfl) _ h31) ?_
     rintro _ w ⟨rfl, hG⟩ a hk
     have hs := hs.call0 hG
     rcases ite_some H with ⟨c32, H⟩ | ⟨_, H⟩
     rotate_left
     ·cases H
     refine ssa rfl hk rfl rfl rfl rfl c32 fun a hk => ?_
     rcases ite_some H with ⟨c33, H⟩ | ⟨_, H⟩
     rotate_left
     ·cases H
     refine ssa rfl hk rfl rfl rfl rfl c33 fun a hk => ?_
     refine sa _ rfl hk rfl rfl rfl fun a hk => ?_
     show wpList _ _ _ [] _ _
     refine wpList_nil ?_
     refine hK24 _ _ ?_
     apply wp_region_lit
     refine sv (.int .i64 (w64 (u11 + 1))) hk rfl rfl rfl fun a hk => ?_
     refine sm _ rfl hk rfl rfl rfl fun a hk => ?_
     show wpList _ _ _ [] _ _
     refine wpList_nil ?_
     obtain rfl := Option.some.inj H
     obtain ⟨m34, hmm34, h20⟩ := h20
     show ∃ n', n' < _ ∧ I17 n' _ _
     refine ⟨m34, hmm34, ?_⟩
     rw [hI17]
     exact ⟨(u10 ++ ((⟨#[32]⟩ : ByteArray) ++ y30)), (w64 (u11 + 1)), h20, (hk.c 3 rfl (hk.c 10 rfl (hk.c 11 rfl (hk.c 12 rfl hk.k)))), (hs.pick [] rfl)⟩
    ·have hk := hk.lit 13 c23 rfl
     refine cnd_false hk rfl rfl ?_
     refine wp_exit ?_
     obtain rfl := Option.some.inj H
     show R16 _ _
     rw [hR16]
     exact ⟨u10, h20.symm, (hk.c 3 rfl hk.k), (hs.pick [] rfl)⟩
  ·intro a w hR0
   rw [hR16] at hR0
   obtain ⟨u12, rfl, hk, hs⟩ := hR0
   have H := HL15
   try dsimp only at H
   refine hK6 _ _ ?_
   have hs := hs.pick [] rfl
   apply wp_seq_k; intro K35 hK35
   apply wp_region_lit
   refine sm _ rfl hk rfl rfl rfl fun a hk => ?_
   refine sa _ rfl hk rfl rfl rfl fun a hk => ?_
   show wpList _ _ _ [] _ _
   refine wpList_nil ?_
   refine hK35 _ _ ?_
   refine wp_ret ?_
   obtain rfl := Option.some.inj H
   exact fin hk _ [(.string u12)] rfl ⟨rfl, trivial⟩ ⟨rfl, (hs.pick [] rfl).dnil⟩

noncomputable def impl_ResultText.f (x0 : S_Result) : Option (ByteArray × Int) :=
  ((impl_isResult.f x0).bind fun y5 => (bif (!y5) then (some ((⟨#[]⟩ : ByteArray), 1)) else ((impl_resultText.f x0).bind fun y10 => (some (y10, 0)))))
set_option maxRecDepth 100000 in
set_option maxHeartbeats 0 in
theorem impl_ResultText_t (w0 : World) (x0 : S_Result) (A0_0 : Option Addr) (p0_0 : Nat) (k0_0 : Chunk) (v0_0 : View (Lay.int .i64) A0_0 p0_0 x0.Values k0_0) (w0_0 : Has w0 k0_0) (kT : Chunk) (tT : TabK Tryd.prog kT) (wT : Has w0 kT) (r : ByteArray × Int) (H : impl_ResultText.f x0 = some r) :
    Calls Tryd.prog 12 #[.agg #[.int .i64 x0.Code, .slice A0_0 x0.Values.length p0_0]] w0 (Ret (fun v w => v = .tuple #[.string r.1, .int .i64 r.2] ∧ Sat [] w0 w [] [])) := by
  have hs : Sat [] w0 w0 [(1, k0_0), (2, kT)] [] := Sat.init w0 [(1, k0_0), (2, kT)] [] (by simp only [List.mem_cons, List.not_mem_nil, or_false]; rintro x (rfl | rfl) <;> assumption) (by simp) List.nodup_nil (by simp [blks])
  unfold impl_ResultText.f at H
  refine enter Tryd.func12 rfl Tryd.ntmps12 rfl fun a hk => ?_
  apply wp_seq_k; intro K1 hK1
  apply wp_region_lit
  refine sbx 3 hs rfl hk rfl rfl rfl rfl fun b2 w a hk hs => ?_
  refine sa _ rfl hk rfl rfl rfl fun a hk => ?_
  refine sa _ rfl hk rfl rfl rfl fun a hk => ?_
  show wpList _ _ _ [] _ _
  refine wpList_nil ?_
  refine hK1 _ _ ?_
  apply wp_seq_k; intro K3 hK3
  apply wp_seq_k; intro K4 hK4
  apply wp_region_lit
  refine sln [.int .i64 x0.Code, .slice A0_0 x0.Values.length p0_0] rfl hk rfl rfl rfl ag34 sz34 (box_cells hs (k := 3) rfl) fun a hk => ?_
  obtain ⟨y5, h6, H⟩ := bind_some H
  refine sc rfl en27 hk rfl rfl rfl (impl_isResult_t _ x0 A0_0 p0_0 _ v0_0 (hs.hasD (k := 1) rfl) _ h6) ?_
  rintro _ w ⟨rfl, hG⟩ a hk
  have hs := hs.call0 hG
  refine sv (.bool (!y5)) hk rfl rfl rfl fun a hk => ?_
  show wpList _ _ _ [] _ _
  refine wpList_nil ?_
  refine hK4 _ _ ?_
  rcases cond_some H with ⟨c7, H⟩ | ⟨c7, H⟩
  ·have hk := hk.lit 6 c7 rfl
   refine cnd_true hk rfl rfl ?_
   apply wp_seq_k; intro K8 hK8
   apply wp_region_lit
   refine sa _ rfl hk rfl rfl rfl fun a hk => ?_
   refine sa _ rfl hk rfl rfl rfl fun a hk => ?_
   show wpList _ _ _ [] _ _
   refine wpList_nil ?_
   refine hK8 _ _ ?_
   refine wp_ret ?_
   obtain rfl := Option.some.inj H
   exact fin hk _ [(.string (⟨#[]⟩ : ByteArray)), (.int .i64 1)] rfl ⟨rfl, ⟨rfl, trivial⟩⟩ ⟨rfl, (hs.pick [] rfl).dnil⟩
  ·have hk := hk.lit 6 c7 rfl
   refine cnd_false hk rfl rfl ?_
   refine wp_skip ?_
   refine hK3 _ _ ?_
   apply wp_seq_k; intro K9 hK9
   apply wp_region_lit
   refine sln [.int .i64 x0.Code, .slice A0_0 x0.Values.length p0_0] rfl hk rfl rfl rfl ag34 sz34 (box_cells hs (k := 3) rfl) fun a hk => ?_
   obtain ⟨y10, h11, H⟩ := bind_some H
   refine sc rfl en28 hk rfl rfl rfl (impl_resultText_t _ x0 A0_0 p0_0 _ v0_0 (hs.hasD (k := 1) rfl) kT tT (hs.hasD (k := 2) rfl) _ h11) ?_
   rintro _ w ⟨rfl, hG⟩ a hk
   have hs := hs.call0 hG
   refine sa _ rfl hk rfl rfl rfl fun a hk => ?_
   refine sa _ rfl hk rfl rfl rfl fun a hk => ?_
   show wpList _ _ _ [] _ _
   refine wpList_nil ?_
   refine hK9 _ _ ?_
   have hs := hs.pick [] rfl
   refine wp_ret ?_
   obtain rfl := Option.some.inj H
   exact fin hk _ [(.string y10), (.int .i64 0)] rfl ⟨rfl, ⟨rfl, trivial⟩⟩ ⟨rfl, (hs.pick [] rfl).dnil⟩

noncomputable def laws_eqIntS.s0 (l0 : List Int) (l1 : List Int) (u10 : Int) : Option ((Int) ⊕ Ex (Unit) (Bool)) :=
  (bif (decide (u10 < (l0.length : Int))) then (if 0 ≤ u10 ∧ u10 < (l0.length : Int) then (if 0 ≤ u10 ∧ u10 < (l1.length : Int) then (bif ((l0.getD u10.toNat 0) != (l1.getD u10.toNat 0)) then (some (.inr (.ret false))) else (some (.inl (w64 (u10 + 1))))) else none) else none) else (some (.inr (.out ()))))
noncomputable def laws_eqIntS.f (l0 : List Int) (l1 : List Int) : Option (Bool) :=
  (bif ((l0.length : Int) != (l1.length : Int)) then (some false) else ((loopO (fun s => laws_eqIntS.s0 l0 l1 s) 0).bind fun o => match o with | .out _ => (some true) | .ret r => (some r)))
set_option maxRecDepth 100000 in
set_option maxHeartbeats 0 in
theorem laws_eqIntS_t (w0 : World) (A0_ : Option Addr) (p0_ : Nat) (l0 : List Int) (k0_ : Chunk) (v0_ : View (Lay.int .i64) A0_ p0_ l0 k0_) (w0_ : Has w0 k0_) (A1_ : Option Addr) (p1_ : Nat) (l1 : List Int) (k1_ : Chunk) (v1_ : View (Lay.int .i64) A1_ p1_ l1 k1_) (w1_ : Has w0 k1_) (r : Bool) (H : laws_eqIntS.f l0 l1 = some r) :
    Calls Tryd.prog 29 #[.slice A0_ l0.length p0_, .slice A1_ l1.length p1_] w0 (Ret (fun v w => v = .bool r ∧ Sat [] w0 w [] [])) := by
  have hs : Sat [] w0 w0 [(1, k0_), (2, k1_)] [] := Sat.init w0 [(1, k0_), (2, k1_)] [] (by simp only [List.mem_cons, List.not_mem_nil, or_false]; rintro x (rfl | rfl) <;> assumption) (by simp) List.nodup_nil (by simp [blks])
  unfold laws_eqIntS.f at H
  refine enter Tryd.func29 rfl Tryd.ntmps29 rfl fun a hk => ?_
  apply wp_seq_k; intro K1 hK1
  apply wp_region_lit
  refine sa _ rfl hk rfl rfl rfl fun a hk => ?_
  show wpList _ _ _ [] _ _
  refine wpList_nil ?_
  refine hK1 _ _ ?_
  apply wp_seq_k; intro K2 hK2
  apply wp_seq_k; intro K3 hK3
  apply wp_region_lit
  refine sm _ rfl hk rfl rfl rfl fun a hk => ?_
  refine sle rfl hk rfl rfl rfl un29 fun a hk => ?_
  refine sm _ rfl hk rfl rfl rfl fun a hk => ?_
  refine sle rfl hk rfl rfl rfl un29 fun a hk => ?_
  refine sv (.bool ((l0.length : Int) != (l1.length : Int))) hk rfl rfl rfl fun a hk => ?_
  show wpList _ _ _ [] _ _
  refine wpList_nil ?_
  refine hK3 _ _ ?_
  rcases cond_some H with ⟨c4, H⟩ | ⟨c4, H⟩
  ·have hk := hk.lit 10 c4 rfl
   refine cnd_true hk rfl rfl ?_
   apply wp_seq_k; intro K5 hK5
   apply wp_region_lit
   refine sa _ rfl hk rfl rfl rfl fun a hk => ?_
   show wpList _ _ _ [] _ _
   refine wpList_nil ?_
   refine hK5 _ _ ?_
   refine wp_ret ?_
   obtain rfl := Option.some.inj H
   exact fin hk _ [(.bool false)] rfl ⟨rfl, trivial⟩ ⟨rfl, (hs.pick [] rfl).dnil⟩
  ·have hk := hk.lit 10 c4 rfl
   refine cnd_false hk rfl rfl ?_
   refine wp_skip ?_
   refine hK2 _ _ ?_
   apply wp_seq_k; intro K6 hK6
   apply wp_seq_k; intro K7 hK7
   apply wp_region_lit
   refine sa _ rfl hk rfl rfl rfl fun a hk => ?_
   show wpList _ _ _ [] _ _
   refine wpList_nil ?_
   refine hK7 _ _ ?_
   have hs := hs.pick [] rfl
   obtain ⟨o11, h12, HL13⟩ := bind_some H
   clear H
   obtain ⟨R14, hR14⟩ : ∃ R : Act → World → Prop, R = fun a w => o11 = .out () ∧ Kn [] 26 a ∧ Sat [] w0 w [(1, k0_), (2, k1_)] [] := ⟨_, rfl⟩
   refine wp_cutq R14 ?_ ?_
   ·refine wp_block ?_
    obtain ⟨fu16, h12⟩ := loopO_some h12
    obtain ⟨I15, hI15⟩ : ∃ I : Nat → Act → World → Prop, I = fun fu a w => ∃ (u10 : Int), loopN (fun s => laws_eqIntS.s0 l0 l1 s) fu u10 = some o11 ∧ Kn [(0, (.slice A0_ l0.length p0_)), (1, (.slice A1_ l1.length p1_)), (5, (.int .i64 u10))] 26 a ∧ Sat [] w0 w [(1, k0_), (2, k1_)] [] := ⟨_, rfl⟩
    refine wp_loop_ghost I15 fu16 ?_ ?_
    ·rw [hI15]
     exact ⟨0, h12, (hk.c 0 rfl (hk.c 1 rfl (hk.c 5 rfl hk.k))), (hs.pick [] rfl)⟩
    ·clear h12 hk hs
     intro fu16 a w hI0
     rw [hI15] at hI0
     obtain ⟨u10, hi, hk, hs⟩ := hI0
     obtain ⟨x17, H, h18⟩ := loop_round hi
     try dsimp only at H
     unfold laws_eqIntS.s0 at H
     apply wp_seq_k; intro K19 hK19
     apply wp_seq_k; intro K20 hK20
     apply wp_region_lit
     refine sm _ rfl hk rfl rfl rfl fun a hk => ?_
     refine sm _ rfl hk rfl rfl rfl fun a hk => ?_
     refine sle rfl hk rfl rfl rfl un29 fun a hk => ?_
     refine sv (.bool (decide (u10 < (l0.length : Int)))) hk rfl rfl rfl fun a hk => ?_
     show wpList _ _ _ [] _ _
     refine wpList_nil ?_
     refine hK20 _ _ ?_
     rcases cond_some H with ⟨c21, H⟩ | ⟨c21, H⟩
     ·have hk := hk.lit 14 c21 rfl
      refine cnd_true hk rfl rfl ?_
      refine wp_skip ?_
      refine hK19 _ _ ?_
      apply wp_seq_k; intro K22 hK22
      refine wp_block ?_
      apply wp_seq_k; intro K23 hK23
      refine wp_region_tree (.q 0 (.q 1 (.q 2 (.q 3 (.q 4 (.alt 5 (.alt 6 (.alt 7 (.alt 8 .done .stop) .stop) .stop) .stop)))))) mo (by kernel_rfl) (hs.pick [] rfl) fun _ => ?_
      have hs := hs.drew
      refine tqst (.slice A0_ l0.length p0_) hk rfl rfl rfl rfl (fun w hs => sm _ rfl hk rfl rfl rfl fun a hk => qe hk) fun a hk => ?_
      refine tqst (.int .i64 u10) hk rfl rfl rfl rfl (fun w hs => sm _ rfl hk rfl rfl rfl fun a hk => qe hk) fun a hk => ?_
      rcases ite_some H with ⟨c25, H⟩ | ⟨_, H⟩
      rotate_left
      ·cases H
      obtain ⟨b26, q27, hAc25⟩ := (v0_).some_ u10 c25.1 c25.2
      refine tqst (.pointer (some (padd A0_ (u10.toNat * 1)))) hk rfl rfl rfl rfl (fun w hs => si rfl hk rfl rfl rfl rfl un29 sz3 c25.1 c25.2 hAc25 fun a hk => qe hk) fun a hk => ?_
      obtain ⟨_, rfl, e28⟩ := (v0_).at_ 0 u10 c25.1 c25.2
      refine tqst (.int .i64 (l0.getD u10.toNat 0)) hk rfl rfl rfl rfl (fun w hs => sl (v := (.int .i64 (l0.getD u10.toNat 0))) rfl hk rfl rfl rfl ag3 ((e28 0 _ rfl).cell (hs.hasD (k := 1) rfl)) fun a hk => qe hk) fun a hk => ?_
      refine tqst (.slice A1_ l1.length p1_) hk rfl rfl rfl rfl (fun w hs => sm _ rfl hk rfl rfl rfl fun a hk => qe hk) fun a hk => ?_
      refine tsst hk rfl rfl (fun K_r24_5 hK_r24_5 w hF => ?_) wt_stop
      have hs := hs.f hF
      refine sm _ rfl hk rfl rfl rfl fun a hk => ?_
      refine se (hs.pick [] rfl) hk (hK_r24_5 _ _ ?_)
      refine tsst hk rfl rfl (fun K_r24_6 hK_r24_6 w hF => ?_) wt_stop
      have hs := hs.f hF
      rcases ite_some H with ⟨c29, H⟩ | ⟨_, H⟩
      rotate_left
      ·cases H
      obtain ⟨b30, q31, hAc29⟩ := (v1_).some_ u10 c29.1 c29.2
      refine si rfl hk rfl rfl rfl rfl un29 sz3 c29.1 c29.2 hAc29 fun a hk => ?_
      refine se (hs.pick [] rfl) hk (hK_r24_6 _ _ ?_)
      refine tsst hk rfl rfl (fun K_r24_7 hK_r24_7 w hF => ?_) wt_stop
      have hs := hs.f hF
      obtain ⟨_, rfl, e32⟩ := (v1_).at_ 0 u10 c29.1 c29.2
      refine sl (v := (.int .i64 (l1.getD u10.toNat 0))) rfl hk rfl rfl rfl ag3 ((e32 0 _ rfl).cell (hs.hasD (k := 2) rfl)) fun a hk => ?_
      refine se (hs.pick [] rfl) hk (hK_r24_7 _ _ ?_)
      refine tsst hk rfl rfl (fun K_r24_8 hK_r24_8 w hF => ?_) wt_stop
      have hs := hs.f hF
      refine sv (.bool ((l0.getD u10.toNat 0) != (l1.getD u10.toNat 0))) hk rfl rfl rfl fun a hk => ?_
      refine se (hs.pick [] rfl) hk (hK_r24_8 _ _ ?_)
      refine wtl_nil fun w hF _ => ?_
      have hs := hs.f hF
      refine hK23 _ _ ?_
      rcases cond_some H with ⟨c33, H⟩ | ⟨c33, H⟩
      ·have hk := hk.lit 25 c33 rfl
       refine cnd_true hk rfl rfl ?_
       apply wp_seq_k; intro K34 hK34
       apply wp_region_lit
       refine sa _ rfl hk rfl rfl rfl fun a hk => ?_
       show wpList _ _ _ [] _ _
       refine wpList_nil ?_
       refine hK34 _ _ ?_
       have hs := hs.pick [] rfl
       refine wp_ret ?_
       obtain rfl := Option.some.inj H
       have ho11 := h18
       try dsimp only at ho11
       subst ho11
       have H := HL13
       try dsimp only at H
       obtain rfl := Option.some.inj H
       exact fin hk _ [(.bool false)] rfl ⟨rfl, trivial⟩ ⟨rfl, (hs.pick [] rfl).dnil⟩
      ·have hk := hk.lit 25 c33 rfl
       refine cnd_false hk rfl rfl ?_
       refine wp_skip ?_
       refine hK22 _ _ ?_
       have hs := hs.pick [] rfl
       apply wp_region_lit
       refine sm _ rfl hk rfl rfl rfl fun a hk => ?_
       refine sv (.int .i64 (w64 (u10 + 1))) hk rfl rfl rfl fun a hk => ?_
       refine sa _ rfl hk rfl rfl rfl fun a hk => ?_
       show wpList _ _ _ [] _ _
       refine wpList_nil ?_
       obtain rfl := Option.some.inj H
       obtain ⟨m35, hmm35, h18⟩ := h18
       show ∃ n', n' < _ ∧ I15 n' _ _
       refine ⟨m35, hmm35, ?_⟩
       rw [hI15]
       exact ⟨(w64 (u10 + 1)), h18, (hk.c 0 rfl (hk.c 1 rfl (hk.c 5 rfl hk.k))), (hs.pick [] rfl)⟩
     ·have hk := hk.lit 14 c21 rfl
      refine cnd_false hk rfl rfl ?_
      refine wp_exit ?_
      obtain rfl := Option.some.inj H
      show R14 _ _
      rw [hR14]
      exact ⟨h18.symm, hk.k, (hs.pick [] rfl)⟩
   ·intro a w hR0
    rw [hR14] at hR0
    obtain ⟨rfl, hk, hs⟩ := hR0
    have H := HL13
    try dsimp only at H
    refine hK6 _ _ ?_
    apply wp_seq_k; intro K36 hK36
    apply wp_region_lit
    refine sa _ rfl hk rfl rfl rfl fun a hk => ?_
    show wpList _ _ _ [] _ _
    refine wpList_nil ?_
    refine hK36 _ _ ?_
    refine wp_ret ?_
    obtain rfl := Option.some.inj H
    exact fin hk _ [(.bool true)] rfl ⟨rfl, trivial⟩ ⟨rfl, (hs.pick [] rfl).dnil⟩

noncomputable def laws_eqResult.f (x0 : S_Result) (x1 : S_Result) : Option (Bool) :=
  (bif (x0.Code != x1.Code) then (some false) else ((laws_eqIntS.f x0.Values x1.Values).bind fun y10 => (bif (!y10) then (some false) else (some true))))
set_option maxRecDepth 100000 in
set_option maxHeartbeats 0 in
theorem laws_eqResult_t (w0 : World) (x0 : S_Result) (A0_0 : Option Addr) (p0_0 : Nat) (k0_0 : Chunk) (v0_0 : View (Lay.int .i64) A0_0 p0_0 x0.Values k0_0) (w0_0 : Has w0 k0_0) (x1 : S_Result) (A1_0 : Option Addr) (p1_0 : Nat) (k1_0 : Chunk) (v1_0 : View (Lay.int .i64) A1_0 p1_0 x1.Values k1_0) (w1_0 : Has w0 k1_0) (r : Bool) (H : laws_eqResult.f x0 x1 = some r) :
    Calls Tryd.prog 13 #[.agg #[.int .i64 x0.Code, .slice A0_0 x0.Values.length p0_0], .agg #[.int .i64 x1.Code, .slice A1_0 x1.Values.length p1_0]] w0 (Ret (fun v w => v = .bool r ∧ Sat [] w0 w [] [])) := by
  have hs : Sat [] w0 w0 [(1, k0_0), (2, k1_0)] [] := Sat.init w0 [(1, k0_0), (2, k1_0)] [] (by simp only [List.mem_cons, List.not_mem_nil, or_false]; rintro x (rfl | rfl) <;> assumption) (by simp) List.nodup_nil (by simp [blks])
  unfold laws_eqResult.f at H
  refine enter Tryd.func13 rfl Tryd.ntmps13 rfl fun a hk => ?_
  apply wp_seq_k; intro K1 hK1
  apply wp_region_lit
  refine sbx 3 hs rfl hk rfl rfl rfl rfl fun b2 w a hk hs => ?_
  refine sbx 4 hs rfl hk rfl rfl rfl rfl fun b3 w a hk hs => ?_
  refine sa _ rfl hk rfl rfl rfl fun a hk => ?_
  show wpList _ _ _ [] _ _
  refine wpList_nil ?_
  refine hK1 _ _ ?_
  apply wp_seq_k; intro K4 hK4
  apply wp_seq_k; intro K5 hK5
  apply wp_region_lit
  refine sf ⟨b2, 0, none⟩ rfl hk rfl rfl rfl fd34_0 rfl fun a hk => ?_
  refine sl rfl hk rfl rfl rfl ag3 (box_cell hs (k := 3) rfl rfl) fun a hk => ?_
  refine sf ⟨b3, 0, none⟩ rfl hk rfl rfl rfl fd34_0 rfl fun a hk => ?_
  refine sl rfl hk rfl rfl rfl ag3 (box_cell hs (k := 4) rfl rfl) fun a hk => ?_
  refine sv (.bool (x0.Code != x1.Code)) hk rfl rfl rfl fun a hk => ?_
  show wpList _ _ _ [] _ _
  refine wpList_nil ?_
  refine hK5 _ _ ?_
  rcases cond_some H with ⟨c6, H⟩ | ⟨c6, H⟩
  ·have hk := hk.lit 9 c6 rfl
   refine cnd_true hk rfl rfl ?_
   apply wp_seq_k; intro K7 hK7
   apply wp_region_lit
   refine sa _ rfl hk rfl rfl rfl fun a hk => ?_
   show wpList _ _ _ [] _ _
   refine wpList_nil ?_
   refine hK7 _ _ ?_
   refine wp_ret ?_
   obtain rfl := Option.some.inj H
   exact fin hk _ [(.bool false)] rfl ⟨rfl, trivial⟩ ⟨rfl, (hs.pick [] rfl).dnil⟩
  ·have hk := hk.lit 9 c6 rfl
   refine cnd_false hk rfl rfl ?_
   refine wp_skip ?_
   refine hK4 _ _ ?_
   apply wp_seq_k; intro K8 hK8
   apply wp_seq_k; intro K9 hK9
   apply wp_region_lit
   refine sf ⟨b2, 1, none⟩ rfl hk rfl rfl rfl fd34_1 rfl fun a hk => ?_
   refine sl rfl hk rfl rfl rfl ag29 (box_cell hs (k := 3) rfl rfl) fun a hk => ?_
   refine sf ⟨b3, 1, none⟩ rfl hk rfl rfl rfl fd34_1 rfl fun a hk => ?_
   refine sl rfl hk rfl rfl rfl ag29 (box_cell hs (k := 4) rfl rfl) fun a hk => ?_
   obtain ⟨y10, h11, H⟩ := bind_some H
   refine sc rfl en29 hk rfl rfl rfl (laws_eqIntS_t _ A0_0 p0_0 x0.Values _ v0_0 (hs.hasD (k := 1) rfl) A1_0 p1_0 x1.Values _ v1_0 (hs.hasD (k := 2) rfl) _ h11) ?_
   rintro _ w ⟨rfl, hG⟩ a hk
   have hs := hs.call0 hG
   refine sv (.bool (!y10)) hk rfl rfl rfl fun a hk => ?_
   show wpList _ _ _ [] _ _
   refine wpList_nil ?_
   refine hK9 _ _ ?_
   have hs := hs.pick [] rfl
   rcases cond_some H with ⟨c12, H⟩ | ⟨c12, H⟩
   ·have hk := hk.lit 15 c12 rfl
    refine cnd_true hk rfl rfl ?_
    apply wp_seq_k; intro K13 hK13
    apply wp_region_lit
    refine sa _ rfl hk rfl rfl rfl fun a hk => ?_
    show wpList _ _ _ [] _ _
    refine wpList_nil ?_
    refine hK13 _ _ ?_
    refine wp_ret ?_
    obtain rfl := Option.some.inj H
    exact fin hk _ [(.bool false)] rfl ⟨rfl, trivial⟩ ⟨rfl, (hs.pick [] rfl).dnil⟩
   ·have hk := hk.lit 15 c12 rfl
    refine cnd_false hk rfl rfl ?_
    refine wp_skip ?_
    refine hK8 _ _ ?_
    apply wp_seq_k; intro K14 hK14
    apply wp_region_lit
    refine sa _ rfl hk rfl rfl rfl fun a hk => ?_
    show wpList _ _ _ [] _ _
    refine wpList_nil ?_
    refine hK14 _ _ ?_
    refine wp_ret ?_
    obtain rfl := Option.some.inj H
    exact fin hk _ [(.bool true)] rfl ⟨rfl, trivial⟩ ⟨rfl, (hs.pick [] rfl).dnil⟩

noncomputable def laws_FnExactResultText.f (x0 : S_Result) : Option (Bool) :=
  ((laws_szResult.f x0 1048576).bind fun y5 => (bif (decide (y5 < 0)) then (some true) else ((laws_toResult.f x0).bind fun y12 => ((spec_ResultText.f y12).bind fun y18 => ((laws_toResult.f x0).bind fun y21 => ((impl_ResultText.f y21).bind fun y29 => (((bif (!(y29.1.toList == y18.1.toList)) then (some true) else (some (y29.2 != y18.2))) : Option (Bool)).bind fun u34 => (bif u34 then (some false) else ((laws_toResult.f x0).bind fun y45 => ((laws_eqResult.f y21 y45).bind fun y51 => (bif (!y51) then (some false) else (some true))))))))))))
set_option maxRecDepth 100000 in
set_option maxHeartbeats 0 in
theorem laws_FnExactResultText_t (w0 : World) (x0 : S_Result) (A0_0 : Option Addr) (p0_0 : Nat) (k0_0 : Chunk) (v0_0 : View (Lay.int .i64) A0_0 p0_0 x0.Values k0_0) (w0_0 : Has w0 k0_0) (kT : Chunk) (tT : TabK Tryd.prog kT) (wT : Has w0 kT) (r : Bool) (H : laws_FnExactResultText.f x0 = some r) :
    Calls Tryd.prog 4 #[.agg #[.int .i64 x0.Code, .slice A0_0 x0.Values.length p0_0]] w0 (Ret (fun v w => v = .bool r ∧ Sat [] w0 w [] [])) := by
  have hs : Sat [] w0 w0 [(1, k0_0), (2, kT)] [] := Sat.init w0 [(1, k0_0), (2, kT)] [] (by simp only [List.mem_cons, List.not_mem_nil, or_false]; rintro x (rfl | rfl) <;> assumption) (by simp) List.nodup_nil (by simp [blks])
  unfold laws_FnExactResultText.f at H
  refine enter Tryd.func4 rfl Tryd.ntmps4 rfl fun a hk => ?_
  apply wp_seq_k; intro K1 hK1
  apply wp_region_lit
  refine sbx 3 hs rfl hk rfl rfl rfl rfl fun b2 w a hk hs => ?_
  refine sa _ rfl hk rfl rfl rfl fun a hk => ?_
  show wpList _ _ _ [] _ _
  refine wpList_nil ?_
  refine hK1 _ _ ?_
  apply wp_seq_k; intro K3 hK3
  apply wp_region_lit
  refine sa _ rfl hk rfl rfl rfl fun a hk => ?_
  show wpList _ _ _ [] _ _
  refine wpList_nil ?_
  refine hK3 _ _ ?_
  apply wp_seq_k; intro K4 hK4
  apply wp_region_lit
  refine sln [.int .i64 x0.Code, .slice A0_0 x0.Values.length p0_0] rfl hk rfl rfl rfl ag31 sz31 (box_cells hs (k := 3) rfl) fun a hk => ?_
  refine sm _ rfl hk rfl rfl rfl fun a hk => ?_
  obtain ⟨y5, h6, H⟩ := bind_some H
  refine sc rfl en9 hk rfl rfl rfl (laws_szResult_t _ x0 A0_0 p0_0 _ v0_0 (hs.hasD (k := 1) rfl) 1048576 _ h6) ?_
  rintro _ w ⟨rfl, hG⟩ a hk
  have hs := hs.call0 hG
  refine sa _ rfl hk rfl rfl rfl fun a hk => ?_
  show wpList _ _ _ [] _ _
  refine wpList_nil ?_
  refine hK4 _ _ ?_
  apply wp_seq_k; intro K7 hK7
  apply wp_seq_k; intro K8 hK8
  apply wp_region_lit
  refine sm _ rfl hk rfl rfl rfl fun a hk => ?_
  refine sv (.bool (decide (y5 < 0))) hk rfl rfl rfl fun a hk => ?_
  show wpList _ _ _ [] _ _
  refine wpList_nil ?_
  refine hK8 _ _ ?_
  have hs := hs.pick [(3, 3)] rfl
  rcases cond_some H with ⟨c9, H⟩ | ⟨c9, H⟩
  ·have hk := hk.lit 13 c9 rfl
   refine cnd_true hk rfl rfl ?_
   apply wp_seq_k; intro K10 hK10
   apply wp_region_lit
   refine sa _ rfl hk rfl rfl rfl fun a hk => ?_
   show wpList _ _ _ [] _ _
   refine wpList_nil ?_
   refine hK10 _ _ ?_
   refine wp_ret ?_
   obtain rfl := Option.some.inj H
   exact fin hk _ [(.bool true)] rfl ⟨rfl, trivial⟩ ⟨rfl, (hs.pick [] rfl).dnil⟩
  ·have hk := hk.lit 13 c9 rfl
   refine cnd_false hk rfl rfl ?_
   refine wp_skip ?_
   refine hK7 _ _ ?_
   apply wp_seq_k; intro K11 hK11
   apply wp_region_lit
   refine sln [.int .i64 x0.Code, .slice A0_0 x0.Values.length p0_0] rfl hk rfl rfl rfl ag31 sz31 (box_cells hs (k := 3) rfl) fun a hk => ?_
   obtain ⟨y12, h13, H⟩ := bind_some H
   refine sc rfl en11 hk rfl rfl rfl (laws_toResult_t _ x0 A0_0 p0_0 _ v0_0 (hs.hasD (k := 1) rfl) _ h13) ?_
   rintro _ w ⟨A14, p15, k16, rfl, o17, hG⟩ a hk
   have hs := hs.call0k hG [4] rfl
   obtain ⟨y18, h19, H⟩ := bind_some H
   refine sc rfl en10 hk rfl rfl rfl (spec_ResultText_t _ y12 A14 p15 _ o17.view (hs.hasG (k := 4) rfl) _ h19) ?_
   rintro _ w ⟨rfl, hG⟩ a hk
   have hs := hs.call0 hG
   refine sm _ rfl hk rfl rfl rfl fun a hk => ?_
   refine sv (.string y18.1) hk rfl rfl rfl fun a hk => ?_
   refine sv (.int .i64 y18.2) hk rfl rfl rfl fun a hk => ?_
   refine sa _ rfl hk rfl rfl rfl fun a hk => ?_
   refine sa _ rfl hk rfl rfl rfl fun a hk => ?_
   show wpList _ _ _ [] _ _
   refine wpList_nil ?_
   refine hK11 _ _ ?_
   apply wp_seq_k; intro K20 hK20
   apply wp_region_lit
   refine sln [.int .i64 x0.Code, .slice A0_0 x0.Values.length p0_0] rfl hk rfl rfl rfl ag31 sz31 (box_cells hs (k := 3) rfl) fun a hk => ?_
   obtain ⟨y21, h22, H⟩ := bind_some H
   refine sc rfl en11 hk rfl rfl rfl (laws_toResult_t _ x0 A0_0 p0_0 _ v0_0 (hs.hasD (k := 1) rfl) _ h22) ?_
   rintro _ w ⟨A23, p24, k25, rfl, o26, hG⟩ a hk
   have hs := hs.call0k hG [5] rfl
   refine salx 6 hs rfl hk rfl rfl ze34 rfl fun b27 w a hk hs => ?_
   refine ssw 6 hs rfl rfl hk rfl rfl rfl rfl sz34 (by simp [Value.oneCell']) rfl fun w a hk hs => ?_
   show wpList _ _ _ [] _ _
   refine wpList_nil ?_
   refine hK20 _ _ ?_
   apply wp_seq_k; intro K28 hK28
   apply wp_region_lit
   refine sln [.int .i64 y21.Code, .slice A23 y21.Values.length p24] rfl hk rfl rfl rfl ag34 sz34 (box_cells hs (k := 6) rfl) fun a hk => ?_
   obtain ⟨y29, h30, H⟩ := bind_some H
   refine sc rfl en12 hk rfl rfl rfl (impl_ResultText_t _ y21 A23 p24 _ o26.view (hs.hasG (k := 5) rfl) kT tT (hs.hasD (k := 2) rfl) _ h30) ?_
   rintro _ w ⟨rfl, hG⟩ a hk
   have hs := hs.call0 hG
   refine sm _ rfl hk rfl rfl rfl fun a hk => ?_
   refine sv (.string y29.1) hk rfl rfl rfl fun a hk => ?_
   refine sv (.int .i64 y29.2) hk rfl rfl rfl fun a hk => ?_
   refine sa _ rfl hk rfl rfl rfl fun a hk => ?_
   refine sa _ rfl hk rfl rfl rfl fun a hk => ?_
   show wpList _ _ _ [] _ _
   refine wpList_nil ?_
   refine hK28 _ _ ?_
   have hs := hs.pick [(3, 3), (6, 6), (5, 5)] rfl
   apply wp_seq_k; intro K31 hK31
   apply wp_seq_k; intro K32 hK32
   obtain ⟨o35, h36, HL37⟩ := bind_some H
   clear H
   obtain ⟨R38, hR38⟩ : ∃ R : Act → World → Prop, R = fun a w => ∃ (u34 : Bool), u34 = o35 ∧ Kn [(1, (.pointer (some ⟨b2, 0, none⟩))), (6, (.pointer (some ⟨b27, 0, none⟩))), (34, (.bool u34))] 40 a ∧ Sat [] w0 w [(1, k0_0), (2, kT)] [(3, [(b2, .cells #[.int .i64 x0.Code, .slice A0_0 x0.Values.length p0_0] 31 (0, 0))]), (6, [(b27, .cells #[.int .i64 y21.Code, .slice A23 y21.Values.length p24] 34 (0, 0))]), (5, k25)] := ⟨_, rfl⟩
   refine wp_cutq R38 ?_ ?_
   ·have H := h36
    apply wp_region_lit
    refine sm _ rfl hk rfl rfl rfl fun a hk => ?_
    refine sm _ rfl hk rfl rfl rfl fun a hk => ?_
    refine sv (.bool (!(y29.1.toList == y18.1.toList))) hk rfl rfl rfl fun a hk => ?_
    refine sm _ rfl hk rfl rfl rfl fun a hk => ?_
    rcases cond_some H with ⟨c39, H⟩ | ⟨c39, H⟩
    ·have hk := hk.lit 30 c39 rfl
     refine sk hk rfl rfl rfl fun a hk => ?_
     refine sk hk rfl rfl rfl fun a hk => ?_
     refine sk hk rfl rfl rfl fun a hk => ?_
     refine sv (.bool true) hk rfl rfl rfl fun a hk => ?_
     show wpList _ _ _ [] _ _
     refine wpList_nil ?_
     obtain rfl := Option.some.inj H
     show R38 _ _
     rw [hR38]
     exact ⟨true, rfl, (hk.c 1 rfl (hk.c 6 rfl (hk.c 34 rfl hk.k))), (hs.pick [(3, 3), (6, 6), (5, 5)] rfl)⟩
    ·have hk := hk.lit 30 c39 rfl
     refine sm _ rfl hk rfl rfl rfl fun a hk => ?_
     refine sm _ rfl hk rfl rfl rfl fun a hk => ?_
     refine sv (.bool (y29.2 != y18.2)) hk rfl rfl rfl fun a hk => ?_
     refine sv (.bool (y29.2 != y18.2)) hk rfl rfl rfl fun a hk => ?_
     show wpList _ _ _ [] _ _
     refine wpList_nil ?_
     obtain rfl := Option.some.inj H
     show R38 _ _
     rw [hR38]
     exact ⟨(y29.2 != y18.2), rfl, (hk.c 1 rfl (hk.c 6 rfl (hk.c 34 rfl hk.k))), (hs.pick [(3, 3), (6, 6), (5, 5)] rfl)⟩
   ·intro a w hR0
    rw [hR38] at hR0
    obtain ⟨u34, rfl, hk, hs⟩ := hR0
    have H := HL37
    try dsimp only at H
    refine hK32 _ _ ?_
    rcases cond_some H with ⟨c40, H⟩ | ⟨c40, H⟩
    ·have hk := hk.lit 34 c40 rfl
     refine cnd_true hk rfl rfl ?_
     apply wp_seq_k; intro K41 hK41
     apply wp_region_lit
     refine sa _ rfl hk rfl rfl rfl fun a hk => ?_
     show wpList _ _ _ [] _ _
     refine wpList_nil ?_
     refine hK41 _ _ ?_
     refine wp_ret ?_
     obtain rfl := Option.some.inj H
     exact fin hk _ [(.bool false)] rfl ⟨rfl, trivial⟩ ⟨rfl, (hs.pick [] rfl).dnil⟩
    ·have hk := hk.lit 34 c40 rfl
     refine cnd_false hk rfl rfl ?_
     refine wp_skip ?_
     refine hK31 _ _ ?_
     apply wp_seq_k; intro K42 hK42
     apply wp_seq_k; intro K43 hK43
     refine wp_region_tree (.q 0 (.alt 1 (.alt 2 (.alt 3 (.alt 4 .done .stop) .stop) .stop) .stop)) mo (by kernel_rfl) (hs.pick [(3, 3), (6, 6), (5, 5)] rfl) fun _ => ?_
     have hs := hs.drew
     refine tqst (.agg #[.int .i64 y21.Code, .slice A23 y21.Values.length p24]) hk rfl rfl rfl rfl (fun w hs => sln [.int .i64 y21.Code, .slice A23 y21.Values.length p24] rfl hk rfl rfl rfl ag34 sz34 (box_cells hs (k := 6) rfl) fun a hk => qe hk) fun a hk => ?_
     refine tsst hk rfl rfl (fun K_r44_1 hK_r44_1 w hF => ?_) wt_stop
     have hs := hs.f hF
     refine sln [.int .i64 x0.Code, .slice A0_0 x0.Values.length p0_0] rfl hk rfl rfl rfl ag31 sz31 (box_cells hs (k := 3) rfl) fun a hk => ?_
     refine se (hs.pick [(3, 3), (6, 6), (5, 5)] rfl) hk (hK_r44_1 _ _ ?_)
     refine tsst hk rfl rfl (fun K_r44_2 hK_r44_2 w hF => ?_) wt_stop
     have hs := hs.f hF
     obtain ⟨y45, h46, H⟩ := bind_some H
     refine sc rfl en11 hk rfl rfl rfl (laws_toResult_t _ x0 A0_0 p0_0 _ v0_0 (hs.hasD (k := 1) rfl) _ h46) ?_
     rintro _ w ⟨A47, p48, k49, rfl, o50, hG⟩ a hk
     have hs := hs.call0k hG [9] rfl
     refine se (hs.pick [(3, 3), (6, 6), (5, 5)] rfl) hk (hK_r44_2 _ _ ?_)
     refine tsst hk rfl rfl (fun K_r44_3 hK_r44_3 w hF => ?_) wt_stop
     have hs := hs.f hF
     obtain ⟨y51, h52, H⟩ := bind_some H
     refine sc rfl en13 hk rfl rfl rfl (laws_eqResult_t _ y21 A23 p24 _ o26.view (hs.hasG (k := 5) rfl) y45 A47 p48 _ o50.view (hs.hasG (k := 9) rfl) _ h52) ?_
     rintro _ w ⟨rfl, hG⟩ a hk
     have hs := hs.call0 hG
     refine se (hs.pick [(3, 3), (6, 6), (5, 5)] rfl) hk (hK_r44_3 _ _ ?_)
     refine tsst hk rfl rfl (fun K_r44_4 hK_r44_4 w hF => ?_) wt_stop
     have hs := hs.f hF
     refine sv (.bool (!y51)) hk rfl rfl rfl fun a hk => ?_
     refine se (hs.pick [(3, 3), (6, 6), (5, 5)] rfl) hk (hK_r44_4 _ _ ?_)
     refine wtl_nil fun w hF _ => ?_
     have hs := hs.f hF
     refine hK43 _ _ ?_
     rcases cond_some H with ⟨c53, H⟩ | ⟨c53, H⟩
     ·have hk := hk.lit 39 c53 rfl
      refine cnd_true hk rfl rfl ?_
      apply wp_seq_k; intro K54 hK54
      apply wp_region_lit
      refine sa _ rfl hk rfl rfl rfl fun a hk => ?_
      show wpList _ _ _ [] _ _
      refine wpList_nil ?_
      refine hK54 _ _ ?_
      have hs := hs.pick [] rfl
      refine wp_ret ?_
      obtain rfl := Option.some.inj H
      exact fin hk _ [(.bool false)] rfl ⟨rfl, trivial⟩ ⟨rfl, (hs.pick [] rfl).dnil⟩
     ·have hk := hk.lit 39 c53 rfl
      refine cnd_false hk rfl rfl ?_
      refine wp_skip ?_
      refine hK42 _ _ ?_
      have hs := hs.pick [] rfl
      apply wp_seq_k; intro K55 hK55
      apply wp_region_lit
      refine sa _ rfl hk rfl rfl rfl fun a hk => ?_
      show wpList _ _ _ [] _ _
      refine wpList_nil ?_
      refine hK55 _ _ ?_
      refine wp_ret ?_
      obtain rfl := Option.some.inj H
      exact fin hk _ [(.bool true)] rfl ⟨rfl, trivial⟩ ⟨rfl, (hs.pick [] rfl).dnil⟩

end Go.Proofs.YteablpohefcohaaDoor
