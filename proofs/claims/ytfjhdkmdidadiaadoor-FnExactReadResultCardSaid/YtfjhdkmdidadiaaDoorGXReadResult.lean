/- The functions that FnExactReadResult reaches: for each a model and the walk that shows that the Go code comes to it. -/
import Derived.Test.YtfjhdkmdidadiaaDoorT
namespace Go.Proofs.YtfjhdkmdidadiaaDoor
open Go Go.Z Go.Proofs Go.MuLone Go.ChangeShapes Go.WideShapes Go.ChangeAt Go.RowKit
set_option linter.unusedVariables false
set_option linter.unusedSimpArgs false
noncomputable def laws_eqIntS.s0 (l0 : List Int) (l1 : List Int) (u10 : Int) : Option ((Int) ⊕ Ex (Unit) (Bool)) :=
  (bif (decide (u10 < (l0.length : Int))) then (if 0 ≤ u10 ∧ u10 < (l0.length : Int) then (if 0 ≤ u10 ∧ u10 < (l1.length : Int) then (bif ((l0.getD u10.toNat 0) != (l1.getD u10.toNat 0)) then (some (.inr (.ret false))) else (some (.inl (w64 (u10 + 1))))) else none) else none) else (some (.inr (.out ()))))
noncomputable def laws_eqIntS.f (l0 : List Int) (l1 : List Int) : Option (Bool) :=
  (bif ((l0.length : Int) != (l1.length : Int)) then (some false) else ((loopO (fun s => laws_eqIntS.s0 l0 l1 s) 0).bind fun o => match o with | .out _ => (some true) | .ret r => (some r)))
set_option maxRecDepth 100000 in
set_option maxHeartbeats 0 in
theorem laws_eqIntS_t (w0 : World) (A0_ : Option Addr) (p0_ : Nat) (l0 : List Int) (k0_ : Chunk) (v0_ : View (Lay.int .i64) A0_ p0_ l0 k0_) (w0_ : Has w0 k0_) (A1_ : Option Addr) (p1_ : Nat) (l1 : List Int) (k1_ : Chunk) (v1_ : View (Lay.int .i64) A1_ p1_ l1 k1_) (w1_ : Has w0 k1_) (r : Bool) (H : laws_eqIntS.f l0 l1 = some r) :
    Calls Tryd.prog 38 #[.slice A0_ l0.length p0_, .slice A1_ l1.length p1_] w0 (Ret (fun v w => v = .bool r ∧ Sat [] w0 w [] [])) := by
  have hs : Sat [] w0 w0 [(1, k0_), (2, k1_)] [] := Sat.init w0 [(1, k0_), (2, k1_)] [] (by simp only [List.mem_cons, List.not_mem_nil, or_false]; rintro x (rfl | rfl) <;> assumption) (by simp) List.nodup_nil (by simp [blks])
  unfold laws_eqIntS.f at H
  refine enter Tryd.func38 rfl Tryd.ntmps38 rfl fun a hk => ?_
  apply wp_seq_k; intro K1 hK1
  apply wp_region_lit
  refine sa _ rfl hk rfl rfl rfl fun a hk => ?_
  show wpList _ _ _ [] _ _
  refine wpList_nil ?_
  refine hK1 _ _ ?_
  apply wp_seq_k; intro K2 hK2
  apply wp_seq_k; intro K3 hK3
  apply wp_region_lit
  refine sm _ rfl hk rfl rfl rfl fun a hk => ?_
  refine sle rfl hk rfl rfl rfl un29 fun a hk => ?_
  refine sm _ rfl hk rfl rfl rfl fun a hk => ?_
  refine sle rfl hk rfl rfl rfl un29 fun a hk => ?_
  refine sv (.bool ((l0.length : Int) != (l1.length : Int))) hk rfl rfl rfl fun a hk => ?_
  show wpList _ _ _ [] _ _
  refine wpList_nil ?_
  refine hK3 _ _ ?_
  rcases cond_some H with ⟨c4, H⟩ | ⟨c4, H⟩
  ·have hk := hk.lit 10 c4 rfl
   refine cnd_true hk rfl rfl ?_
   apply wp_seq_k; intro K5 hK5
   apply wp_region_lit
   refine sa _ rfl hk rfl rfl rfl fun a hk => ?_
   show wpList _ _ _ [] _ _
   refine wpList_nil ?_
   refine hK5 _ _ ?_
   refine wp_ret ?_
   obtain rfl := Option.some.inj H
   exact fin hk _ [(.bool false)] rfl ⟨rfl, trivial⟩ ⟨rfl, (hs.pick [] rfl).dnil⟩
  ·have hk := hk.lit 10 c4 rfl
   refine cnd_false hk rfl rfl ?_
   refine wp_skip ?_
   refine hK2 _ _ ?_
   apply wp_seq_k; intro K6 hK6
   apply wp_seq_k; intro K7 hK7
   apply wp_region_lit
   refine sa _ rfl hk rfl rfl rfl fun a hk => ?_
   show wpList _ _ _ [] _ _
   refine wpList_nil ?_
   refine hK7 _ _ ?_
   have hs := hs.pick [] rfl
   obtain ⟨o11, h12, HL13⟩ := bind_some H
   clear H
   obtain ⟨R14, hR14⟩ : ∃ R : Act → World → Prop, R = fun a w => o11 = .out () ∧ Kn [] 26 a ∧ Sat [] w0 w [(1, k0_), (2, k1_)] [] := ⟨_, rfl⟩
   refine wp_cutq R14 ?_ ?_
   ·refine wp_block ?_
    obtain ⟨fu16, h12⟩ := loopO_some h12
    obtain ⟨I15, hI15⟩ : ∃ I : Nat → Act → World → Prop, I = fun fu a w => ∃ (u10 : Int), loopN (fun s => laws_eqIntS.s0 l0 l1 s) fu u10 = some o11 ∧ Kn [(0, (.slice A0_ l0.length p0_)), (1, (.slice A1_ l1.length p1_)), (5, (.int .i64 u10))] 26 a ∧ Sat [] w0 w [(1, k0_), (2, k1_)] [] := ⟨_, rfl⟩
    refine wp_loop_ghost I15 fu16 ?_ ?_
    ·rw [hI15]
     exact ⟨0, h12, (hk.c 0 rfl (hk.c 1 rfl (hk.c 5 rfl hk.k))), (hs.pick [] rfl)⟩
    ·clear h12 hk hs
     intro fu16 a w hI0
     rw [hI15] at hI0
     obtain ⟨u10, hi, hk, hs⟩ := hI0
     obtain ⟨x17, H, h18⟩ := loop_round hi
     try dsimp only at H
     unfold laws_eqIntS.s0 at H
     apply wp_seq_k; intro K19 hK19
     apply wp_seq_k; intro K20 hK20
     apply wp_region_lit
     refine sm _ rfl hk rfl rfl rfl fun a hk => ?_
     refine sm _ rfl hk rfl rfl rfl fun a hk => ?_
     refine sle rfl hk rfl rfl rfl un29 fun a hk => ?_
     refine sv (.bool (decide (u10 < (l0.length : Int)))) hk rfl rfl rfl fun a hk => ?_
     show wpList _ _ _ [] _ _
     refine wpList_nil ?_
     refine hK20 _ _ ?_
     rcases cond_some H with ⟨c21, H⟩ | ⟨c21, H⟩
     ·have hk := hk.lit 14 c21 rfl
      refine cnd_true hk rfl rfl ?_
      refine wp_skip ?_
      refine hK19 _ _ ?_
      apply wp_seq_k; intro K22 hK22
      refine wp_block ?_
      apply wp_seq_k; intro K23 hK23
      refine wp_region_tree (.q 0 (.q 1 (.q 2 (.q 3 (.q 4 (.alt 5 (.alt 6 (.alt 7 (.alt 8 .done .stop) .stop) .stop) .stop)))))) mo (by kernel_rfl) (hs.pick [] rfl) fun _ => ?_
      have hs := hs.drew
      refine tqst (.slice A0_ l0.length p0_) hk rfl rfl rfl rfl (fun w hs => sm _ rfl hk rfl rfl rfl fun a hk => qe hk) fun a hk => ?_
      refine tqst (.int .i64 u10) hk rfl rfl rfl rfl (fun w hs => sm _ rfl hk rfl rfl rfl fun a hk => qe hk) fun a hk => ?_
      rcases ite_some H with ⟨c25, H⟩ | ⟨_, H⟩
      rotate_left
      ·cases H
      obtain ⟨b26, q27, hAc25⟩ := (v0_).some_ u10 c25.1 c25.2
      refine tqst (.pointer (some (padd A0_ (u10.toNat * 1)))) hk rfl rfl rfl rfl (fun w hs => si rfl hk rfl rfl rfl rfl un29 sz3 c25.1 c25.2 hAc25 fun a hk => qe hk) fun a hk => ?_
      obtain ⟨_, rfl, e28⟩ := (v0_).at_ 0 u10 c25.1 c25.2
      refine tqst (.int .i64 (l0.getD u10.toNat 0)) hk rfl rfl rfl rfl (fun w hs => sl (v := (.int .i64 (l0.getD u10.toNat 0))) rfl hk rfl rfl rfl ag3 ((e28 0 _ rfl).cell (hs.hasD (k := 1) rfl)) fun a hk => qe hk) fun a hk => ?_
      refine tqst (.slice A1_ l1.length p1_) hk rfl rfl rfl rfl (fun w hs => sm _ rfl hk rfl rfl rfl fun a hk => qe hk) fun a hk => ?_
      refine tsst hk rfl rfl (fun K_r24_5 hK_r24_5 w hF => ?_) wt_stop
      have hs := hs.f hF
      refine sm _ rfl hk rfl rfl rfl fun a hk => ?_
      refine se (hs.pick [] rfl) hk (hK_r24_5 _ _ ?_)
      refine tsst hk rfl rfl (fun K_r24_6 hK_r24_6 w hF => ?_) wt_stop
      have hs := hs.f hF
      rcases ite_some H with ⟨c29, H⟩ | ⟨_, H⟩
      rotate_left
      ·cases H
      obtain ⟨b30, q31, hAc29⟩ := (v1_).some_ u10 c29.1 c29.2
      refine si rfl hk rfl rfl rfl rfl un29 sz3 c29.1 c29.2 hAc29 fun a hk => ?_
      refine se (hs.pick [] rfl) hk (hK_r24_6 _ _ ?_)
      refine tsst hk rfl rfl (fun K_r24_7 hK_r24_7 w hF => ?_) wt_stop
      have hs := hs.f hF
      obtain ⟨_, rfl, e32⟩ := (v1_).at_ 0 u10 c29.1 c29.2
      refine sl (v := (.int .i64 (l1.getD u10.toNat 0))) rfl hk rfl rfl rfl ag3 ((e32 0 _ rfl).cell (hs.hasD (k := 2) rfl)) fun a hk => ?_
      refine se (hs.pick [] rfl) hk (hK_r24_7 _ _ ?_)
      refine tsst hk rfl rfl (fun K_r24_8 hK_r24_8 w hF => ?_) wt_stop
      have hs := hs.f hF
      refine sv (.bool ((l0.getD u10.toNat 0) != (l1.getD u10.toNat 0))) hk rfl rfl rfl fun a hk => ?_
      refine se (hs.pick [] rfl) hk (hK_r24_8 _ _ ?_)
      refine wtl_nil fun w hF _ => ?_
      have hs := hs.f hF
      refine hK23 _ _ ?_
      rcases cond_some H with ⟨c33, H⟩ | ⟨c33, H⟩
      ·have hk := hk.lit 25 c33 rfl
       refine cnd_true hk rfl rfl ?_
       apply wp_seq_k; intro K34 hK34
       apply wp_region_lit
       refine sa _ rfl hk rfl rfl rfl fun a hk => ?_
       show wpList _ _ _ [] _ _
       refine wpList_nil ?_
       refine hK34 _ _ ?_
       have hs := hs.pick [] rfl
       refine wp_ret ?_
       obtain rfl := Option.some.inj H
       have ho11 := h18
       try dsimp only at ho11
       subst ho11
       have H := HL13
       try dsimp only at H
       obtain rfl := Option.some.inj H
       exact fin hk _ [(.bool false)] rfl ⟨rfl, trivial⟩ ⟨rfl, (hs.pick [] rfl).dnil⟩
      ·have hk := hk.lit 25 c33 rfl
       refine cnd_false hk rfl rfl ?_
       refine wp_skip ?_
       refine hK22 _ _ ?_
       have hs := hs.pick [] rfl
       apply wp_region_lit
       refine sm _ rfl hk rfl rfl rfl fun a hk => ?_
       refine sv (.int .i64 (w64 (u10 + 1))) hk rfl rfl rfl fun a hk => ?_
       refine sa _ rfl hk rfl rfl rfl fun a hk => ?_
       show wpList _ _ _ [] _ _
       refine wpList_nil ?_
       obtain rfl := Option.some.inj H
       obtain ⟨m35, hmm35, h18⟩ := h18
       show ∃ n', n' < _ ∧ I15 n' _ _
       refine ⟨m35, hmm35, ?_⟩
       rw [hI15]
       exact ⟨(w64 (u10 + 1)), h18, (hk.c 0 rfl (hk.c 1 rfl (hk.c 5 rfl hk.k))), (hs.pick [] rfl)⟩
     ·have hk := hk.lit 14 c21 rfl
      refine cnd_false hk rfl rfl ?_
      refine wp_exit ?_
      obtain rfl := Option.some.inj H
      show R14 _ _
      rw [hR14]
      exact ⟨h18.symm, hk.k, (hs.pick [] rfl)⟩
   ·intro a w hR0
    rw [hR14] at hR0
    obtain ⟨rfl, hk, hs⟩ := hR0
    have H := HL13
    try dsimp only at H
    refine hK6 _ _ ?_
    apply wp_seq_k; intro K36 hK36
    apply wp_region_lit
    refine sa _ rfl hk rfl rfl rfl fun a hk => ?_
    show wpList _ _ _ [] _ _
    refine wpList_nil ?_
    refine hK36 _ _ ?_
    refine wp_ret ?_
    obtain rfl := Option.some.inj H
    exact fin hk _ [(.bool true)] rfl ⟨rfl, trivial⟩ ⟨rfl, (hs.pick [] rfl).dnil⟩

noncomputable def laws_eqResult.f (x0 : S_Result) (x1 : S_Result) : Option (Bool) :=
  (bif (x0.Code != x1.Code) then (some false) else ((laws_eqIntS.f x0.Values x1.Values).bind fun y10 => (bif (!y10) then (some false) else (some true))))
set_option maxRecDepth 100000 in
set_option maxHeartbeats 0 in
theorem laws_eqResult_t (w0 : World) (x0 : S_Result) (A0_0 : Option Addr) (p0_0 : Nat) (k0_0 : Chunk) (v0_0 : View (Lay.int .i64) A0_0 p0_0 x0.Values k0_0) (w0_0 : Has w0 k0_0) (x1 : S_Result) (A1_0 : Option Addr) (p1_0 : Nat) (k1_0 : Chunk) (v1_0 : View (Lay.int .i64) A1_0 p1_0 x1.Values k1_0) (w1_0 : Has w0 k1_0) (r : Bool) (H : laws_eqResult.f x0 x1 = some r) :
    Calls Tryd.prog 15 #[.agg #[.int .i64 x0.Code, .slice A0_0 x0.Values.length p0_0], .agg #[.int .i64 x1.Code, .slice A1_0 x1.Values.length p1_0]] w0 (Ret (fun v w => v = .bool r ∧ Sat [] w0 w [] [])) := by
  have hs : Sat [] w0 w0 [(1, k0_0), (2, k1_0)] [] := Sat.init w0 [(1, k0_0), (2, k1_0)] [] (by simp only [List.mem_cons, List.not_mem_nil, or_false]; rintro x (rfl | rfl) <;> assumption) (by simp) List.nodup_nil (by simp [blks])
  unfold laws_eqResult.f at H
  refine enter Tryd.func15 rfl Tryd.ntmps15 rfl fun a hk => ?_
  apply wp_seq_k; intro K1 hK1
  apply wp_region_lit
  refine sbx 3 hs rfl hk rfl rfl rfl rfl fun b2 w a hk hs => ?_
  refine sbx 4 hs rfl hk rfl rfl rfl rfl fun b3 w a hk hs => ?_
  refine sa _ rfl hk rfl rfl rfl fun a hk => ?_
  show wpList _ _ _ [] _ _
  refine wpList_nil ?_
  refine hK1 _ _ ?_
  apply wp_seq_k; intro K4 hK4
  apply wp_seq_k; intro K5 hK5
  apply wp_region_lit
  refine sf ⟨b2, 0, none⟩ rfl hk rfl rfl rfl fd34_0 rfl fun a hk => ?_
  refine sl rfl hk rfl rfl rfl ag3 (box_cell hs (k := 3) rfl rfl) fun a hk => ?_
  refine sf ⟨b3, 0, none⟩ rfl hk rfl rfl rfl fd34_0 rfl fun a hk => ?_
  refine sl rfl hk rfl rfl rfl ag3 (box_cell hs (k := 4) rfl rfl) fun a hk => ?_
  refine sv (.bool (x0.Code != x1.Code)) hk rfl rfl rfl fun a hk => ?_
  show wpList _ _ _ [] _ _
  refine wpList_nil ?_
  refine hK5 _ _ ?_
  rcases cond_some H with ⟨c6, H⟩ | ⟨c6, H⟩
  ·have hk := hk.lit 9 c6 rfl
   refine cnd_true hk rfl rfl ?_
   apply wp_seq_k; intro K7 hK7
   apply wp_region_lit
   refine sa _ rfl hk rfl rfl rfl fun a hk => ?_
   show wpList _ _ _ [] _ _
   refine wpList_nil ?_
   refine hK7 _ _ ?_
   refine wp_ret ?_
   obtain rfl := Option.some.inj H
   exact fin hk _ [(.bool false)] rfl ⟨rfl, trivial⟩ ⟨rfl, (hs.pick [] rfl).dnil⟩
  ·have hk := hk.lit 9 c6 rfl
   refine cnd_false hk rfl rfl ?_
   refine wp_skip ?_
   refine hK4 _ _ ?_
   apply wp_seq_k; intro K8 hK8
   apply wp_seq_k; intro K9 hK9
   apply wp_region_lit
   refine sf ⟨b2, 1, none⟩ rfl hk rfl rfl rfl fd34_1 rfl fun a hk => ?_
   refine sl rfl hk rfl rfl rfl ag29 (box_cell hs (k := 3) rfl rfl) fun a hk => ?_
   refine sf ⟨b3, 1, none⟩ rfl hk rfl rfl rfl fd34_1 rfl fun a hk => ?_
   refine sl rfl hk rfl rfl rfl ag29 (box_cell hs (k := 4) rfl rfl) fun a hk => ?_
   obtain ⟨y10, h11, H⟩ := bind_some H
   refine sc rfl en38 hk rfl rfl rfl (laws_eqIntS_t _ A0_0 p0_0 x0.Values _ v0_0 (hs.hasD (k := 1) rfl) A1_0 p1_0 x1.Values _ v1_0 (hs.hasD (k := 2) rfl) _ h11) ?_
   rintro _ w ⟨rfl, hG⟩ a hk
   have hs := hs.call0 hG
   refine sv (.bool (!y10)) hk rfl rfl rfl fun a hk => ?_
   show wpList _ _ _ [] _ _
   refine wpList_nil ?_
   refine hK9 _ _ ?_
   have hs := hs.pick [] rfl
   rcases cond_some H with ⟨c12, H⟩ | ⟨c12, H⟩
   ·have hk := hk.lit 15 c12 rfl
    refine cnd_true hk rfl rfl ?_
    apply wp_seq_k; intro K13 hK13
    apply wp_region_lit
    refine sa _ rfl hk rfl rfl rfl fun a hk => ?_
    show wpList _ _ _ [] _ _
    refine wpList_nil ?_
    refine hK13 _ _ ?_
    refine wp_ret ?_
    obtain rfl := Option.some.inj H
    exact fin hk _ [(.bool false)] rfl ⟨rfl, trivial⟩ ⟨rfl, (hs.pick [] rfl).dnil⟩
   ·have hk := hk.lit 15 c12 rfl
    refine cnd_false hk rfl rfl ?_
    refine wp_skip ?_
    refine hK8 _ _ ?_
    apply wp_seq_k; intro K14 hK14
    apply wp_region_lit
    refine sa _ rfl hk rfl rfl rfl fun a hk => ?_
    show wpList _ _ _ [] _ _
    refine wpList_nil ?_
    refine hK14 _ _ ?_
    refine wp_ret ?_
    obtain rfl := Option.some.inj H
    exact fin hk _ [(.bool true)] rfl ⟨rfl, trivial⟩ ⟨rfl, (hs.pick [] rfl).dnil⟩

noncomputable def spec_l01In.f (x0 : Int) (x1 : Int) (x2 : Int) : Option (Bool) :=
  (((bif (decide (x1 ≤ x0)) then (some (decide (x0 ≤ x2))) else (some false)) : Option (Bool)).bind fun u4 => (some u4))
set_option maxRecDepth 100000 in
set_option maxHeartbeats 0 in
theorem spec_l01In_t (w0 : World) (x0 : Int) (x1 : Int) (x2 : Int) (r : Bool) (H : spec_l01In.f x0 x1 x2 = some r) :
    Calls Tryd.prog 57 #[.int .i64 x0, .int .i64 x1, .int .i64 x2] w0 (Ret (fun v w => v = .bool r ∧ Sat [] w0 w [] [])) := by
  have hs : Sat [] w0 w0 [] [] := Sat.init w0 [] [] (by simp) (by simp) List.nodup_nil (by simp [blks])
  unfold spec_l01In.f at H
  refine enter Tryd.func57 rfl Tryd.ntmps57 rfl fun a hk => ?_
  apply wp_seq_k; intro K1 hK1
  apply wp_region_lit
  refine sa _ rfl hk rfl rfl rfl fun a hk => ?_
  show wpList _ _ _ [] _ _
  refine wpList_nil ?_
  refine hK1 _ _ ?_
  apply wp_seq_k; intro K2 hK2
  obtain ⟨o5, h6, HL7⟩ := bind_some H
  clear H
  obtain ⟨R8, hR8⟩ : ∃ R : Act → World → Prop, R = fun a w => ∃ (u4 : Bool), u4 = o5 ∧ Kn [(6, (.bool u4))] 15 a ∧ Sat [] w0 w [] [] := ⟨_, rfl⟩
  refine wp_cutq R8 ?_ ?_
  ·have H := h6
   apply wp_region_lit
   refine sm _ rfl hk rfl rfl rfl fun a hk => ?_
   refine sm _ rfl hk rfl rfl rfl fun a hk => ?_
   refine sv (.bool (decide (x1 ≤ x0))) hk rfl rfl rfl fun a hk => ?_
   refine sm _ rfl hk rfl rfl rfl fun a hk => ?_
   rcases cond_some H with ⟨c9, H⟩ | ⟨c9, H⟩
   ·have hk := hk.lit 10 c9 rfl
    refine sm _ rfl hk rfl rfl rfl fun a hk => ?_
    refine sm _ rfl hk rfl rfl rfl fun a hk => ?_
    refine sv (.bool (decide (x0 ≤ x2))) hk rfl rfl rfl fun a hk => ?_
    refine sv (.bool (decide (x0 ≤ x2))) hk rfl rfl rfl fun a hk => ?_
    refine sa _ rfl hk rfl rfl rfl fun a hk => ?_
    show wpList _ _ _ [] _ _
    refine wpList_nil ?_
    obtain rfl := Option.some.inj H
    show R8 _ _
    rw [hR8]
    exact ⟨(decide (x0 ≤ x2)), rfl, (hk.c 6 rfl hk.k), (hs.pick [] rfl)⟩
   ·have hk := hk.lit 10 c9 rfl
    refine sk hk rfl rfl rfl fun a hk => ?_
    refine sk hk rfl rfl rfl fun a hk => ?_
    refine sk hk rfl rfl rfl fun a hk => ?_
    refine sv (.bool false) hk rfl rfl rfl fun a hk => ?_
    refine sa _ rfl hk rfl rfl rfl fun a hk => ?_
    show wpList _ _ _ [] _ _
    refine wpList_nil ?_
    obtain rfl := Option.some.inj H
    show R8 _ _
    rw [hR8]
    exact ⟨false, rfl, (hk.c 6 rfl hk.k), (hs.pick [] rfl)⟩
  ·intro a w hR0
   rw [hR8] at hR0
   obtain ⟨u4, rfl, hk, hs⟩ := hR0
   have H := HL7
   try dsimp only at H
   refine hK2 _ _ ?_
   refine wp_ret ?_
   obtain rfl := Option.some.inj H
   exact fin hk _ [(.bool u4)] rfl ⟨rfl, trivial⟩ ⟨rfl, (hs.pick [] rfl).dnil⟩

noncomputable def spec_l10ResultOK.s0 (x0 : S_Result) (u22 : Int) : Option ((Int) ⊕ Ex (Unit) (Bool)) :=
  (bif (decide (u22 < (x0.Values.length : Int))) then (if 0 ≤ u22 ∧ u22 < (x0.Values.length : Int) then ((spec_l01In.f (x0.Values.getD u22.toNat 0) 0 999999).bind fun y40 => (bif (!y40) then (some (.inr (.ret false))) else (some (.inl (w64 (u22 + 1)))))) else none) else (some (.inr (.out ()))))
noncomputable def spec_l10ResultOK.f (x0 : S_Result) : Option (Bool) :=
  ((((spec_l01In.f x0.Code 0 19).bind fun y11 => (bif (!y11) then (some true) else (bif (decide ((x0.Values.length : Int) > 32)) then (some true) else (bif (x0.Code != 0) then (some (decide ((x0.Values.length : Int) > 0))) else (some false))))) : Option (Bool)).bind fun u6 => (bif u6 then (some false) else ((loopO (fun s => spec_l10ResultOK.s0 x0 s) 0).bind fun o => match o with | .out _ => (some true) | .ret r => (some r))))
set_option maxRecDepth 100000 in
set_option maxHeartbeats 0 in
theorem spec_l10ResultOK_t (w0 : World) (x0 : S_Result) (A0_0 : Option Addr) (p0_0 : Nat) (k0_0 : Chunk) (v0_0 : View (Lay.int .i64) A0_0 p0_0 x0.Values k0_0) (w0_0 : Has w0 k0_0) (r : Bool) (H : spec_l10ResultOK.f x0 = some r) :
    Calls Tryd.prog 33 #[.agg #[.int .i64 x0.Code, .slice A0_0 x0.Values.length p0_0]] w0 (Ret (fun v w => v = .bool r ∧ Sat [] w0 w [] [])) := by
  have hs : Sat [] w0 w0 [(1, k0_0)] [] := Sat.init w0 [(1, k0_0)] [] (by simp only [List.mem_cons, List.not_mem_nil, or_false]; rintro x (rfl) <;> assumption) (by simp) List.nodup_nil (by simp [blks])
  unfold spec_l10ResultOK.f at H
  refine enter Tryd.func33 rfl Tryd.ntmps33 rfl fun a hk => ?_
  apply wp_seq_k; intro K1 hK1
  apply wp_region_lit
  refine sbx 2 hs rfl hk rfl rfl rfl rfl fun b2 w a hk hs => ?_
  refine sa _ rfl hk rfl rfl rfl fun a hk => ?_
  show wpList _ _ _ [] _ _
  refine wpList_nil ?_
  refine hK1 _ _ ?_
  apply wp_seq_k; intro K3 hK3
  apply wp_seq_k; intro K4 hK4
  obtain ⟨o7, h8, HL9⟩ := bind_some H
  clear H
  obtain ⟨R10, hR10⟩ : ∃ R : Act → World → Prop, R = fun a w => ∃ (u6 : Bool), u6 = o7 ∧ Kn [(1, (.pointer (some ⟨b2, 0, none⟩))), (24, (.bool u6))] 39 a ∧ Sat [] w0 w [(1, k0_0)] [(2, [(b2, .cells #[.int .i64 x0.Code, .slice A0_0 x0.Values.length p0_0] 34 (0, 0))])] := ⟨_, rfl⟩
  refine wp_cutq R10 ?_ ?_
  ·have H := h8
   apply wp_region_lit
   refine sf ⟨b2, 0, none⟩ rfl hk rfl rfl rfl fd34_0 rfl fun a hk => ?_
   refine sl rfl hk rfl rfl rfl ag3 (box_cell hs (k := 2) rfl rfl) fun a hk => ?_
   obtain ⟨y11, h12, H⟩ := bind_some H
   refine sc rfl en57 hk rfl rfl rfl (spec_l01In_t _ x0.Code 0 19 _ h12) ?_
   rintro _ w ⟨rfl, hG⟩ a hk
   have hs := hs.call0 hG
   refine sv (.bool (!y11)) hk rfl rfl rfl fun a hk => ?_
   refine sm _ rfl hk rfl rfl rfl fun a hk => ?_
   rcases cond_some H with ⟨c13, H⟩ | ⟨c13, H⟩
   ·have hk := hk.lit 8 c13 rfl
    refine sk hk rfl rfl rfl fun a hk => ?_
    refine sk hk rfl rfl rfl fun a hk => ?_
    refine sk hk rfl rfl rfl fun a hk => ?_
    refine sk hk rfl rfl rfl fun a hk => ?_
    refine sv (.bool true) hk rfl rfl rfl fun a hk => ?_
    refine sm _ rfl hk rfl rfl rfl fun a hk => ?_
    refine sk hk rfl rfl rfl fun a hk => ?_
    refine sk hk rfl rfl rfl fun a hk => ?_
    refine sk hk rfl rfl rfl fun a hk => ?_
    refine sk hk rfl rfl rfl fun a hk => ?_
    refine sk hk rfl rfl rfl fun a hk => ?_
    refine sk hk rfl rfl rfl fun a hk => ?_
    refine sk hk rfl rfl rfl fun a hk => ?_
    refine sk hk rfl rfl rfl fun a hk => ?_
    refine sk hk rfl rfl rfl fun a hk => ?_
    refine sv (.bool true) hk rfl rfl rfl fun a hk => ?_
    show wpList _ _ _ [] _ _
    refine wpList_nil ?_
    obtain rfl := Option.some.inj H
    show R10 _ _
    rw [hR10]
    exact ⟨true, rfl, (hk.c 1 rfl (hk.c 24 rfl hk.k)), (hs.pick [(2, 2)] rfl)⟩
   ·have hk := hk.lit 8 c13 rfl
    refine sf ⟨b2, 1, none⟩ rfl hk rfl rfl rfl fd34_1 rfl fun a hk => ?_
    refine sl rfl hk rfl rfl rfl ag29 (box_cell hs (k := 2) rfl rfl) fun a hk => ?_
    refine sle rfl hk rfl rfl rfl un29 fun a hk => ?_
    refine sv (.bool (decide ((x0.Values.length : Int) > 32))) hk rfl rfl rfl fun a hk => ?_
    refine sv (.bool (decide ((x0.Values.length : Int) > 32))) hk rfl rfl rfl fun a hk => ?_
    refine sm _ rfl hk rfl rfl rfl fun a hk => ?_
    rcases cond_some H with ⟨c14, H⟩ | ⟨c14, H⟩
    ·have hk := hk.lit 14 c14 rfl
     refine sk hk rfl rfl rfl fun a hk => ?_
     refine sk hk rfl rfl rfl fun a hk => ?_
     refine sk hk rfl rfl rfl fun a hk => ?_
     refine sk hk rfl rfl rfl fun a hk => ?_
     refine sk hk rfl rfl rfl fun a hk => ?_
     refine sk hk rfl rfl rfl fun a hk => ?_
     refine sk hk rfl rfl rfl fun a hk => ?_
     refine sk hk rfl rfl rfl fun a hk => ?_
     refine sk hk rfl rfl rfl fun a hk => ?_
     refine sv (.bool true) hk rfl rfl rfl fun a hk => ?_
     show wpList _ _ _ [] _ _
     refine wpList_nil ?_
     obtain rfl := Option.some.inj H
     show R10 _ _
     rw [hR10]
     exact ⟨true, rfl, (hk.c 1 rfl (hk.c 24 rfl hk.k)), (hs.pick [(2, 2)] rfl)⟩
    ·have hk := hk.lit 14 c14 rfl
     refine sf ⟨b2, 0, none⟩ rfl hk rfl rfl rfl fd34_0 rfl fun a hk => ?_
     refine sl rfl hk rfl rfl rfl ag3 (box_cell hs (k := 2) rfl rfl) fun a hk => ?_
     refine sv (.bool (x0.Code != 0)) hk rfl rfl rfl fun a hk => ?_
     refine sm _ rfl hk rfl rfl rfl fun a hk => ?_
     rcases cond_some H with ⟨c15, H⟩ | ⟨c15, H⟩
     ·have hk := hk.lit 18 c15 rfl
      refine sf ⟨b2, 1, none⟩ rfl hk rfl rfl rfl fd34_1 rfl fun a hk => ?_
      refine sl rfl hk rfl rfl rfl ag29 (box_cell hs (k := 2) rfl rfl) fun a hk => ?_
      refine sle rfl hk rfl rfl rfl un29 fun a hk => ?_
      refine sv (.bool (decide ((x0.Values.length : Int) > 0))) hk rfl rfl rfl fun a hk => ?_
      refine sv (.bool (decide ((x0.Values.length : Int) > 0))) hk rfl rfl rfl fun a hk => ?_
      refine sv (.bool (decide ((x0.Values.length : Int) > 0))) hk rfl rfl rfl fun a hk => ?_
      show wpList _ _ _ [] _ _
      refine wpList_nil ?_
      obtain rfl := Option.some.inj H
      show R10 _ _
      rw [hR10]
      exact ⟨(decide ((x0.Values.length : Int) > 0)), rfl, (hk.c 1 rfl (hk.c 24 rfl hk.k)), (hs.pick [(2, 2)] rfl)⟩
     ·have hk := hk.lit 18 c15 rfl
      refine sk hk rfl rfl rfl fun a hk => ?_
      refine sk hk rfl rfl rfl fun a hk => ?_
      refine sk hk rfl rfl rfl fun a hk => ?_
      refine sk hk rfl rfl rfl fun a hk => ?_
      refine sv (.bool false) hk rfl rfl rfl fun a hk => ?_
      refine sv (.bool false) hk rfl rfl rfl fun a hk => ?_
      show wpList _ _ _ [] _ _
      refine wpList_nil ?_
      obtain rfl := Option.some.inj H
      show R10 _ _
      rw [hR10]
      exact ⟨false, rfl, (hk.c 1 rfl (hk.c 24 rfl hk.k)), (hs.pick [(2, 2)] rfl)⟩
  ·intro a w hR0
   rw [hR10] at hR0
   obtain ⟨u6, rfl, hk, hs⟩ := hR0
   have H := HL9
   try dsimp only at H
   refine hK4 _ _ ?_
   rcases cond_some H with ⟨c16, H⟩ | ⟨c16, H⟩
   ·have hk := hk.lit 24 c16 rfl
    refine cnd_true hk rfl rfl ?_
    apply wp_seq_k; intro K17 hK17
    apply wp_region_lit
    refine sa _ rfl hk rfl rfl rfl fun a hk => ?_
    show wpList _ _ _ [] _ _
    refine wpList_nil ?_
    refine hK17 _ _ ?_
    refine wp_ret ?_
    obtain rfl := Option.some.inj H
    exact fin hk _ [(.bool false)] rfl ⟨rfl, trivial⟩ ⟨rfl, (hs.pick [] rfl).dnil⟩
   ·have hk := hk.lit 24 c16 rfl
    refine cnd_false hk rfl rfl ?_
    refine wp_skip ?_
    refine hK3 _ _ ?_
    apply wp_seq_k; intro K18 hK18
    apply wp_seq_k; intro K19 hK19
    apply wp_region_lit
    refine sa _ rfl hk rfl rfl rfl fun a hk => ?_
    show wpList _ _ _ [] _ _
    refine wpList_nil ?_
    refine hK19 _ _ ?_
    have hs := hs.pick [(2, 2)] rfl
    obtain ⟨o23, h24, HL25⟩ := bind_some H
    clear H
    obtain ⟨R26, hR26⟩ : ∃ R : Act → World → Prop, R = fun a w => o23 = .out () ∧ Kn [] 39 a ∧ Sat [] w0 w [(1, k0_0)] [] := ⟨_, rfl⟩
    refine wp_cutq R26 ?_ ?_
    ·refine wp_block ?_
     obtain ⟨fu28, h24⟩ := loopO_some h24
     obtain ⟨I27, hI27⟩ : ∃ I : Nat → Act → World → Prop, I = fun fu a w => ∃ (u22 : Int), loopN (fun s => spec_l10ResultOK.s0 x0 s) fu u22 = some o23 ∧ Kn [(1, (.pointer (some ⟨b2, 0, none⟩))), (3, (.int .i64 u22))] 39 a ∧ Sat [] w0 w [(1, k0_0)] [(2, [(b2, .cells #[.int .i64 x0.Code, .slice A0_0 x0.Values.length p0_0] 34 (0, 0))])] := ⟨_, rfl⟩
     refine wp_loop_ghost I27 fu28 ?_ ?_
     ·rw [hI27]
      exact ⟨0, h24, (hk.c 1 rfl (hk.c 3 rfl hk.k)), (hs.pick [(2, 2)] rfl)⟩
     ·clear h24 hk hs
      intro fu28 a w hI0
      rw [hI27] at hI0
      obtain ⟨u22, hi, hk, hs⟩ := hI0
      obtain ⟨x29, H, h30⟩ := loop_round hi
      try dsimp only at H
      unfold spec_l10ResultOK.s0 at H
      apply wp_seq_k; intro K31 hK31
      apply wp_seq_k; intro K32 hK32
      apply wp_region_lit
      refine sm _ rfl hk rfl rfl rfl fun a hk => ?_
      refine sf ⟨b2, 1, none⟩ rfl hk rfl rfl rfl fd34_1 rfl fun a hk => ?_
      refine sl rfl hk rfl rfl rfl ag29 (box_cell hs (k := 2) rfl rfl) fun a hk => ?_
      refine sle rfl hk rfl rfl rfl un29 fun a hk => ?_
      refine sv (.bool (decide (u22 < (x0.Values.length : Int)))) hk rfl rfl rfl fun a hk => ?_
      show wpList _ _ _ [] _ _
      refine wpList_nil ?_
      refine hK32 _ _ ?_
      rcases cond_some H with ⟨c33, H⟩ | ⟨c33, H⟩
      ·have hk := hk.lit 29 c33 rfl
       refine cnd_true hk rfl rfl ?_
       refine wp_skip ?_
       refine hK31 _ _ ?_
       apply wp_seq_k; intro K34 hK34
       refine wp_block ?_
       apply wp_seq_k; intro K35 hK35
       apply wp_region_lit
       refine sf ⟨b2, 1, none⟩ rfl hk rfl rfl rfl fd34_1 rfl fun a hk => ?_
       refine sl rfl hk rfl rfl rfl ag29 (box_cell hs (k := 2) rfl rfl) fun a hk => ?_
       refine sm _ rfl hk rfl rfl rfl fun a hk => ?_
       rcases ite_some H with ⟨c36, H⟩ | ⟨_, H⟩
       rotate_left
       ·cases H
       obtain ⟨b37, q38, hAc36⟩ := (v0_0).some_ u22 c36.1 c36.2
       refine si rfl hk rfl rfl rfl rfl un29 sz3 c36.1 c36.2 hAc36 fun a hk => ?_
       obtain ⟨_, rfl, e39⟩ := (v0_0).at_ 0 u22 c36.1 c36.2
       refine sl (v := (.int .i64 (x0.Values.getD u22.toNat 0))) rfl hk rfl rfl rfl ag3 ((e39 0 _ rfl).cell (hs.hasD (k := 1) rfl)) fun a hk => ?_
       obtain ⟨y40, h41, H⟩ := bind_some H
       refine sc rfl en57 hk rfl rfl rfl (spec_l01In_t _ (x0.Values.getD u22.toNat 0) 0 999999 _ h41) ?_
       rintro _ w ⟨rfl, hG⟩ a hk
       have hs := hs.call0 hG
       refine sv (.bool (!y40)) hk rfl rfl rfl fun a hk => ?_
       show wpList _ _ _ [] _ _
       refine wpList_nil ?_
       refine hK35 _ _ ?_
       rcases cond_some H with ⟨c42, H⟩ | ⟨c42, H⟩
       ·have hk := hk.lit 38 c42 rfl
        refine cnd_true hk rfl rfl ?_
        apply wp_seq_k; intro K43 hK43
        apply wp_region_lit
        refine sa _ rfl hk rfl rfl rfl fun a hk => ?_
        show wpList _ _ _ [] _ _
        refine wpList_nil ?_
        refine hK43 _ _ ?_
        have hs := hs.pick [] rfl
        refine wp_ret ?_
        obtain rfl := Option.some.inj H
        have ho23 := h30
        try dsimp only at ho23
        subst ho23
        have H := HL25
        try dsimp only at H
        obtain rfl := Option.some.inj H
        exact fin hk _ [(.bool false)] rfl ⟨rfl, trivial⟩ ⟨rfl, (hs.pick [] rfl).dnil⟩
       ·have hk := hk.lit 38 c42 rfl
        refine cnd_false hk rfl rfl ?_
        refine wp_skip ?_
        refine hK34 _ _ ?_
        have hs := hs.pick [(2, 2)] rfl
        apply wp_region_lit
        refine sm _ rfl hk rfl rfl rfl fun a hk => ?_
        refine sv (.int .i64 (w64 (u22 + 1))) hk rfl rfl rfl fun a hk => ?_
        refine sa _ rfl hk rfl rfl rfl fun a hk => ?_
        show wpList _ _ _ [] _ _
        refine wpList_nil ?_
        obtain rfl := Option.some.inj H
        obtain ⟨m44, hmm44, h30⟩ := h30
        show ∃ n', n' < _ ∧ I27 n' _ _
        refine ⟨m44, hmm44, ?_⟩
        rw [hI27]
        exact ⟨(w64 (u22 + 1)), h30, (hk.c 1 rfl (hk.c 3 rfl hk.k)), (hs.pick [(2, 2)] rfl)⟩
      ·have hk := hk.lit 29 c33 rfl
       refine cnd_false hk rfl rfl ?_
       refine wp_exit ?_
       obtain rfl := Option.some.inj H
       show R26 _ _
       rw [hR26]
       exact ⟨h30.symm, hk.k, (hs.pick [] rfl)⟩
    ·intro a w hR0
     rw [hR26] at hR0
     obtain ⟨rfl, hk, hs⟩ := hR0
     have H := HL25
     try dsimp only at H
     refine hK18 _ _ ?_
     apply wp_seq_k; intro K45 hK45
     apply wp_region_lit
     refine sa _ rfl hk rfl rfl rfl fun a hk => ?_
     show wpList _ _ _ [] _ _
     refine wpList_nil ?_
     refine hK45 _ _ ?_
     refine wp_ret ?_
     obtain rfl := Option.some.inj H
     exact fin hk _ [(.bool true)] rfl ⟨rfl, trivial⟩ ⟨rfl, (hs.pick [] rfl).dnil⟩

noncomputable def spec_l00Words.s0 (x0 : ByteArray) (u17 : List ByteArray) (u15 : Int) (u16 : Int) : Option (((List ByteArray) × Int × Int) ⊕ Ex ((List ByteArray)) ((List ByteArray))) :=
  (bif (decide (u16 ≤ (x0.size : Int))) then (((bif (u16 == (x0.size : Int)) then (some true) else (if 0 ≤ u16 ∧ u16 < (x0.size : Int) then (some ((byteAt x0 u16) == 32)) else none)) : Option (Bool)).bind fun u41 => (((bif u41 then (((bif (decide (u16 > u15)) then (if 0 ≤ u15 ∧ u15 ≤ u16 ∧ u16 ≤ (x0.size : Int) then (if u17.length + ([(x0.extract u15.toNat u16.toNat)]).length ≤ 1073741824 then (some (u17 ++ ([(x0.extract u15.toNat u16.toNat)]))) else none) else none) else (some u17)) : Option ((List ByteArray))).bind fun u63 => (some (u63, (w64 (u16 + 1))))) else (some (u17, u15))) : Option ((List ByteArray) × Int)).bind fun o => match o with | (u49, u54) => (some (.inl (u49, u54, (w64 (u16 + 1))))))) else (some (.inr (.out u17))))
noncomputable def spec_l00Words.f (x0 : ByteArray) : Option ((List ByteArray)) :=
  ((loopO (fun s => spec_l00Words.s0 x0 s.1 s.2.1 s.2.2) (([] : List ByteArray), 0, 0)).bind fun o => match o with | .out u22 => (some u22) | .ret r => (some r))
set_option maxRecDepth 100000 in
set_option maxHeartbeats 0 in
theorem spec_l00Words_t (w0 : World) (x0 : ByteArray) (r : (List ByteArray)) (H : spec_l00Words.f x0 = some r) :
    Calls Tryd.prog 49 #[.string x0] w0 (Ret (fun v w => ∃ (A0 : Option Addr) (p0 : Nat) (k0 : Chunk), v = .slice A0 r.length p0 ∧ Own Lay.str 9 A0 p0 r k0 ∧ Sat [] w0 w [] [(0, k0)])) := by
  have hs : Sat [] w0 w0 [] [] := Sat.init w0 [] [] (by simp) (by simp) List.nodup_nil (by simp [blks])
  unfold spec_l00Words.f at H
  refine enter Tryd.func49 rfl Tryd.ntmps49 rfl fun a hk => ?_
  apply wp_seq_k; intro K1 hK1
  apply wp_region_lit
  refine sa _ rfl hk rfl rfl rfl fun a hk => ?_
  show wpList _ _ _ [] _ _
  refine wpList_nil ?_
  refine hK1 _ _ ?_
  apply wp_seq_k; intro K2 hK2
  apply wp_region_lit
  refine sbs0 1 Lay.str hs rfl hk rfl rfl un73 sz9 fun b3 k4 w a hk o5 hs => ?_
  refine sa _ rfl hk rfl rfl rfl fun a hk => ?_
  show wpList _ _ _ [] _ _
  refine wpList_nil ?_
  refine hK2 _ _ ?_
  apply wp_seq_k; intro K6 hK6
  apply wp_region_lit
  refine sa _ rfl hk rfl rfl rfl fun a hk => ?_
  show wpList _ _ _ [] _ _
  refine wpList_nil ?_
  refine hK6 _ _ ?_
  apply wp_seq_k; intro K7 hK7
  apply wp_seq_k; intro K8 hK8
  apply wp_region_lit
  refine sa _ rfl hk rfl rfl rfl fun a hk => ?_
  show wpList _ _ _ [] _ _
  refine wpList_nil ?_
  refine hK8 _ _ ?_
  have hs := hs.pick [(1, 1)] rfl
  obtain ⟨o27, h28, HL29⟩ := bind_some H
  clear H
  obtain ⟨R30, hR30⟩ : ∃ R : Act → World → Prop, R = fun a w => ∃ (u22 : List ByteArray) (A25 : Option Addr) (p26 : Nat) (k23 : Chunk), o27 = .out u22 ∧ Kn [(3, (.slice A25 u22.length p26))] 36 a ∧ Sat [] w0 w [] [(1, k23)] ∧ Own Lay.str 9 A25 p26 u22 k23 := ⟨_, rfl⟩
  refine wp_cutq R30 ?_ ?_
  ·refine wp_block ?_
   obtain ⟨fu32, h28⟩ := loopO_some h28
   obtain ⟨I31, hI31⟩ : ∃ I : Nat → Act → World → Prop, I = fun fu a w => ∃ (u17 : List ByteArray) (u15 : Int) (u16 : Int) (A20 : Option Addr) (p21 : Nat) (k18 : Chunk), loopN (fun s => spec_l00Words.s0 x0 s.1 s.2.1 s.2.2) fu (u17, u15, u16) = some o27 ∧ Kn [(0, (.string x0)), (3, (.slice A20 u17.length p21)), (4, (.int .i64 u15)), (5, (.int .i64 u16))] 36 a ∧ Sat [] w0 w [] [(1, k18)] ∧ Own Lay.str 9 A20 p21 u17 k18 := ⟨_, rfl⟩
   refine wp_loop_ghost I31 fu32 ?_ ?_
   ·rw [hI31]
    exact ⟨([] : List ByteArray), 0, 0, (some ⟨b3, 0, none⟩), 0, _, h28, (hk.c 0 rfl (hk.c 3 rfl (hk.c 4 rfl (hk.c 5 rfl hk.k)))), (hs.pick [(1, 1)] rfl), o5⟩
   ·clear h28 hk hs
    intro fu32 a w hI0
    rw [hI31] at hI0
    obtain ⟨u17, u15, u16, A20, p21, k18, hi, hk, hs, o19⟩ := hI0
    obtain ⟨x33, H, h34⟩ := loop_round hi
    try dsimp only at H
    unfold spec_l00Words.s0 at H
    apply wp_seq_k; intro K35 hK35
    apply wp_seq_k; intro K36 hK36
    apply wp_region_lit
    refine sm _ rfl hk rfl rfl rfl fun a hk => ?_
    refine sm _ rfl hk rfl rfl rfl fun a hk => ?_
    refine sles rfl hk rfl rfl rfl un9 fun a hk => ?_
    refine sv (.bool (decide (u16 ≤ (x0.size : Int)))) hk rfl rfl rfl fun a hk => ?_
    show wpList _ _ _ [] _ _
    refine wpList_nil ?_
    refine hK36 _ _ ?_
    rcases cond_some H with ⟨c37, H⟩ | ⟨c37, H⟩
    ·have hk := hk.lit 10 c37 rfl
     refine cnd_true hk rfl rfl ?_
     refine wp_skip ?_
     refine hK35 _ _ ?_
     apply wp_seq_k; intro K38 hK38
     refine wp_block ?_
     apply wp_seq_k; intro K39 hK39
     obtain ⟨o42, h43, HL44⟩ := bind_some H
     clear H
     obtain ⟨R45, hR45⟩ : ∃ R : Act → World → Prop, R = fun a w => ∃ (u41 : Bool), u41 = o42 ∧ Kn [(0, (.string x0)), (3, (.slice A20 u17.length p21)), (4, (.int .i64 u15)), (5, (.int .i64 u16)), (22, (.bool u41))] 36 a ∧ Sat [] w0 w [] [(1, k18)] := ⟨_, rfl⟩
     refine wp_cutq R45 ?_ ?_
     ·have H := h43
      apply wp_region_lit
      refine sm _ rfl hk rfl rfl rfl fun a hk => ?_
      refine sm _ rfl hk rfl rfl rfl fun a hk => ?_
      refine sles rfl hk rfl rfl rfl un9 fun a hk => ?_
      refine sv (.bool (u16 == (x0.size : Int))) hk rfl rfl rfl fun a hk => ?_
      refine sm _ rfl hk rfl rfl rfl fun a hk => ?_
      rcases cond_some H with ⟨c46, H⟩ | ⟨c46, H⟩
      ·have hk := hk.lit 17 c46 rfl
       refine sk hk rfl rfl rfl fun a hk => ?_
       refine sk hk rfl rfl rfl fun a hk => ?_
       refine sk hk rfl rfl rfl fun a hk => ?_
       refine sk hk rfl rfl rfl fun a hk => ?_
       refine sv (.bool true) hk rfl rfl rfl fun a hk => ?_
       show wpList _ _ _ [] _ _
       refine wpList_nil ?_
       obtain rfl := Option.some.inj H
       show R45 _ _
       rw [hR45]
       exact ⟨true, rfl, (hk.c 0 rfl (hk.c 3 rfl (hk.c 4 rfl (hk.c 5 rfl (hk.c 22 rfl hk.k))))), (hs.pick [(1, 1)] rfl)⟩
      ·have hk := hk.lit 17 c46 rfl
       refine sm _ rfl hk rfl rfl rfl fun a hk => ?_
       refine sm _ rfl hk rfl rfl rfl fun a hk => ?_
       rcases ite_some H with ⟨c47, H⟩ | ⟨_, H⟩
       rotate_left
       ·cases H
       refine six rfl hk rfl rfl rfl rfl un9 c47.1 c47.2 fun a hk => ?_
       refine sv (.bool ((byteAt x0 u16) == 32)) hk rfl rfl rfl fun a hk => ?_
       refine sv (.bool ((byteAt x0 u16) == 32)) hk rfl rfl rfl fun a hk => ?_
       show wpList _ _ _ [] _ _
       refine wpList_nil ?_
       obtain rfl := Option.some.inj H
       show R45 _ _
       rw [hR45]
       exact ⟨((byteAt x0 u16) == 32), rfl, (hk.c 0 rfl (hk.c 3 rfl (hk.c 4 rfl (hk.c 5 rfl (hk.c 22 rfl hk.k))))), (hs.pick [(1, 1)] rfl)⟩
     ·intro a w hR0
      rw [hR45] at hR0
      obtain ⟨u41, rfl, hk, hs⟩ := hR0
      have H := HL44
      try dsimp only at H
      refine hK39 _ _ ?_
      obtain ⟨o55, h56, HL57⟩ := bind_some H
      clear H
      obtain ⟨R58, hR58⟩ : ∃ R : Act → World → Prop, R = fun a w => ∃ (u49 : List ByteArray) (u54 : Int) (A52 : Option Addr) (p53 : Nat) (k50 : Chunk), (u49, u54) = o55 ∧ Kn [(0, (.string x0)), (3, (.slice A52 u49.length p53)), (4, (.int .i64 u54)), (5, (.int .i64 u16))] 36 a ∧ Sat [] w0 w [] [(1, k50)] ∧ Own Lay.str 9 A52 p53 u49 k50 := ⟨_, rfl⟩
      refine wp_cutq R58 ?_ ?_
      ·have H := h56
       rcases cond_some H with ⟨c59, H⟩ | ⟨c59, H⟩
       ·have hk := hk.lit 22 c59 rfl
        refine cnd_true hk rfl rfl ?_
        apply wp_seq_k; intro K60 hK60
        apply wp_seq_k; intro K61 hK61
        apply wp_region_lit
        refine sm _ rfl hk rfl rfl rfl fun a hk => ?_
        refine sm _ rfl hk rfl rfl rfl fun a hk => ?_
        refine sv (.bool (decide (u16 > u15))) hk rfl rfl rfl fun a hk => ?_
        show wpList _ _ _ [] _ _
        refine wpList_nil ?_
        refine hK61 _ _ ?_
        have hs := hs.pick [(1, 1)] rfl
        obtain ⟨o68, h69, HL70⟩ := bind_some H
        clear H
        obtain ⟨R71, hR71⟩ : ∃ R : Act → World → Prop, R = fun a w => ∃ (u63 : List ByteArray) (A66 : Option Addr) (p67 : Nat) (k64 : Chunk), u63 = o68 ∧ Kn [(0, (.string x0)), (3, (.slice A66 u63.length p67)), (5, (.int .i64 u16))] 36 a ∧ Sat [] w0 w [] [(1, k64)] ∧ Own Lay.str 9 A66 p67 u63 k64 := ⟨_, rfl⟩
        refine wp_cutq R71 ?_ ?_
        ·have H := h69
         rcases cond_some H with ⟨c72, H⟩ | ⟨c72, H⟩
         ·have hk := hk.lit 25 c72 rfl
          refine cnd_true hk rfl rfl ?_
          apply wp_region_lit
          refine sm _ rfl hk rfl rfl rfl fun a hk => ?_
          refine sm _ rfl hk rfl rfl rfl fun a hk => ?_
          refine sm _ rfl hk rfl rfl rfl fun a hk => ?_
          refine sm _ rfl hk rfl rfl rfl fun a hk => ?_
          rcases ite_some H with ⟨c73, H⟩ | ⟨_, H⟩
          rotate_left
          ·cases H
          refine ssl_lh rfl hk rfl rfl rfl rfl rfl un9 c73.1 c73.2.1 c73.2.2 fun a hk => ?_
          refine sbs (L := Lay.str) (pv := [(0, (.string (x0.extract u15.toNat u16.toNat)))]) (xs := [(x0.extract u15.toNat u16.toNat)]) (ess := [[.string (x0.extract u15.toNat u16.toNat)]]) 6 hs rfl hk rfl rfl rfl un73 (bs9_0 (x0.extract u15.toNat u16.toNat)) (AllOwn.cons0 ⟨rfl, rfl⟩ AllOwn.nil) rfl rfl rfl fun b74 k75 w a hk o76 hs => ?_
          rcases ite_some H with ⟨c77, H⟩ | ⟨_, H⟩
          rotate_left
          ·cases H
          refine sap 1 (xs := u17) (ys := [(x0.extract u15.toNat u16.toNat)]) (flat_flat : (Lay.str).Flat) hs rfl o19 o76.view (hs.hasG (k := 6) rfl) rfl hk rfl rfl rfl rfl rfl rfl un73 mk9 rfl rfl rfl c77 fun A78 p79 k80 w a hk o81 hs => ?_
          refine sa _ rfl hk rfl rfl rfl fun a hk => ?_
          show wpList _ _ _ [] _ _
          refine wpList_nil ?_
          obtain rfl := Option.some.inj H
          show R71 _ _
          rw [hR71]
          exact ⟨(u17 ++ ([(x0.extract u15.toNat u16.toNat)])), A78, p79, _, rfl, (hk.c 0 rfl (hk.c 3 rfl (hk.c 5 rfl hk.k))), (hs.pick [(1, 1)] rfl), o81⟩
         ·have hk := hk.lit 25 c72 rfl
          refine cnd_false hk rfl rfl ?_
          refine wp_skip ?_
          obtain rfl := Option.some.inj H
          show R71 _ _
          rw [hR71]
          exact ⟨u17, A20, p21, _, rfl, (hk.c 0 rfl (hk.c 3 rfl (hk.c 5 rfl hk.k))), (hs.pick [(1, 1)] rfl), o19⟩
        ·intro a w hR0
         rw [hR71] at hR0
         obtain ⟨u63, A66, p67, k64, rfl, hk, hs, o65⟩ := hR0
         have H := HL70
         try dsimp only at H
         refine hK60 _ _ ?_
         apply wp_region_lit
         refine sm _ rfl hk rfl rfl rfl fun a hk => ?_
         refine sv (.int .i64 (w64 (u16 + 1))) hk rfl rfl rfl fun a hk => ?_
         refine sa _ rfl hk rfl rfl rfl fun a hk => ?_
         show wpList _ _ _ [] _ _
         refine wpList_nil ?_
         obtain rfl := Option.some.inj H
         show R58 _ _
         rw [hR58]
         exact ⟨u63, (w64 (u16 + 1)), A66, p67, _, rfl, (hk.c 0 rfl (hk.c 3 rfl (hk.c 4 rfl (hk.c 5 rfl hk.k)))), (hs.pick [(1, 1)] rfl), o65⟩
       ·have hk := hk.lit 22 c59 rfl
        refine cnd_false hk rfl rfl ?_
        refine wp_skip ?_
        obtain rfl := Option.some.inj H
        show R58 _ _
        rw [hR58]
        exact ⟨u17, u15, A20, p21, _, rfl, (hk.c 0 rfl (hk.c 3 rfl (hk.c 4 rfl (hk.c 5 rfl hk.k)))), (hs.pick [(1, 1)] rfl), o19⟩
      ·intro a w hR0
       rw [hR58] at hR0
       obtain ⟨u49, u54, A52, p53, k50, rfl, hk, hs, o51⟩ := hR0
       have H := HL57
       try dsimp only at H
       refine hK38 _ _ ?_
       have hs := hs.pick [(1, 1)] rfl
       apply wp_region_lit
       refine sm _ rfl hk rfl rfl rfl fun a hk => ?_
       refine sv (.int .i64 (w64 (u16 + 1))) hk rfl rfl rfl fun a hk => ?_
       refine sa _ rfl hk rfl rfl rfl fun a hk => ?_
       show wpList _ _ _ [] _ _
       refine wpList_nil ?_
       obtain rfl := Option.some.inj H
       obtain ⟨m82, hmm82, h34⟩ := h34
       show ∃ n', n' < _ ∧ I31 n' _ _
       refine ⟨m82, hmm82, ?_⟩
       rw [hI31]
       exact ⟨u49, u54, (w64 (u16 + 1)), A52, p53, _, h34, (hk.c 0 rfl (hk.c 3 rfl (hk.c 4 rfl (hk.c 5 rfl hk.k)))), (hs.pick [(1, 1)] rfl), o51⟩
    ·have hk := hk.lit 10 c37 rfl
     refine cnd_false hk rfl rfl ?_
     refine wp_exit ?_
     obtain rfl := Option.some.inj H
     show R30 _ _
     rw [hR30]
     exact ⟨u17, A20, p21, _, h34.symm, (hk.c 3 rfl hk.k), (hs.pick [(1, 1)] rfl), o19⟩
  ·intro a w hR0
   rw [hR30] at hR0
   obtain ⟨u22, A25, p26, k23, rfl, hk, hs, o24⟩ := hR0
   have H := HL29
   try dsimp only at H
   refine hK7 _ _ ?_
   apply wp_seq_k; intro K83 hK83
   apply wp_region_lit
   refine sm _ rfl hk rfl rfl rfl fun a hk => ?_
   refine sa _ rfl hk rfl rfl rfl fun a hk => ?_
   show wpList _ _ _ [] _ _
   refine wpList_nil ?_
   refine hK83 _ _ ?_
   refine wp_ret ?_
   obtain rfl := Option.some.inj H
   exact fin hk _ [(.slice A25 u22.length p26)] rfl ⟨rfl, trivial⟩ ⟨A25, p26, _, rfl, o24, (hs.pick [(0, 1)] rfl).dnil⟩

noncomputable def spec_CodeWord.f (x0 : Int) : Option (ByteArray) :=
  (((bif (decide (x0 < 0)) then (some true) else (some (decide (x0 ≥ (20 : Int))))) : Option (Bool)).bind fun u9 => (bif u9 then (some (⟨#[]⟩ : ByteArray)) else (if 0 ≤ x0 ∧ x0 < (20 : Int) then (some (([(⟨#[111, 107]⟩ : ByteArray), (⟨#[98, 97, 100]⟩ : ByteArray), (⟨#[108, 111, 110, 103]⟩ : ByteArray), (⟨#[102, 111, 114, 109]⟩ : ByteArray), (⟨#[114, 97, 110, 103, 101]⟩ : ByteArray), (⟨#[110, 111, 110, 101]⟩ : ByteArray), (⟨#[109, 97, 110, 121]⟩ : ByteArray), (⟨#[102, 117, 108, 108]⟩ : ByteArray), (⟨#[115, 105, 122, 101]⟩ : ByteArray), (⟨#[116, 97, 103]⟩ : ByteArray), (⟨#[116, 97, 109, 112, 101, 114, 101, 100]⟩ : ByteArray), (⟨#[116, 111, 114, 110]⟩ : ByteArray), (⟨#[115, 116, 97, 115, 104]⟩ : ByteArray), (⟨#[116, 97, 112, 101]⟩ : ByteArray), (⟨#[99, 104, 101, 99, 107]⟩ : ByteArray), (⟨#[112, 101, 110, 100, 105, 110, 103]⟩ : ByteArray), (⟨#[100, 111, 119, 110]⟩ : ByteArray), (⟨#[117, 112]⟩ : ByteArray), (⟨#[115, 112, 101, 110, 116]⟩ : ByteArray), (⟨#[107, 101, 121]⟩ : ByteArray)]).getD x0.toNat ByteArray.empty)) else none)))
set_option maxRecDepth 100000 in
set_option maxHeartbeats 0 in
theorem spec_CodeWord_t (w0 : World) (x0 : Int) (r : ByteArray) (H : spec_CodeWord.f x0 = some r) :
    Calls Tryd.prog 66 #[.int .i64 x0] w0 (Ret (fun v w => v = .string r ∧ Sat [] w0 w [] [])) := by
  have hs : Sat [] w0 w0 [] [] := Sat.init w0 [] [] (by simp) (by simp) List.nodup_nil (by simp [blks])
  unfold spec_CodeWord.f at H
  refine enter Tryd.func66 rfl Tryd.ntmps66 rfl fun a hk => ?_
  apply wp_seq_k; intro K1 hK1
  apply wp_region_lit
  refine sa _ rfl hk rfl rfl rfl fun a hk => ?_
  show wpList _ _ _ [] _ _
  refine wpList_nil ?_
  refine hK1 _ _ ?_
  apply wp_seq_k; intro K2 hK2
  apply wp_region_lit
  refine sbs (L := Lay.str) (pv := [(0, (.string (⟨#[111, 107]⟩ : ByteArray))), (1, (.string (⟨#[98, 97, 100]⟩ : ByteArray))), (2, (.string (⟨#[108, 111, 110, 103]⟩ : ByteArray))), (3, (.string (⟨#[102, 111, 114, 109]⟩ : ByteArray))), (4, (.string (⟨#[114, 97, 110, 103, 101]⟩ : ByteArray))), (5, (.string (⟨#[110, 111, 110, 101]⟩ : ByteArray))), (6, (.string (⟨#[109, 97, 110, 121]⟩ : ByteArray))), (7, (.string (⟨#[102, 117, 108, 108]⟩ : ByteArray))), (8, (.string (⟨#[115, 105, 122, 101]⟩ : ByteArray))), (9, (.string (⟨#[116, 97, 103]⟩ : ByteArray))), (10, (.string (⟨#[116, 97, 109, 112, 101, 114, 101, 100]⟩ : ByteArray))), (11, (.string (⟨#[116, 111, 114, 110]⟩ : ByteArray))), (12, (.string (⟨#[115, 116, 97, 115, 104]⟩ : ByteArray))), (13, (.string (⟨#[116, 97, 112, 101]⟩ : ByteArray))), (14, (.string (⟨#[99, 104, 101, 99, 107]⟩ : ByteArray))), (15, (.string (⟨#[112, 101, 110, 100, 105, 110, 103]⟩ : ByteArray))), (16, (.string (⟨#[100, 111, 119, 110]⟩ : ByteArray))), (17, (.string (⟨#[117, 112]⟩ : ByteArray))), (18, (.string (⟨#[115, 112, 101, 110, 116]⟩ : ByteArray))), (19, (.string (⟨#[107, 101, 121]⟩ : ByteArray)))]) (xs := [(⟨#[111, 107]⟩ : ByteArray), (⟨#[98, 97, 100]⟩ : ByteArray), (⟨#[108, 111, 110, 103]⟩ : ByteArray), (⟨#[102, 111, 114, 109]⟩ : ByteArray), (⟨#[114, 97, 110, 103, 101]⟩ : ByteArray), (⟨#[110, 111, 110, 101]⟩ : ByteArray), (⟨#[109, 97, 110, 121]⟩ : ByteArray), (⟨#[102, 117, 108, 108]⟩ : ByteArray), (⟨#[115, 105, 122, 101]⟩ : ByteArray), (⟨#[116, 97, 103]⟩ : ByteArray), (⟨#[116, 97, 109, 112, 101, 114, 101, 100]⟩ : ByteArray), (⟨#[116, 111, 114, 110]⟩ : ByteArray), (⟨#[115, 116, 97, 115, 104]⟩ : ByteArray), (⟨#[116, 97, 112, 101]⟩ : ByteArray), (⟨#[99, 104, 101, 99, 107]⟩ : ByteArray), (⟨#[112, 101, 110, 100, 105, 110, 103]⟩ : ByteArray), (⟨#[100, 111, 119, 110]⟩ : ByteArray), (⟨#[117, 112]⟩ : ByteArray), (⟨#[115, 112, 101, 110, 116]⟩ : ByteArray), (⟨#[107, 101, 121]⟩ : ByteArray)]) (ess := [[.string (⟨#[111, 107]⟩ : ByteArray)], [.string (⟨#[98, 97, 100]⟩ : ByteArray)], [.string (⟨#[108, 111, 110, 103]⟩ : ByteArray)], [.string (⟨#[102, 111, 114, 109]⟩ : ByteArray)], [.string (⟨#[114, 97, 110, 103, 101]⟩ : ByteArray)], [.string (⟨#[110, 111, 110, 101]⟩ : ByteArray)], [.string (⟨#[109, 97, 110, 121]⟩ : ByteArray)], [.string (⟨#[102, 117, 108, 108]⟩ : ByteArray)], [.string (⟨#[115, 105, 122, 101]⟩ : ByteArray)], [.string (⟨#[116, 97, 103]⟩ : ByteArray)], [.string (⟨#[116, 97, 109, 112, 101, 114, 101, 100]⟩ : ByteArray)], [.string (⟨#[116, 111, 114, 110]⟩ : ByteArray)], [.string (⟨#[115, 116, 97, 115, 104]⟩ : ByteArray)], [.string (⟨#[116, 97, 112, 101]⟩ : ByteArray)], [.string (⟨#[99, 104, 101, 99, 107]⟩ : ByteArray)], [.string (⟨#[112, 101, 110, 100, 105, 110, 103]⟩ : ByteArray)], [.string (⟨#[100, 111, 119, 110]⟩ : ByteArray)], [.string (⟨#[117, 112]⟩ : ByteArray)], [.string (⟨#[115, 112, 101, 110, 116]⟩ : ByteArray)], [.string (⟨#[107, 101, 121]⟩ : ByteArray)]]) 1 hs rfl hk rfl rfl rfl un73 (bs9_1 (⟨#[111, 107]⟩ : ByteArray) (⟨#[98, 97, 100]⟩ : ByteArray) (⟨#[108, 111, 110, 103]⟩ : ByteArray) (⟨#[102, 111, 114, 109]⟩ : ByteArray) (⟨#[114, 97, 110, 103, 101]⟩ : ByteArray) (⟨#[110, 111, 110, 101]⟩ : ByteArray) (⟨#[109, 97, 110, 121]⟩ : ByteArray) (⟨#[102, 117, 108, 108]⟩ : ByteArray) (⟨#[115, 105, 122, 101]⟩ : ByteArray) (⟨#[116, 97, 103]⟩ : ByteArray) (⟨#[116, 97, 109, 112, 101, 114, 101, 100]⟩ : ByteArray) (⟨#[116, 111, 114, 110]⟩ : ByteArray) (⟨#[115, 116, 97, 115, 104]⟩ : ByteArray) (⟨#[116, 97, 112, 101]⟩ : ByteArray) (⟨#[99, 104, 101, 99, 107]⟩ : ByteArray) (⟨#[112, 101, 110, 100, 105, 110, 103]⟩ : ByteArray) (⟨#[100, 111, 119, 110]⟩ : ByteArray) (⟨#[117, 112]⟩ : ByteArray) (⟨#[115, 112, 101, 110, 116]⟩ : ByteArray) (⟨#[107, 101, 121]⟩ : ByteArray)) (AllOwn.cons0 ⟨rfl, rfl⟩ (AllOwn.cons0 ⟨rfl, rfl⟩ (AllOwn.cons0 ⟨rfl, rfl⟩ (AllOwn.cons0 ⟨rfl, rfl⟩ (AllOwn.cons0 ⟨rfl, rfl⟩ (AllOwn.cons0 ⟨rfl, rfl⟩ (AllOwn.cons0 ⟨rfl, rfl⟩ (AllOwn.cons0 ⟨rfl, rfl⟩ (AllOwn.cons0 ⟨rfl, rfl⟩ (AllOwn.cons0 ⟨rfl, rfl⟩ (AllOwn.cons0 ⟨rfl, rfl⟩ (AllOwn.cons0 ⟨rfl, rfl⟩ (AllOwn.cons0 ⟨rfl, rfl⟩ (AllOwn.cons0 ⟨rfl, rfl⟩ (AllOwn.cons0 ⟨rfl, rfl⟩ (AllOwn.cons0 ⟨rfl, rfl⟩ (AllOwn.cons0 ⟨rfl, rfl⟩ (AllOwn.cons0 ⟨rfl, rfl⟩ (AllOwn.cons0 ⟨rfl, rfl⟩ (AllOwn.cons0 ⟨rfl, rfl⟩ AllOwn.nil)))))))))))))))))))) rfl rfl rfl fun b3 k4 w a hk o5 hs => ?_
  refine sa _ rfl hk rfl rfl rfl fun a hk => ?_
  show wpList _ _ _ [] _ _
  refine wpList_nil ?_
  refine hK2 _ _ ?_
  apply wp_seq_k; intro K6 hK6
  apply wp_seq_k; intro K7 hK7
  obtain ⟨o10, h11, HL12⟩ := bind_some H
  clear H
  obtain ⟨R13, hR13⟩ : ∃ R : Act → World → Prop, R = fun a w => ∃ (u9 : Bool), u9 = o10 ∧ Kn [(0, (.int .i64 x0)), (3, (.slice (some ⟨b3, 0, none⟩) 20 20)), (12, (.bool u9))] 17 a ∧ Sat [] w0 w [] [(1, k4)] := ⟨_, rfl⟩
  refine wp_cutq R13 ?_ ?_
  ·have H := h11
   apply wp_region_lit
   refine sm _ rfl hk rfl rfl rfl fun a hk => ?_
   refine sv (.bool (decide (x0 < 0))) hk rfl rfl rfl fun a hk => ?_
   refine sm _ rfl hk rfl rfl rfl fun a hk => ?_
   rcases cond_some H with ⟨c14, H⟩ | ⟨c14, H⟩
   ·have hk := hk.lit 7 c14 rfl
    refine sk hk rfl rfl rfl fun a hk => ?_
    refine sk hk rfl rfl rfl fun a hk => ?_
    refine sk hk rfl rfl rfl fun a hk => ?_
    refine sk hk rfl rfl rfl fun a hk => ?_
    refine sv (.bool true) hk rfl rfl rfl fun a hk => ?_
    show wpList _ _ _ [] _ _
    refine wpList_nil ?_
    obtain rfl := Option.some.inj H
    show R13 _ _
    rw [hR13]
    exact ⟨true, rfl, (hk.c 0 rfl (hk.c 3 rfl (hk.c 12 rfl hk.k))), (hs.pick [(1, 1)] rfl)⟩
   ·have hk := hk.lit 7 c14 rfl
    refine sm _ rfl hk rfl rfl rfl fun a hk => ?_
    refine sm _ rfl hk rfl rfl rfl fun a hk => ?_
    refine sle rfl hk rfl rfl rfl un73 fun a hk => ?_
    refine sv (.bool (decide (x0 ≥ (20 : Int)))) hk rfl rfl rfl fun a hk => ?_
    refine sv (.bool (decide (x0 ≥ (20 : Int)))) hk rfl rfl rfl fun a hk => ?_
    show wpList _ _ _ [] _ _
    refine wpList_nil ?_
    obtain rfl := Option.some.inj H
    show R13 _ _
    rw [hR13]
    exact ⟨(decide (x0 ≥ (20 : Int))), rfl, (hk.c 0 rfl (hk.c 3 rfl (hk.c 12 rfl hk.k))), (hs.pick [(1, 1)] rfl)⟩
  ·intro a w hR0
   rw [hR13] at hR0
   obtain ⟨u9, rfl, hk, hs⟩ := hR0
   have H := HL12
   try dsimp only at H
   refine hK7 _ _ ?_
   rcases cond_some H with ⟨c15, H⟩ | ⟨c15, H⟩
   ·have hk := hk.lit 12 c15 rfl
    refine cnd_true hk rfl rfl ?_
    apply wp_seq_k; intro K16 hK16
    apply wp_region_lit
    refine sa _ rfl hk rfl rfl rfl fun a hk => ?_
    show wpList _ _ _ [] _ _
    refine wpList_nil ?_
    refine hK16 _ _ ?_
    have hs := hs.pick [] rfl
    refine wp_ret ?_
    obtain rfl := Option.some.inj H
    exact fin hk _ [(.string (⟨#[]⟩ : ByteArray))] rfl ⟨rfl, trivial⟩ ⟨rfl, (hs.pick [] rfl).dnil⟩
   ·have hk := hk.lit 12 c15 rfl
    refine cnd_false hk rfl rfl ?_
    refine wp_skip ?_
    refine hK6 _ _ ?_
    have hs := hs.pick [(1, 1)] rfl
    apply wp_seq_k; intro K17 hK17
    apply wp_region_lit
    refine sm _ rfl hk rfl rfl rfl fun a hk => ?_
    refine sm _ rfl hk rfl rfl rfl fun a hk => ?_
    rcases ite_some H with ⟨c18, H⟩ | ⟨_, H⟩
    rotate_left
    ·cases H
    obtain ⟨b19, q20, hAc18⟩ := (o5.view).some_ x0 c18.1 c18.2
    refine si rfl hk rfl rfl rfl rfl un73 sz9 c18.1 c18.2 hAc18 fun a hk => ?_
    obtain ⟨_, rfl, e21⟩ := (o5.view).at_ ByteArray.empty x0 c18.1 c18.2
    refine sl (v := (.string (([(⟨#[111, 107]⟩ : ByteArray), (⟨#[98, 97, 100]⟩ : ByteArray), (⟨#[108, 111, 110, 103]⟩ : ByteArray), (⟨#[102, 111, 114, 109]⟩ : ByteArray), (⟨#[114, 97, 110, 103, 101]⟩ : ByteArray), (⟨#[110, 111, 110, 101]⟩ : ByteArray), (⟨#[109, 97, 110, 121]⟩ : ByteArray), (⟨#[102, 117, 108, 108]⟩ : ByteArray), (⟨#[115, 105, 122, 101]⟩ : ByteArray), (⟨#[116, 97, 103]⟩ : ByteArray), (⟨#[116, 97, 109, 112, 101, 114, 101, 100]⟩ : ByteArray), (⟨#[116, 111, 114, 110]⟩ : ByteArray), (⟨#[115, 116, 97, 115, 104]⟩ : ByteArray), (⟨#[116, 97, 112, 101]⟩ : ByteArray), (⟨#[99, 104, 101, 99, 107]⟩ : ByteArray), (⟨#[112, 101, 110, 100, 105, 110, 103]⟩ : ByteArray), (⟨#[100, 111, 119, 110]⟩ : ByteArray), (⟨#[117, 112]⟩ : ByteArray), (⟨#[115, 112, 101, 110, 116]⟩ : ByteArray), (⟨#[107, 101, 121]⟩ : ByteArray)]).getD x0.toNat ByteArray.empty))) rfl hk rfl rfl rfl ag9 ((e21 0 _ rfl).cell (hs.hasG (k := 1) rfl)) fun a hk => ?_
    refine sa _ rfl hk rfl rfl rfl fun a hk => ?_
    show wpList _ _ _ [] _ _
    refine wpList_nil ?_
    refine hK17 _ _ ?_
    refine wp_ret ?_
    obtain rfl := Option.some.inj H
    exact fin hk _ [(.string (([(⟨#[111, 107]⟩ : ByteArray), (⟨#[98, 97, 100]⟩ : ByteArray), (⟨#[108, 111, 110, 103]⟩ : ByteArray), (⟨#[102, 111, 114, 109]⟩ : ByteArray), (⟨#[114, 97, 110, 103, 101]⟩ : ByteArray), (⟨#[110, 111, 110, 101]⟩ : ByteArray), (⟨#[109, 97, 110, 121]⟩ : ByteArray), (⟨#[102, 117, 108, 108]⟩ : ByteArray), (⟨#[115, 105, 122, 101]⟩ : ByteArray), (⟨#[116, 97, 103]⟩ : ByteArray), (⟨#[116, 97, 109, 112, 101, 114, 101, 100]⟩ : ByteArray), (⟨#[116, 111, 114, 110]⟩ : ByteArray), (⟨#[115, 116, 97, 115, 104]⟩ : ByteArray), (⟨#[116, 97, 112, 101]⟩ : ByteArray), (⟨#[99, 104, 101, 99, 107]⟩ : ByteArray), (⟨#[112, 101, 110, 100, 105, 110, 103]⟩ : ByteArray), (⟨#[100, 111, 119, 110]⟩ : ByteArray), (⟨#[117, 112]⟩ : ByteArray), (⟨#[115, 112, 101, 110, 116]⟩ : ByteArray), (⟨#[107, 101, 121]⟩ : ByteArray)]).getD x0.toNat ByteArray.empty))] rfl ⟨rfl, trivial⟩ ⟨rfl, (hs.pick [] rfl).dnil⟩

noncomputable def spec_CodeOf.s0 (x0 : ByteArray) (u6 : Int) : Option ((Int) ⊕ Ex (Unit) (Int)) :=
  (bif (decide (u6 ≤ 19)) then ((spec_CodeWord.f u6).bind fun y20 => (bif (y20.toList == x0.toList) then (some (.inr (.ret u6))) else (some (.inl (w64 (u6 + 1)))))) else (some (.inr (.out ()))))
noncomputable def spec_CodeOf.f (x0 : ByteArray) : Option (Int) :=
  ((loopO (fun s => spec_CodeOf.s0 x0 s) 0).bind fun o => match o with | .out _ => (some (-1)) | .ret r => (some r))
set_option maxRecDepth 100000 in
set_option maxHeartbeats 0 in
theorem spec_CodeOf_t (w0 : World) (x0 : ByteArray) (r : Int) (H : spec_CodeOf.f x0 = some r) :
    Calls Tryd.prog 50 #[.string x0] w0 (Ret (fun v w => v = .int .i64 r ∧ Sat [] w0 w [] [])) := by
  have hs : Sat [] w0 w0 [] [] := Sat.init w0 [] [] (by simp) (by simp) List.nodup_nil (by simp [blks])
  unfold spec_CodeOf.f at H
  refine enter Tryd.func50 rfl Tryd.ntmps50 rfl fun a hk => ?_
  apply wp_seq_k; intro K1 hK1
  apply wp_region_lit
  refine sa _ rfl hk rfl rfl rfl fun a hk => ?_
  show wpList _ _ _ [] _ _
  refine wpList_nil ?_
  refine hK1 _ _ ?_
  apply wp_seq_k; intro K2 hK2
  apply wp_seq_k; intro K3 hK3
  apply wp_region_lit
  refine sa _ rfl hk rfl rfl rfl fun a hk => ?_
  show wpList _ _ _ [] _ _
  refine wpList_nil ?_
  refine hK3 _ _ ?_
  obtain ⟨o7, h8, HL9⟩ := bind_some H
  clear H
  obtain ⟨R10, hR10⟩ : ∃ R : Act → World → Prop, R = fun a w => o7 = .out () ∧ Kn [] 13 a ∧ Sat [] w0 w [] [] := ⟨_, rfl⟩
  refine wp_cutq R10 ?_ ?_
  ·refine wp_block ?_
   obtain ⟨fu12, h8⟩ := loopO_some h8
   obtain ⟨I11, hI11⟩ : ∃ I : Nat → Act → World → Prop, I = fun fu a w => ∃ (u6 : Int), loopN (fun s => spec_CodeOf.s0 x0 s) fu u6 = some o7 ∧ Kn [(0, (.string x0)), (3, (.int .i64 u6))] 13 a ∧ Sat [] w0 w [] [] := ⟨_, rfl⟩
   refine wp_loop_ghost I11 fu12 ?_ ?_
   ·rw [hI11]
    exact ⟨0, h8, (hk.c 0 rfl (hk.c 3 rfl hk.k)), (hs.pick [] rfl)⟩
   ·clear h8 hk hs
    intro fu12 a w hI0
    rw [hI11] at hI0
    obtain ⟨u6, hi, hk, hs⟩ := hI0
    obtain ⟨x13, H, h14⟩ := loop_round hi
    try dsimp only at H
    unfold spec_CodeOf.s0 at H
    apply wp_seq_k; intro K15 hK15
    apply wp_seq_k; intro K16 hK16
    apply wp_region_lit
    refine sm _ rfl hk rfl rfl rfl fun a hk => ?_
    refine sv (.bool (decide (u6 ≤ 19))) hk rfl rfl rfl fun a hk => ?_
    show wpList _ _ _ [] _ _
    refine wpList_nil ?_
    refine hK16 _ _ ?_
    rcases cond_some H with ⟨c17, H⟩ | ⟨c17, H⟩
    ·have hk := hk.lit 5 c17 rfl
     refine cnd_true hk rfl rfl ?_
     refine wp_skip ?_
     refine hK15 _ _ ?_
     have hs := hs.pick [] rfl
     apply wp_seq_k; intro K18 hK18
     refine wp_block ?_
     apply wp_seq_k; intro K19 hK19
     apply wp_region_lit
     refine sm _ rfl hk rfl rfl rfl fun a hk => ?_
     obtain ⟨y20, h21, H⟩ := bind_some H
     refine sc rfl en66 hk rfl rfl rfl (spec_CodeWord_t _ u6 _ h21) ?_
     rintro _ w ⟨rfl, hG⟩ a hk
     have hs := hs.call0 hG
     refine sm _ rfl hk rfl rfl rfl fun a hk => ?_
     refine sv (.bool (y20.toList == x0.toList)) hk rfl rfl rfl fun a hk => ?_
     show wpList _ _ _ [] _ _
     refine wpList_nil ?_
     refine hK19 _ _ ?_
     rcases cond_some H with ⟨c22, H⟩ | ⟨c22, H⟩
     ·have hk := hk.lit 11 c22 rfl
      refine cnd_true hk rfl rfl ?_
      apply wp_seq_k; intro K23 hK23
      apply wp_region_lit
      refine sm _ rfl hk rfl rfl rfl fun a hk => ?_
      refine sa _ rfl hk rfl rfl rfl fun a hk => ?_
      show wpList _ _ _ [] _ _
      refine wpList_nil ?_
      refine hK23 _ _ ?_
      refine wp_ret ?_
      obtain rfl := Option.some.inj H
      have ho7 := h14
      try dsimp only at ho7
      subst ho7
      have H := HL9
      try dsimp only at H
      obtain rfl := Option.some.inj H
      exact fin hk _ [(.int .i64 u6)] rfl ⟨rfl, trivial⟩ ⟨rfl, (hs.pick [] rfl).dnil⟩
     ·have hk := hk.lit 11 c22 rfl
      refine cnd_false hk rfl rfl ?_
      refine wp_skip ?_
      refine hK18 _ _ ?_
      apply wp_region_lit
      refine sm _ rfl hk rfl rfl rfl fun a hk => ?_
      refine sv (.int .i64 (w64 (u6 + 1))) hk rfl rfl rfl fun a hk => ?_
      refine sa _ rfl hk rfl rfl rfl fun a hk => ?_
      show wpList _ _ _ [] _ _
      refine wpList_nil ?_
      obtain rfl := Option.some.inj H
      obtain ⟨m24, hmm24, h14⟩ := h14
      show ∃ n', n' < _ ∧ I11 n' _ _
      refine ⟨m24, hmm24, ?_⟩
      rw [hI11]
      exact ⟨(w64 (u6 + 1)), h14, (hk.c 0 rfl (hk.c 3 rfl hk.k)), (hs.pick [] rfl)⟩
    ·have hk := hk.lit 5 c17 rfl
     refine cnd_false hk rfl rfl ?_
     refine wp_exit ?_
     obtain rfl := Option.some.inj H
     show R10 _ _
     rw [hR10]
     exact ⟨h14.symm, hk.k, (hs.pick [] rfl)⟩
  ·intro a w hR0
   rw [hR10] at hR0
   obtain ⟨rfl, hk, hs⟩ := hR0
   have H := HL9
   try dsimp only at H
   refine hK2 _ _ ?_
   apply wp_seq_k; intro K25 hK25
   apply wp_region_lit
   refine sa _ rfl hk rfl rfl rfl fun a hk => ?_
   show wpList _ _ _ [] _ _
   refine wpList_nil ?_
   refine hK25 _ _ ?_
   have hs := hs.pick [] rfl
   refine wp_ret ?_
   obtain rfl := Option.some.inj H
   exact fin hk _ [(.int .i64 (-1))] rfl ⟨rfl, trivial⟩ ⟨rfl, (hs.pick [] rfl).dnil⟩

noncomputable def spec_l00Digits.g : Nat → Int → Option (ByteArray)
  | 0, _ => none
  | n + 1, x0 => (bif (x0 == (-9223372036854775808)) then (some (⟨#[45, 57, 50, 50, 51, 51, 55, 50, 48, 51, 54, 56, 53, 52, 55, 55, 53, 56, 48, 56]⟩ : ByteArray)) else (bif (decide (x0 < 0)) then ((spec_l00Digits.g n (w64 (0 - x0))).bind fun y10 => (if (⟨#[45]⟩ : ByteArray).size + y10.size ≤ 1152921504606846976 then (some ((⟨#[45]⟩ : ByteArray) ++ y10)) else none)) else (bif (decide (x0 < 10)) then (some (strOfNums ([(IntKind.wrap .u8 (w64 (48 + x0)))]))) else ((spec_l00Digits.g n (IntKind.wrap .i64 (Int.tdiv x0 10))).bind fun y22 => (if y22.size + (strOfNums ([(IntKind.wrap .u8 (w64 (48 + (Int.tmod x0 10))))])).size ≤ 1152921504606846976 then (some (y22 ++ (strOfNums ([(IntKind.wrap .u8 (w64 (48 + (Int.tmod x0 10))))])))) else none)))))
noncomputable def spec_l00Digits.f (x0 : Int) : Option (ByteArray) := recO (fun n => spec_l00Digits.g n x0)
set_option maxRecDepth 100000 in
set_option maxHeartbeats 0 in
theorem spec_l00Digits_n : ∀ (n : Nat) (w0 : World) (x0 : Int) (r : ByteArray) (H : spec_l00Digits.g n x0 = some r), Calls Tryd.prog 59 #[.int .i64 x0] w0 (Ret (fun v w => v = .string r ∧ Sat [] w0 w [] [])) := by
  intro n
  induction n with
  | zero => intro w0 x0 r H; rw [spec_l00Digits.g] at H; cases H
  | succ n ih =>
  intro w0 x0 r H
  have hs : Sat [] w0 w0 [] [] := Sat.init w0 [] [] (by simp) (by simp) List.nodup_nil (by simp [blks])
  rw [spec_l00Digits.g] at H
  refine enter Tryd.func59 rfl Tryd.ntmps59 rfl fun a hk => ?_
  apply wp_seq_k; intro K1 hK1
  apply wp_region_lit
  refine sa _ rfl hk rfl rfl rfl fun a hk => ?_
  show wpList _ _ _ [] _ _
  refine wpList_nil ?_
  refine hK1 _ _ ?_
  apply wp_seq_k; intro K2 hK2
  apply wp_seq_k; intro K3 hK3
  apply wp_region_lit
  refine sm _ rfl hk rfl rfl rfl fun a hk => ?_
  refine sv (.bool (x0 == (-9223372036854775808))) hk rfl rfl rfl fun a hk => ?_
  show wpList _ _ _ [] _ _
  refine wpList_nil ?_
  refine hK3 _ _ ?_
  rcases cond_some H with ⟨c4, H⟩ | ⟨c4, H⟩
  ·have hk := hk.lit 4 c4 rfl
   refine cnd_true hk rfl rfl ?_
   apply wp_seq_k; intro K5 hK5
   apply wp_region_lit
   refine sa _ rfl hk rfl rfl rfl fun a hk => ?_
   show wpList _ _ _ [] _ _
   refine wpList_nil ?_
   refine hK5 _ _ ?_
   refine wp_ret ?_
   obtain rfl := Option.some.inj H
   exact fin hk _ [(.string (⟨#[45, 57, 50, 50, 51, 51, 55, 50, 48, 51, 54, 56, 53, 52, 55, 55, 53, 56, 48, 56]⟩ : ByteArray))] rfl ⟨rfl, trivial⟩ ⟨rfl, (hs.pick [] rfl).dnil⟩
  ·have hk := hk.lit 4 c4 rfl
   refine cnd_false hk rfl rfl ?_
   refine wp_skip ?_
   refine hK2 _ _ ?_
   apply wp_seq_k; intro K6 hK6
   apply wp_seq_k; intro K7 hK7
   apply wp_region_lit
   refine sm _ rfl hk rfl rfl rfl fun a hk => ?_
   refine sv (.bool (decide (x0 < 0))) hk rfl rfl rfl fun a hk => ?_
   show wpList _ _ _ [] _ _
   refine wpList_nil ?_
   refine hK7 _ _ ?_
   have hs := hs.pick [] rfl
   rcases cond_some H with ⟨c8, H⟩ | ⟨c8, H⟩
   ·have hk := hk.lit 6 c8 rfl
    refine cnd_true hk rfl rfl ?_
    apply wp_seq_k; intro K9 hK9
    apply wp_region_lit
    refine sm _ rfl hk rfl rfl rfl fun a hk => ?_
    refine sv (.int .i64 (w64 (0 - x0))) hk rfl rfl rfl fun a hk => ?_
    obtain ⟨y10, h11, H⟩ := bind_some H
    refine sc rfl en59 hk rfl rfl rfl (ih _ (w64 (0 - x0)) _ h11) ?_
    rintro _ w ⟨rfl, hG⟩ a hk
    have hs := hs.call0 hG
    rcases ite_some H with ⟨c12, H⟩ | ⟨_, H⟩
    rotate_left
    ·cases H
    refine ssa rfl hk rfl rfl rfl rfl c12 fun a hk => ?_
    refine sa _ rfl hk rfl rfl rfl fun a hk => ?_
    show wpList _ _ _ [] _ _
    refine wpList_nil ?_
    refine hK9 _ _ ?_
    refine wp_ret ?_
    obtain rfl := Option.some.inj H
    exact fin hk _ [(.string ((⟨#[45]⟩ : ByteArray) ++ y10))] rfl ⟨rfl, trivial⟩ ⟨rfl, (hs.pick [] rfl).dnil⟩
   ·have hk := hk.lit 6 c8 rfl
    refine cnd_false hk rfl rfl ?_
    refine wp_skip ?_
    refine hK6 _ _ ?_
    apply wp_seq_k; intro K13 hK13
    apply wp_seq_k; intro K14 hK14
    apply wp_region_lit
    refine sm _ rfl hk rfl rfl rfl fun a hk => ?_
    refine sv (.bool (decide (x0 < 10))) hk rfl rfl rfl fun a hk => ?_
    show wpList _ _ _ [] _ _
    refine wpList_nil ?_
    refine hK14 _ _ ?_
    rcases cond_some H with ⟨c15, H⟩ | ⟨c15, H⟩
    ·have hk := hk.lit 12 c15 rfl
     refine cnd_true hk rfl rfl ?_
     apply wp_seq_k; intro K16 hK16
     apply wp_region_lit
     refine sm _ rfl hk rfl rfl rfl fun a hk => ?_
     refine sv (.int .i64 (w64 (48 + x0))) hk rfl rfl rfl fun a hk => ?_
     refine scn rfl hk rfl rfl rfl un5 un3 fun a hk => ?_
     refine sbs (L := (Lay.int .u8)) (pv := [(0, (.int .u8 (IntKind.wrap .u8 (w64 (48 + x0)))))]) (xs := [(IntKind.wrap .u8 (w64 (48 + x0)))]) (ess := [[.int .u8 (IntKind.wrap .u8 (w64 (48 + x0)))]]) 1 hs rfl hk rfl rfl rfl un96 (bs5_2 (IntKind.wrap .u8 (w64 (48 + x0)))) (AllOwn.cons0 ⟨rfl, rfl⟩ AllOwn.nil) rfl rfl rfl fun b17 k18 w a hk o19 hs => ?_
     refine sbt (xs := ([(IntKind.wrap .u8 (w64 (48 + x0)))])) rfl hk rfl rfl rfl rfl un96 un5 un9 o19.view (hs.hasG (k := 1) rfl) fun a hk => ?_
     refine sa _ rfl hk rfl rfl rfl fun a hk => ?_
     show wpList _ _ _ [] _ _
     refine wpList_nil ?_
     refine hK16 _ _ ?_
     refine wp_ret ?_
     obtain rfl := Option.some.inj H
     exact fin hk _ [(.string (strOfNums ([(IntKind.wrap .u8 (w64 (48 + x0)))])))] rfl ⟨rfl, trivial⟩ ⟨rfl, (hs.pick [] rfl).dnil⟩
    ·have hk := hk.lit 12 c15 rfl
     refine cnd_false hk rfl rfl ?_
     refine wp_skip ?_
     refine hK13 _ _ ?_
     apply wp_seq_k; intro K20 hK20
     refine wp_region_tree (.q 0 (.q 1 (.q 2 (.alt 3 (.alt 4 (.alt 5 (.alt 6 (.alt 7 (.alt 8 (.alt 9 (.last 10) .stop) .stop) .stop) .stop) .stop) .stop) .stop)))) mo (by kernel_rfl) (hs.pick [] rfl) fun _ => ?_
     have hs := hs.drew
     refine tqst (.int .i64 x0) hk rfl rfl rfl rfl (fun w hs => sm _ rfl hk rfl rfl rfl fun a hk => qe hk) fun a hk => ?_
     refine tqst (.int .i64 (IntKind.wrap .i64 (Int.tdiv x0 10))) hk rfl rfl rfl rfl (fun w hs => sv (.int .i64 (IntKind.wrap .i64 (Int.tdiv x0 10))) hk rfl rfl rfl fun a hk => qe hk) fun a hk => ?_
     obtain ⟨y22, h23, H⟩ := bind_some H
     refine tqst (.string y22) hk rfl rfl rfl rfl (fun w hs => sc rfl en59 hk rfl rfl rfl (ih _ (IntKind.wrap .i64 (Int.tdiv x0 10)) _ h23) fun _ w hR a hk => qc hR hk) fun a hk => ?_
     refine tsst hk rfl rfl (fun K_r21_3 hK_r21_3 w hF => ?_) wt_stop
     have hs := hs.f hF
     refine sm _ rfl hk rfl rfl rfl fun a hk => ?_
     refine se (hs.pick [] rfl) hk (hK_r21_3 _ _ ?_)
     refine tsst hk rfl rfl (fun K_r21_4 hK_r21_4 w hF => ?_) wt_stop
     have hs := hs.f hF
     refine sv (.int .i64 (Int.tmod x0 10)) hk rfl rfl rfl fun a hk => ?_
     refine se (hs.pick [] rfl) hk (hK_r21_4 _ _ ?_)
     refine tsst hk rfl rfl (fun K_r21_5 hK_r21_5 w hF => ?_) wt_stop
     have hs := hs.f hF
     refine sv (.int .i64 (w64 (48 + (Int.tmod x0 10)))) hk rfl rfl rfl fun a hk => ?_
     refine se (hs.pick [] rfl) hk (hK_r21_5 _ _ ?_)
     refine tsst hk rfl rfl (fun K_r21_6 hK_r21_6 w hF => ?_) wt_stop
     have hs := hs.f hF
     refine scn rfl hk rfl rfl rfl un5 un3 fun a hk => ?_
     refine se (hs.pick [] rfl) hk (hK_r21_6 _ _ ?_)
     refine tsst hk rfl rfl (fun K_r21_7 hK_r21_7 w hF => ?_) wt_stop
     have hs := hs.f hF
     refine sbs (L := (Lay.int .u8)) (pv := [(0, (.int .u8 (IntKind.wrap .u8 (w64 (48 + (Int.tmod x0 10))))))]) (xs := [(IntKind.wrap .u8 (w64 (48 + (Int.tmod x0 10))))]) (ess := [[.int .u8 (IntKind.wrap .u8 (w64 (48 + (Int.tmod x0 10))))]]) 3 hs rfl hk rfl rfl rfl un96 (bs5_2 (IntKind.wrap .u8 (w64 (48 + (Int.tmod x0 10))))) (AllOwn.cons0 ⟨rfl, rfl⟩ AllOwn.nil) rfl rfl rfl fun b24 k25 w a hk o26 hs => ?_
     refine se (hs.pick [] rfl) hk (hK_r21_7 _ _ ?_)
     refine tsst hk rfl rfl (fun K_r21_8 hK_r21_8 w hF => ?_) wt_stop
     have hs := hs.f hF
     refine sbt (xs := ([(IntKind.wrap .u8 (w64 (48 + (Int.tmod x0 10))))])) rfl hk rfl rfl rfl rfl un96 un5 un9 o26.view (hs.hasG (k := 3) rfl) fun a hk => ?_
     refine se (hs.pick [] rfl) hk (hK_r21_8 _ _ ?_)
     refine tsst hk rfl rfl (fun K_r21_9 hK_r21_9 w hF => ?_) wt_stop
     have hs := hs.f hF
     rcases ite_some H with ⟨c27, H⟩ | ⟨_, H⟩
     rotate_left
     ·cases H
     refine ssa rfl hk rfl rfl rfl rfl c27 fun a hk => ?_
     refine se (hs.pick [] rfl) hk (hK_r21_9 _ _ ?_)
     refine tlst hk rfl rfl fun K_r21_10 hK_r21_10 w hF => ?_
     have hs := hs.f hF
     refine sa _ rfl hk rfl rfl rfl fun a hk => ?_
     refine se trivial hk (hK_r21_10 _ _ fun w hF => ?_)
     have hs := hs.f hF
     refine hK20 _ _ ?_
     have hs := hs.pick [] rfl
     refine wp_ret ?_
     obtain rfl := Option.some.inj H
     exact fin hk _ [(.string (y22 ++ (strOfNums ([(IntKind.wrap .u8 (w64 (48 + (Int.tmod x0 10))))]))))] rfl ⟨rfl, trivial⟩ ⟨rfl, (hs.pick [] rfl).dnil⟩
set_option maxRecDepth 100000 in
set_option maxHeartbeats 0 in
theorem spec_l00Digits_t (w0 : World) (x0 : Int) (r : ByteArray) (H : spec_l00Digits.f x0 = some r) :
    Calls Tryd.prog 59 #[.int .i64 x0] w0 (Ret (fun v w => v = .string r ∧ Sat [] w0 w [] [])) := by
  obtain ⟨n, H⟩ := recO_some H
  exact spec_l00Digits_n n w0 x0 r H

noncomputable def spec_l00Number.s0 (u14 : ByteArray) (u43 : Int) (u44 : Int) : Option ((Int × Int) ⊕ Ex (Int) (Int × Bool)) :=
  (bif (decide (u44 < (u14.size : Int))) then (((if 0 ≤ u44 ∧ u44 < (u14.size : Int) then (bif (decide ((byteAt u14 u44) < 48)) then (some true) else (if 0 ≤ u44 ∧ u44 < (u14.size : Int) then (some (decide ((byteAt u14 u44) > 57))) else none)) else none) : Option (Bool)).bind fun u61 => (bif u61 then (some (.inr (.ret (0, false)))) else (if 0 ≤ u44 ∧ u44 < (u14.size : Int) then (some (.inl ((w64 ((w64 ((w64 (u43 * 10)) + (IntKind.wrap .i64 (byteAt u14 u44)))) - 48)), (w64 (u44 + 1))))) else none))) else (some (.inr (.out u43))))
noncomputable def spec_l00Number.f (x0 : ByteArray) : Option (Int × Bool) :=
  (((bif (decide ((x0.size : Int) > 0)) then (if 0 ≤ (0 : Int) ∧ (0 : Int) < (x0.size : Int) then (some ((byteAt x0 (0 : Int)) == 45)) else none) else (some false)) : Option (Bool)).bind fun u6 => (((bif u6 then (if 0 ≤ (1 : Int) ∧ (1 : Int) ≤ (x0.size : Int) then (some ((x0.extract (1 : Int).toNat x0.size), (-1))) else none) else (some (x0, 1))) : Option (ByteArray × Int)).bind fun o => match o with | (u14, u15) => (((bif ((u14.size : Int) == 0) then (some true) else (bif (decide ((u14.size : Int) > 18)) then (some true) else (if 0 ≤ (0 : Int) ∧ (0 : Int) < (u14.size : Int) then (bif ((byteAt u14 (0 : Int)) == 48) then (bif (decide ((u14.size : Int) > 1)) then (some true) else (some (decide (u15 < 0)))) else (some false)) else none))) : Option (Bool)).bind fun u26 => (bif u26 then (some (0, false)) else ((loopO (fun s => spec_l00Number.s0 u14 s.1 s.2) (0, 0)).bind fun o => match o with | .out u45 => (some ((w64 (u15 * u45)), true)) | .ret r => (some r))))))
set_option maxRecDepth 100000 in
set_option maxHeartbeats 0 in
theorem spec_l00Number_t (w0 : World) (x0 : ByteArray) (r : Int × Bool) (H : spec_l00Number.f x0 = some r) :
    Calls Tryd.prog 82 #[.string x0] w0 (Ret (fun v w => v = .tuple #[.int .i64 r.1, .bool r.2] ∧ Sat [] w0 w [] [])) := by
  have hs : Sat [] w0 w0 [] [] := Sat.init w0 [] [] (by simp) (by simp) List.nodup_nil (by simp [blks])
  unfold spec_l00Number.f at H
  refine enter Tryd.func82 rfl Tryd.ntmps82 rfl fun a hk => ?_
  apply wp_seq_k; intro K1 hK1
  apply wp_region_lit
  refine sa _ rfl hk rfl rfl rfl fun a hk => ?_
  refine sa _ rfl hk rfl rfl rfl fun a hk => ?_
  show wpList _ _ _ [] _ _
  refine wpList_nil ?_
  refine hK1 _ _ ?_
  apply wp_seq_k; intro K2 hK2
  apply wp_region_lit
  refine sa _ rfl hk rfl rfl rfl fun a hk => ?_
  show wpList _ _ _ [] _ _
  refine wpList_nil ?_
  refine hK2 _ _ ?_
  apply wp_seq_k; intro K3 hK3
  apply wp_seq_k; intro K4 hK4
  obtain ⟨o7, h8, HL9⟩ := bind_some H
  clear H
  obtain ⟨R10, hR10⟩ : ∃ R : Act → World → Prop, R = fun a w => ∃ (u6 : Bool), u6 = o7 ∧ Kn [(0, (.string x0)), (4, (.int .i64 1)), (14, (.bool u6))] 66 a ∧ Sat [] w0 w [] [] := ⟨_, rfl⟩
  refine wp_cutq R10 ?_ ?_
  ·have H := h8
   apply wp_region_lit
   refine sm _ rfl hk rfl rfl rfl fun a hk => ?_
   refine sles rfl hk rfl rfl rfl un9 fun a hk => ?_
   refine sv (.bool (decide ((x0.size : Int) > 0))) hk rfl rfl rfl fun a hk => ?_
   refine sm _ rfl hk rfl rfl rfl fun a hk => ?_
   rcases cond_some H with ⟨c11, H⟩ | ⟨c11, H⟩
   ·have hk := hk.lit 10 c11 rfl
    refine sm _ rfl hk rfl rfl rfl fun a hk => ?_
    rcases ite_some H with ⟨c12, H⟩ | ⟨_, H⟩
    rotate_left
    ·cases H
    refine six rfl hk rfl rfl rfl rfl un9 c12.1 c12.2 fun a hk => ?_
    refine sv (.bool ((byteAt x0 (0 : Int)) == 45)) hk rfl rfl rfl fun a hk => ?_
    refine sv (.bool ((byteAt x0 (0 : Int)) == 45)) hk rfl rfl rfl fun a hk => ?_
    show wpList _ _ _ [] _ _
    refine wpList_nil ?_
    obtain rfl := Option.some.inj H
    show R10 _ _
    rw [hR10]
    exact ⟨((byteAt x0 (0 : Int)) == 45), rfl, (hk.c 0 rfl (hk.c 4 rfl (hk.c 14 rfl hk.k))), (hs.pick [] rfl)⟩
   ·have hk := hk.lit 10 c11 rfl
    refine sk hk rfl rfl rfl fun a hk => ?_
    refine sk hk rfl rfl rfl fun a hk => ?_
    refine sk hk rfl rfl rfl fun a hk => ?_
    refine sv (.bool false) hk rfl rfl rfl fun a hk => ?_
    show wpList _ _ _ [] _ _
    refine wpList_nil ?_
    obtain rfl := Option.some.inj H
    show R10 _ _
    rw [hR10]
    exact ⟨false, rfl, (hk.c 0 rfl (hk.c 4 rfl (hk.c 14 rfl hk.k))), (hs.pick [] rfl)⟩
  ·intro a w hR0
   rw [hR10] at hR0
   obtain ⟨u6, rfl, hk, hs⟩ := hR0
   have H := HL9
   try dsimp only at H
   refine hK4 _ _ ?_
   obtain ⟨o16, h17, HL18⟩ := bind_some H
   clear H
   obtain ⟨R19, hR19⟩ : ∃ R : Act → World → Prop, R = fun a w => ∃ (u14 : ByteArray) (u15 : Int), (u14, u15) = o16 ∧ Kn [(0, (.string u14)), (4, (.int .i64 u15))] 66 a ∧ Sat [] w0 w [] [] := ⟨_, rfl⟩
   refine wp_cutq R19 ?_ ?_
   ·have H := h17
    rcases cond_some H with ⟨c20, H⟩ | ⟨c20, H⟩
    ·have hk := hk.lit 14 c20 rfl
     refine cnd_true hk rfl rfl ?_
     apply wp_seq_k; intro K21 hK21
     apply wp_region_lit
     refine sa _ rfl hk rfl rfl rfl fun a hk => ?_
     show wpList _ _ _ [] _ _
     refine wpList_nil ?_
     refine hK21 _ _ ?_
     have hs := hs.pick [] rfl
     apply wp_region_lit
     refine sm _ rfl hk rfl rfl rfl fun a hk => ?_
     rcases ite_some H with ⟨c22, H⟩ | ⟨_, H⟩
     rotate_left
     ·cases H
     refine ssl_l rfl hk rfl rfl rfl rfl un9 c22.1 c22.2 fun a hk => ?_
     refine sa _ rfl hk rfl rfl rfl fun a hk => ?_
     show wpList _ _ _ [] _ _
     refine wpList_nil ?_
     obtain rfl := Option.some.inj H
     show R19 _ _
     rw [hR19]
     exact ⟨(x0.extract (1 : Int).toNat x0.size), (-1), rfl, (hk.c 0 rfl (hk.c 4 rfl hk.k)), (hs.pick [] rfl)⟩
    ·have hk := hk.lit 14 c20 rfl
     refine cnd_false hk rfl rfl ?_
     refine wp_skip ?_
     obtain rfl := Option.some.inj H
     show R19 _ _
     rw [hR19]
     exact ⟨x0, 1, rfl, (hk.c 0 rfl (hk.c 4 rfl hk.k)), (hs.pick [] rfl)⟩
   ·intro a w hR0
    rw [hR19] at hR0
    obtain ⟨u14, u15, rfl, hk, hs⟩ := hR0
    have H := HL18
    try dsimp only at H
    refine hK3 _ _ ?_
    have hs := hs.pick [] rfl
    apply wp_seq_k; intro K23 hK23
    apply wp_seq_k; intro K24 hK24
    obtain ⟨o27, h28, HL29⟩ := bind_some H
    clear H
    obtain ⟨R30, hR30⟩ : ∃ R : Act → World → Prop, R = fun a w => ∃ (u26 : Bool), u26 = o27 ∧ Kn [(0, (.string u14)), (4, (.int .i64 u15)), (38, (.bool u26))] 66 a ∧ Sat [] w0 w [] [] := ⟨_, rfl⟩
    refine wp_cutq R30 ?_ ?_
    ·have H := h28
     apply wp_region_lit
     refine sm _ rfl hk rfl rfl rfl fun a hk => ?_
     refine sles rfl hk rfl rfl rfl un9 fun a hk => ?_
     refine sv (.bool ((u14.size : Int) == 0)) hk rfl rfl rfl fun a hk => ?_
     refine sm _ rfl hk rfl rfl rfl fun a hk => ?_
     rcases cond_some H with ⟨c31, H⟩ | ⟨c31, H⟩
     ·have hk := hk.lit 20 c31 rfl
      refine sk hk rfl rfl rfl fun a hk => ?_
      refine sk hk rfl rfl rfl fun a hk => ?_
      refine sk hk rfl rfl rfl fun a hk => ?_
      refine sv (.bool true) hk rfl rfl rfl fun a hk => ?_
      refine sm _ rfl hk rfl rfl rfl fun a hk => ?_
      refine sk hk rfl rfl rfl fun a hk => ?_
      refine sk hk rfl rfl rfl fun a hk => ?_
      refine sk hk rfl rfl rfl fun a hk => ?_
      refine sk hk rfl rfl rfl fun a hk => ?_
      refine sk hk rfl rfl rfl fun a hk => ?_
      refine sk hk rfl rfl rfl fun a hk => ?_
      refine sk hk rfl rfl rfl fun a hk => ?_
      refine sk hk rfl rfl rfl fun a hk => ?_
      refine sk hk rfl rfl rfl fun a hk => ?_
      refine sk hk rfl rfl rfl fun a hk => ?_
      refine sk hk rfl rfl rfl fun a hk => ?_
      refine sk hk rfl rfl rfl fun a hk => ?_
      refine sv (.bool true) hk rfl rfl rfl fun a hk => ?_
      show wpList _ _ _ [] _ _
      refine wpList_nil ?_
      obtain rfl := Option.some.inj H
      show R30 _ _
      rw [hR30]
      exact ⟨true, rfl, (hk.c 0 rfl (hk.c 4 rfl (hk.c 38 rfl hk.k))), (hs.pick [] rfl)⟩
     ·have hk := hk.lit 20 c31 rfl
      refine sm _ rfl hk rfl rfl rfl fun a hk => ?_
      refine sles rfl hk rfl rfl rfl un9 fun a hk => ?_
      refine sv (.bool (decide ((u14.size : Int) > 18))) hk rfl rfl rfl fun a hk => ?_
      refine sv (.bool (decide ((u14.size : Int) > 18))) hk rfl rfl rfl fun a hk => ?_
      refine sm _ rfl hk rfl rfl rfl fun a hk => ?_
      rcases cond_some H with ⟨c32, H⟩ | ⟨c32, H⟩
      ·have hk := hk.lit 25 c32 rfl
       refine sk hk rfl rfl rfl fun a hk => ?_
       refine sk hk rfl rfl rfl fun a hk => ?_
       refine sk hk rfl rfl rfl fun a hk => ?_
       refine sk hk rfl rfl rfl fun a hk => ?_
       refine sk hk rfl rfl rfl fun a hk => ?_
       refine sk hk rfl rfl rfl fun a hk => ?_
       refine sk hk rfl rfl rfl fun a hk => ?_
       refine sk hk rfl rfl rfl fun a hk => ?_
       refine sk hk rfl rfl rfl fun a hk => ?_
       refine sk hk rfl rfl rfl fun a hk => ?_
       refine sk hk rfl rfl rfl fun a hk => ?_
       refine sk hk rfl rfl rfl fun a hk => ?_
       refine sv (.bool true) hk rfl rfl rfl fun a hk => ?_
       show wpList _ _ _ [] _ _
       refine wpList_nil ?_
       obtain rfl := Option.some.inj H
       show R30 _ _
       rw [hR30]
       exact ⟨true, rfl, (hk.c 0 rfl (hk.c 4 rfl (hk.c 38 rfl hk.k))), (hs.pick [] rfl)⟩
      ·have hk := hk.lit 25 c32 rfl
       refine sm _ rfl hk rfl rfl rfl fun a hk => ?_
       rcases ite_some H with ⟨c33, H⟩ | ⟨_, H⟩
       rotate_left
       ·cases H
       refine six rfl hk rfl rfl rfl rfl un9 c33.1 c33.2 fun a hk => ?_
       refine sv (.bool ((byteAt u14 (0 : Int)) == 48)) hk rfl rfl rfl fun a hk => ?_
       refine sm _ rfl hk rfl rfl rfl fun a hk => ?_
       rcases cond_some H with ⟨c34, H⟩ | ⟨c34, H⟩
       ·have hk := hk.lit 29 c34 rfl
        refine sm _ rfl hk rfl rfl rfl fun a hk => ?_
        refine sles rfl hk rfl rfl rfl un9 fun a hk => ?_
        refine sv (.bool (decide ((u14.size : Int) > 1))) hk rfl rfl rfl fun a hk => ?_
        refine sm _ rfl hk rfl rfl rfl fun a hk => ?_
        rcases cond_some H with ⟨c35, H⟩ | ⟨c35, H⟩
        ·have hk := hk.lit 33 c35 rfl
         refine sk hk rfl rfl rfl fun a hk => ?_
         refine sk hk rfl rfl rfl fun a hk => ?_
         refine sv (.bool true) hk rfl rfl rfl fun a hk => ?_
         refine sv (.bool true) hk rfl rfl rfl fun a hk => ?_
         refine sv (.bool true) hk rfl rfl rfl fun a hk => ?_
         show wpList _ _ _ [] _ _
         refine wpList_nil ?_
         obtain rfl := Option.some.inj H
         show R30 _ _
         rw [hR30]
         exact ⟨true, rfl, (hk.c 0 rfl (hk.c 4 rfl (hk.c 38 rfl hk.k))), (hs.pick [] rfl)⟩
        ·have hk := hk.lit 33 c35 rfl
         refine sm _ rfl hk rfl rfl rfl fun a hk => ?_
         refine sv (.bool (decide (u15 < 0))) hk rfl rfl rfl fun a hk => ?_
         refine sv (.bool (decide (u15 < 0))) hk rfl rfl rfl fun a hk => ?_
         refine sv (.bool (decide (u15 < 0))) hk rfl rfl rfl fun a hk => ?_
         refine sv (.bool (decide (u15 < 0))) hk rfl rfl rfl fun a hk => ?_
         show wpList _ _ _ [] _ _
         refine wpList_nil ?_
         obtain rfl := Option.some.inj H
         show R30 _ _
         rw [hR30]
         exact ⟨(decide (u15 < 0)), rfl, (hk.c 0 rfl (hk.c 4 rfl (hk.c 38 rfl hk.k))), (hs.pick [] rfl)⟩
       ·have hk := hk.lit 29 c34 rfl
        refine sk hk rfl rfl rfl fun a hk => ?_
        refine sk hk rfl rfl rfl fun a hk => ?_
        refine sk hk rfl rfl rfl fun a hk => ?_
        refine sk hk rfl rfl rfl fun a hk => ?_
        refine sk hk rfl rfl rfl fun a hk => ?_
        refine sk hk rfl rfl rfl fun a hk => ?_
        refine sk hk rfl rfl rfl fun a hk => ?_
        refine sv (.bool false) hk rfl rfl rfl fun a hk => ?_
        refine sv (.bool false) hk rfl rfl rfl fun a hk => ?_
        show wpList _ _ _ [] _ _
        refine wpList_nil ?_
        obtain rfl := Option.some.inj H
        show R30 _ _
        rw [hR30]
        exact ⟨false, rfl, (hk.c 0 rfl (hk.c 4 rfl (hk.c 38 rfl hk.k))), (hs.pick [] rfl)⟩
    ·intro a w hR0
     rw [hR30] at hR0
     obtain ⟨u26, rfl, hk, hs⟩ := hR0
     have H := HL29
     try dsimp only at H
     refine hK24 _ _ ?_
     rcases cond_some H with ⟨c36, H⟩ | ⟨c36, H⟩
     ·have hk := hk.lit 38 c36 rfl
      refine cnd_true hk rfl rfl ?_
      apply wp_seq_k; intro K37 hK37
      apply wp_region_lit
      refine sa _ rfl hk rfl rfl rfl fun a hk => ?_
      refine sa _ rfl hk rfl rfl rfl fun a hk => ?_
      show wpList _ _ _ [] _ _
      refine wpList_nil ?_
      refine hK37 _ _ ?_
      refine wp_ret ?_
      obtain rfl := Option.some.inj H
      exact fin hk _ [(.int .i64 0), (.bool false)] rfl ⟨rfl, ⟨rfl, trivial⟩⟩ ⟨rfl, (hs.pick [] rfl).dnil⟩
     ·have hk := hk.lit 38 c36 rfl
      refine cnd_false hk rfl rfl ?_
      refine wp_skip ?_
      refine hK23 _ _ ?_
      apply wp_seq_k; intro K38 hK38
      apply wp_region_lit
      refine sa _ rfl hk rfl rfl rfl fun a hk => ?_
      show wpList _ _ _ [] _ _
      refine wpList_nil ?_
      refine hK38 _ _ ?_
      apply wp_seq_k; intro K39 hK39
      apply wp_seq_k; intro K40 hK40
      apply wp_region_lit
      refine sa _ rfl hk rfl rfl rfl fun a hk => ?_
      show wpList _ _ _ [] _ _
      refine wpList_nil ?_
      refine hK40 _ _ ?_
      have hs := hs.pick [] rfl
      obtain ⟨o46, h47, HL48⟩ := bind_some H
      clear H
      obtain ⟨R49, hR49⟩ : ∃ R : Act → World → Prop, R = fun a w => ∃ (u45 : Int), o46 = .out u45 ∧ Kn [(4, (.int .i64 u15)), (5, (.int .i64 u45))] 66 a ∧ Sat [] w0 w [] [] := ⟨_, rfl⟩
      refine wp_cutq R49 ?_ ?_
      ·refine wp_block ?_
       obtain ⟨fu51, h47⟩ := loopO_some h47
       obtain ⟨I50, hI50⟩ : ∃ I : Nat → Act → World → Prop, I = fun fu a w => ∃ (u43 : Int) (u44 : Int), loopN (fun s => spec_l00Number.s0 u14 s.1 s.2) fu (u43, u44) = some o46 ∧ Kn [(0, (.string u14)), (4, (.int .i64 u15)), (5, (.int .i64 u43)), (6, (.int .i64 u44))] 66 a ∧ Sat [] w0 w [] [] := ⟨_, rfl⟩
       refine wp_loop_ghost I50 fu51 ?_ ?_
       ·rw [hI50]
        exact ⟨0, 0, h47, (hk.c 0 rfl (hk.c 4 rfl (hk.c 5 rfl (hk.c 6 rfl hk.k)))), (hs.pick [] rfl)⟩
       ·clear h47 hk hs
        intro fu51 a w hI0
        rw [hI50] at hI0
        obtain ⟨u43, u44, hi, hk, hs⟩ := hI0
        obtain ⟨x52, H, h53⟩ := loop_round hi
        try dsimp only at H
        unfold spec_l00Number.s0 at H
        apply wp_seq_k; intro K54 hK54
        apply wp_seq_k; intro K55 hK55
        apply wp_region_lit
        refine sm _ rfl hk rfl rfl rfl fun a hk => ?_
        refine sm _ rfl hk rfl rfl rfl fun a hk => ?_
        refine sles rfl hk rfl rfl rfl un9 fun a hk => ?_
        refine sv (.bool (decide (u44 < (u14.size : Int)))) hk rfl rfl rfl fun a hk => ?_
        show wpList _ _ _ [] _ _
        refine wpList_nil ?_
        refine hK55 _ _ ?_
        rcases cond_some H with ⟨c56, H⟩ | ⟨c56, H⟩
        ·have hk := hk.lit 42 c56 rfl
         refine cnd_true hk rfl rfl ?_
         refine wp_skip ?_
         refine hK54 _ _ ?_
         apply wp_seq_k; intro K57 hK57
         refine wp_block ?_
         apply wp_seq_k; intro K58 hK58
         apply wp_seq_k; intro K59 hK59
         obtain ⟨o62, h63, HL64⟩ := bind_some H
         clear H
         obtain ⟨R65, hR65⟩ : ∃ R : Act → World → Prop, R = fun a w => ∃ (u61 : Bool), u61 = o62 ∧ Kn [(0, (.string u14)), (4, (.int .i64 u15)), (5, (.int .i64 u43)), (6, (.int .i64 u44)), (54, (.bool u61))] 66 a ∧ Sat [] w0 w [] [] := ⟨_, rfl⟩
         refine wp_cutq R65 ?_ ?_
         ·have H := h63
          apply wp_region_lit
          refine sm _ rfl hk rfl rfl rfl fun a hk => ?_
          refine sm _ rfl hk rfl rfl rfl fun a hk => ?_
          rcases ite_some H with ⟨c66, H⟩ | ⟨_, H⟩
          rotate_left
          ·cases H
          refine six rfl hk rfl rfl rfl rfl un9 c66.1 c66.2 fun a hk => ?_
          refine sv (.bool (decide ((byteAt u14 u44) < 48))) hk rfl rfl rfl fun a hk => ?_
          refine sm _ rfl hk rfl rfl rfl fun a hk => ?_
          rcases cond_some H with ⟨c67, H⟩ | ⟨c67, H⟩
          ·have hk := hk.lit 49 c67 rfl
           refine sk hk rfl rfl rfl fun a hk => ?_
           refine sk hk rfl rfl rfl fun a hk => ?_
           refine sk hk rfl rfl rfl fun a hk => ?_
           refine sk hk rfl rfl rfl fun a hk => ?_
           refine sv (.bool true) hk rfl rfl rfl fun a hk => ?_
           show wpList _ _ _ [] _ _
           refine wpList_nil ?_
           obtain rfl := Option.some.inj H
           show R65 _ _
           rw [hR65]
           exact ⟨true, rfl, (hk.c 0 rfl (hk.c 4 rfl (hk.c 5 rfl (hk.c 6 rfl (hk.c 54 rfl hk.k))))), (hs.pick [] rfl)⟩
          ·have hk := hk.lit 49 c67 rfl
           refine sm _ rfl hk rfl rfl rfl fun a hk => ?_
           refine sm _ rfl hk rfl rfl rfl fun a hk => ?_
           rcases ite_some H with ⟨c68, H⟩ | ⟨_, H⟩
           rotate_left
           ·cases H
           refine six rfl hk rfl rfl rfl rfl un9 c68.1 c68.2 fun a hk => ?_
           refine sv (.bool (decide ((byteAt u14 u44) > 57))) hk rfl rfl rfl fun a hk => ?_
           refine sv (.bool (decide ((byteAt u14 u44) > 57))) hk rfl rfl rfl fun a hk => ?_
           show wpList _ _ _ [] _ _
           refine wpList_nil ?_
           obtain rfl := Option.some.inj H
           show R65 _ _
           rw [hR65]
           exact ⟨(decide ((byteAt u14 u44) > 57)), rfl, (hk.c 0 rfl (hk.c 4 rfl (hk.c 5 rfl (hk.c 6 rfl (hk.c 54 rfl hk.k))))), (hs.pick [] rfl)⟩
         ·intro a w hR0
          rw [hR65] at hR0
          obtain ⟨u61, rfl, hk, hs⟩ := hR0
          have H := HL64
          try dsimp only at H
          refine hK59 _ _ ?_
          rcases cond_some H with ⟨c69, H⟩ | ⟨c69, H⟩
          ·have hk := hk.lit 54 c69 rfl
           refine cnd_true hk rfl rfl ?_
           apply wp_seq_k; intro K70 hK70
           apply wp_region_lit
           refine sa _ rfl hk rfl rfl rfl fun a hk => ?_
           refine sa _ rfl hk rfl rfl rfl fun a hk => ?_
           show wpList _ _ _ [] _ _
           refine wpList_nil ?_
           refine hK70 _ _ ?_
           have hs := hs.pick [] rfl
           refine wp_ret ?_
           obtain rfl := Option.some.inj H
           have ho46 := h53
           try dsimp only at ho46
           subst ho46
           have H := HL48
           try dsimp only at H
           obtain rfl := Option.some.inj H
           exact fin hk _ [(.int .i64 0), (.bool false)] rfl ⟨rfl, ⟨rfl, trivial⟩⟩ ⟨rfl, (hs.pick [] rfl).dnil⟩
          ·have hk := hk.lit 54 c69 rfl
           refine cnd_false hk rfl rfl ?_
           refine wp_skip ?_
           refine hK58 _ _ ?_
           have hs := hs.pick [] rfl
           apply wp_region_lit
           refine sm _ rfl hk rfl rfl rfl fun a hk => ?_
           refine sv (.int .i64 (w64 (u43 * 10))) hk rfl rfl rfl fun a hk => ?_
           refine sm _ rfl hk rfl rfl rfl fun a hk => ?_
           refine sm _ rfl hk rfl rfl rfl fun a hk => ?_
           rcases ite_some H with ⟨c71, H⟩ | ⟨_, H⟩
           rotate_left
           ·cases H
           refine six rfl hk rfl rfl rfl rfl un9 c71.1 c71.2 fun a hk => ?_
           refine scn rfl hk rfl rfl rfl un3 un5 fun a hk => ?_
           refine sv (.int .i64 (w64 ((w64 (u43 * 10)) + (IntKind.wrap .i64 (byteAt u14 u44))))) hk rfl rfl rfl fun a hk => ?_
           refine sv (.int .i64 (w64 ((w64 ((w64 (u43 * 10)) + (IntKind.wrap .i64 (byteAt u14 u44)))) - 48))) hk rfl rfl rfl fun a hk => ?_
           refine sa _ rfl hk rfl rfl rfl fun a hk => ?_
           show wpList _ _ _ [] _ _
           refine wpList_nil ?_
           refine hK57 _ _ ?_
           apply wp_region_lit
           refine sm _ rfl hk rfl rfl rfl fun a hk => ?_
           refine sv (.int .i64 (w64 (u44 + 1))) hk rfl rfl rfl fun a hk => ?_
           refine sa _ rfl hk rfl rfl rfl fun a hk => ?_
           show wpList _ _ _ [] _ _
           refine wpList_nil ?_
           obtain rfl := Option.some.inj H
           obtain ⟨m72, hmm72, h53⟩ := h53
           show ∃ n', n' < _ ∧ I50 n' _ _
           refine ⟨m72, hmm72, ?_⟩
           rw [hI50]
           exact ⟨(w64 ((w64 ((w64 (u43 * 10)) + (IntKind.wrap .i64 (byteAt u14 u44)))) - 48)), (w64 (u44 + 1)), h53, (hk.c 0 rfl (hk.c 4 rfl (hk.c 5 rfl (hk.c 6 rfl hk.k)))), (hs.pick [] rfl)⟩
        ·have hk := hk.lit 42 c56 rfl
         refine cnd_false hk rfl rfl ?_
         refine wp_exit ?_
         obtain rfl := Option.some.inj H
         show R49 _ _
         rw [hR49]
         exact ⟨u43, h53.symm, (hk.c 4 rfl (hk.c 5 rfl hk.k)), (hs.pick [] rfl)⟩
      ·intro a w hR0
       rw [hR49] at hR0
       obtain ⟨u45, rfl, hk, hs⟩ := hR0
       have H := HL48
       try dsimp only at H
       refine hK39 _ _ ?_
       apply wp_seq_k; intro K73 hK73
       apply wp_region_lit
       refine sm _ rfl hk rfl rfl rfl fun a hk => ?_
       refine sm _ rfl hk rfl rfl rfl fun a hk => ?_
       refine sv (.int .i64 (w64 (u15 * u45))) hk rfl rfl rfl fun a hk => ?_
       refine sa _ rfl hk rfl rfl rfl fun a hk => ?_
       refine sa _ rfl hk rfl rfl rfl fun a hk => ?_
       show wpList _ _ _ [] _ _
       refine wpList_nil ?_
       refine hK73 _ _ ?_
       refine wp_ret ?_
       obtain rfl := Option.some.inj H
       exact fin hk _ [(.int .i64 (w64 (u15 * u45))), (.bool true)] rfl ⟨rfl, ⟨rfl, trivial⟩⟩ ⟨rfl, (hs.pick [] rfl).dnil⟩

noncomputable def spec_l09Number.f (x0 : ByteArray) : Option (Int × Bool) :=
  ((spec_l00Number.f x0).bind fun y3 => (((bif y3.2 then (bif (decide (y3.1 ≥ 0)) then ((spec_l00Digits.f y3.1).bind fun y15 => (some (y3.1, (y15.toList == x0.toList)))) else (some (y3.1, false))) else (some (y3.1, false))) : Option (Int × Bool)).bind fun o => match o with | (u7, u8) => (some (u7, u8))))
set_option maxRecDepth 100000 in
set_option maxHeartbeats 0 in
theorem spec_l09Number_t (w0 : World) (x0 : ByteArray) (r : Int × Bool) (H : spec_l09Number.f x0 = some r) :
    Calls Tryd.prog 51 #[.string x0] w0 (Ret (fun v w => v = .tuple #[.int .i64 r.1, .bool r.2] ∧ Sat [] w0 w [] [])) := by
  have hs : Sat [] w0 w0 [] [] := Sat.init w0 [] [] (by simp) (by simp) List.nodup_nil (by simp [blks])
  unfold spec_l09Number.f at H
  refine enter Tryd.func51 rfl Tryd.ntmps51 rfl fun a hk => ?_
  apply wp_seq_k; intro K1 hK1
  apply wp_region_lit
  refine sa _ rfl hk rfl rfl rfl fun a hk => ?_
  refine sa _ rfl hk rfl rfl rfl fun a hk => ?_
  show wpList _ _ _ [] _ _
  refine wpList_nil ?_
  refine hK1 _ _ ?_
  apply wp_seq_k; intro K2 hK2
  apply wp_region_lit
  refine sm _ rfl hk rfl rfl rfl fun a hk => ?_
  obtain ⟨y3, h4, H⟩ := bind_some H
  refine sc rfl en82 hk rfl rfl rfl (spec_l00Number_t _ x0 _ h4) ?_
  rintro _ w ⟨rfl, hG⟩ a hk
  have hs := hs.call0 hG
  refine sm _ rfl hk rfl rfl rfl fun a hk => ?_
  refine sv (.int .i64 y3.1) hk rfl rfl rfl fun a hk => ?_
  refine sv (.bool y3.2) hk rfl rfl rfl fun a hk => ?_
  refine sa _ rfl hk rfl rfl rfl fun a hk => ?_
  refine sa _ rfl hk rfl rfl rfl fun a hk => ?_
  show wpList _ _ _ [] _ _
  refine wpList_nil ?_
  refine hK2 _ _ ?_
  apply wp_seq_k; intro K5 hK5
  obtain ⟨o9, h10, HL11⟩ := bind_some H
  clear H
  obtain ⟨R12, hR12⟩ : ∃ R : Act → World → Prop, R = fun a w => ∃ (u7 : Int) (u8 : Bool), (u7, u8) = o9 ∧ Kn [(2, (.int .i64 u7)), (3, (.bool u8))] 23 a ∧ Sat [] w0 w [] [] := ⟨_, rfl⟩
  refine wp_cutq R12 ?_ ?_
  ·have H := h10
   apply wp_region_lit
   refine sm _ rfl hk rfl rfl rfl fun a hk => ?_
   refine sm _ rfl hk rfl rfl rfl fun a hk => ?_
   refine sm _ rfl hk rfl rfl rfl fun a hk => ?_
   rcases cond_some H with ⟨c13, H⟩ | ⟨c13, H⟩
   ·have hk := hk.lit 13 c13 rfl
    refine sm _ rfl hk rfl rfl rfl fun a hk => ?_
    refine sv (.bool (decide (y3.1 ≥ 0))) hk rfl rfl rfl fun a hk => ?_
    refine sv (.bool (decide (y3.1 ≥ 0))) hk rfl rfl rfl fun a hk => ?_
    refine sm _ rfl hk rfl rfl rfl fun a hk => ?_
    rcases cond_some H with ⟨c14, H⟩ | ⟨c14, H⟩
    ·have hk := hk.lit 17 c14 rfl
     refine sm _ rfl hk rfl rfl rfl fun a hk => ?_
     obtain ⟨y15, h16, H⟩ := bind_some H
     refine sc rfl en59 hk rfl rfl rfl (spec_l00Digits_t _ y3.1 _ h16) ?_
     rintro _ w ⟨rfl, hG⟩ a hk
     have hs := hs.call0 hG
     refine sm _ rfl hk rfl rfl rfl fun a hk => ?_
     refine sv (.bool (y15.toList == x0.toList)) hk rfl rfl rfl fun a hk => ?_
     refine sv (.bool (y15.toList == x0.toList)) hk rfl rfl rfl fun a hk => ?_
     refine sa _ rfl hk rfl rfl rfl fun a hk => ?_
     refine sa _ rfl hk rfl rfl rfl fun a hk => ?_
     show wpList _ _ _ [] _ _
     refine wpList_nil ?_
     obtain rfl := Option.some.inj H
     show R12 _ _
     rw [hR12]
     exact ⟨y3.1, (y15.toList == x0.toList), rfl, (hk.c 2 rfl (hk.c 3 rfl hk.k)), (hs.pick [] rfl)⟩
    ·have hk := hk.lit 17 c14 rfl
     refine sk hk rfl rfl rfl fun a hk => ?_
     refine sk hk rfl rfl rfl fun a hk => ?_
     refine sk hk rfl rfl rfl fun a hk => ?_
     refine sk hk rfl rfl rfl fun a hk => ?_
     refine sv (.bool false) hk rfl rfl rfl fun a hk => ?_
     refine sa _ rfl hk rfl rfl rfl fun a hk => ?_
     refine sa _ rfl hk rfl rfl rfl fun a hk => ?_
     show wpList _ _ _ [] _ _
     refine wpList_nil ?_
     obtain rfl := Option.some.inj H
     show R12 _ _
     rw [hR12]
     exact ⟨y3.1, false, rfl, (hk.c 2 rfl (hk.c 3 rfl hk.k)), (hs.pick [] rfl)⟩
   ·have hk := hk.lit 13 c13 rfl
    refine sk hk rfl rfl rfl fun a hk => ?_
    refine sk hk rfl rfl rfl fun a hk => ?_
    refine sv (.bool false) hk rfl rfl rfl fun a hk => ?_
    refine sm _ rfl hk rfl rfl rfl fun a hk => ?_
    refine sk hk rfl rfl rfl fun a hk => ?_
    refine sk hk rfl rfl rfl fun a hk => ?_
    refine sk hk rfl rfl rfl fun a hk => ?_
    refine sk hk rfl rfl rfl fun a hk => ?_
    refine sv (.bool false) hk rfl rfl rfl fun a hk => ?_
    refine sa _ rfl hk rfl rfl rfl fun a hk => ?_
    refine sa _ rfl hk rfl rfl rfl fun a hk => ?_
    show wpList _ _ _ [] _ _
    refine wpList_nil ?_
    obtain rfl := Option.some.inj H
    show R12 _ _
    rw [hR12]
    exact ⟨y3.1, false, rfl, (hk.c 2 rfl (hk.c 3 rfl hk.k)), (hs.pick [] rfl)⟩
  ·intro a w hR0
   rw [hR12] at hR0
   obtain ⟨u7, u8, rfl, hk, hs⟩ := hR0
   have H := HL11
   try dsimp only at H
   refine hK5 _ _ ?_
   refine wp_ret ?_
   obtain rfl := Option.some.inj H
   exact fin hk _ [(.int .i64 u7), (.bool u8)] rfl ⟨rfl, ⟨rfl, trivial⟩⟩ ⟨rfl, (hs.pick [] rfl).dnil⟩

noncomputable def spec_ReadResult.s0 (y8 : (List ByteArray)) (u47 : Int) (u52 : List Int) : Option ((Int × (List Int)) ⊕ Ex ((List Int)) (S_Result × Int)) :=
  (bif (decide (u47 < (y8.length : Int))) then (if 0 ≤ u47 ∧ u47 < (y8.length : Int) then ((spec_l09Number.f (y8.getD u47.toNat ByteArray.empty)).bind fun y79 => (bif (!y79.2) then (some (.inr (.ret ((⟨0, ([] : List Int)⟩ : S_Result), 3)))) else (if u52.length + ([y79.1]).length ≤ 1073741824 then (some (.inl ((w64 (u47 + 1)), (u52 ++ ([y79.1]))))) else none))) else none) else (some (.inr (.out u52))))
noncomputable def spec_ReadResult.f (x0 : ByteArray) : Option (S_Result × Int) :=
  (bif (decide ((x0.size : Int) > 65536)) then (some ((⟨0, ([] : List Int)⟩ : S_Result), 2)) else ((spec_l00Words.f x0).bind fun y8 => (((bif ((y8.length : Int) == 0) then (some true) else (if 0 ≤ (0 : Int) ∧ (0 : Int) < (y8.length : Int) then ((spec_CodeOf.f (y8.getD (0 : Int).toNat ByteArray.empty)).bind fun y32 => (some (decide (y32 < 0)))) else none)) : Option (Bool)).bind fun u22 => (bif u22 then (some ((⟨0, ([] : List Int)⟩ : S_Result), 3)) else (if 0 ≤ (0 : Int) ∧ (0 : Int) < (y8.length : Int) then ((spec_CodeOf.f (y8.getD (0 : Int).toNat ByteArray.empty)).bind fun y41 => ((loopO (fun s => spec_ReadResult.s0 y8 s.1 s.2) (1, ([] : List Int))).bind fun o => match o with | .out u57 => ((spec_l10ResultOK.f (⟨y41, u57⟩ : S_Result)).bind fun y96 => (bif (!y96) then (some ((⟨0, ([] : List Int)⟩ : S_Result), 3)) else (some ((⟨y41, u57⟩ : S_Result), 0)))) | .ret r => (some r))) else none)))))
set_option maxRecDepth 100000 in
set_option maxHeartbeats 0 in
theorem spec_ReadResult_t (w0 : World) (x0 : ByteArray) (r : S_Result × Int) (H : spec_ReadResult.f x0 = some r) :
    Calls Tryd.prog 24 #[.string x0] w0 (Ret (fun v w => ∃ (A0 : Option Addr) (p0 : Nat) (k0 : Chunk), v = .tuple #[.agg #[.int .i64 r.1.Code, .slice A0 r.1.Values.length p0], .int .i64 r.2] ∧ Own (Lay.int .i64) 3 A0 p0 r.1.Values k0 ∧ Sat [] w0 w [] [(0, k0)])) := by
  have hs : Sat [] w0 w0 [] [] := Sat.init w0 [] [] (by simp) (by simp) List.nodup_nil (by simp [blks])
  unfold spec_ReadResult.f at H
  refine enter Tryd.func24 rfl Tryd.ntmps24 rfl fun a hk => ?_
  apply wp_seq_k; intro K1 hK1
  apply wp_region_lit
  refine salx 1 hs rfl hk rfl rfl ze34 rfl fun b2 w a hk hs => ?_
  refine sa _ rfl hk rfl rfl rfl fun a hk => ?_
  show wpList _ _ _ [] _ _
  refine wpList_nil ?_
  refine hK1 _ _ ?_
  apply wp_seq_k; intro K3 hK3
  apply wp_seq_k; intro K4 hK4
  apply wp_region_lit
  refine sm _ rfl hk rfl rfl rfl fun a hk => ?_
  refine sles rfl hk rfl rfl rfl un9 fun a hk => ?_
  refine sv (.bool (decide ((x0.size : Int) > 65536))) hk rfl rfl rfl fun a hk => ?_
  show wpList _ _ _ [] _ _
  refine wpList_nil ?_
  refine hK4 _ _ ?_
  rcases cond_some H with ⟨c5, H⟩ | ⟨c5, H⟩
  ·have hk := hk.lit 11 c5 rfl
   refine cnd_true hk rfl rfl ?_
   apply wp_seq_k; intro K6 hK6
   apply wp_region_lit
   refine sbd (pv := []) rfl hk rfl rfl rfl bd34_3 fun a hk => ?_
   refine ssw 1 hs rfl rfl hk rfl rfl rfl rfl sz34 (by simp [Value.oneCell']) rfl fun w a hk hs => ?_
   refine sa _ rfl hk rfl rfl rfl fun a hk => ?_
   show wpList _ _ _ [] _ _
   refine wpList_nil ?_
   refine hK6 _ _ ?_
   refine wp_ret ?_
   obtain rfl := Option.some.inj H
   have hs := hs.addNil 2
   exact fin hk _ [(.agg #[.int .i64 0, .slice none 0 0]), (.int .i64 2)] rfl ⟨⟨_, rfl, run_loadN ag34 sz34 (box_cells hs (k := 1) rfl)⟩, ⟨rfl, trivial⟩⟩ ⟨none, 0, [], rfl, Own.nil _ _, (hs.pick [(0, 2)] rfl).dnil⟩
  ·have hk := hk.lit 11 c5 rfl
   refine cnd_false hk rfl rfl ?_
   refine wp_skip ?_
   refine hK3 _ _ ?_
   apply wp_seq_k; intro K7 hK7
   apply wp_region_lit
   refine sm _ rfl hk rfl rfl rfl fun a hk => ?_
   obtain ⟨y8, h9, H⟩ := bind_some H
   refine sc rfl en49 hk rfl rfl rfl (spec_l00Words_t _ x0 _ h9) ?_
   rintro _ w ⟨A10, p11, k12, rfl, o13, hG⟩ a hk
   have hs := hs.call0k hG [3] rfl
   refine sa _ rfl hk rfl rfl rfl fun a hk => ?_
   show wpList _ _ _ [] _ _
   refine wpList_nil ?_
   refine hK7 _ _ ?_
   have hs := hs.pick [(3, 3), (1, 1)] rfl
   apply wp_seq_k; intro K14 hK14
   apply wp_region_lit
   refine sbs0 4 (Lay.int .i64) hs rfl hk rfl rfl un29 sz3 fun b15 k16 w a hk o17 hs => ?_
   refine sbd (pv := [(1, (.slice (some ⟨b15, 0, none⟩) 0 0))]) rfl hk rfl rfl rfl (bd34_4 (some ⟨b15, 0, none⟩) 0 0) fun a hk => ?_
   refine salx 5 hs rfl hk rfl rfl ze34 rfl fun b18 w a hk hs => ?_
   refine ssw 5 hs rfl rfl hk rfl rfl rfl rfl sz34 (by simp [Value.oneCell']) rfl fun w a hk hs => ?_
   show wpList _ _ _ [] _ _
   refine wpList_nil ?_
   refine hK14 _ _ ?_
   apply wp_seq_k; intro K19 hK19
   apply wp_seq_k; intro K20 hK20
   obtain ⟨o23, h24, HL25⟩ := bind_some H
   clear H
   obtain ⟨R26, hR26⟩ : ∃ R : Act → World → Prop, R = fun a w => ∃ (u22 : Bool), u22 = o23 ∧ Kn [(2, (.pointer (some ⟨b2, 0, none⟩))), (4, (.slice A10 y8.length p11)), (5, (.pointer (some ⟨b18, 0, none⟩))), (26, (.bool u22))] 61 a ∧ Sat [] w0 w [] [(3, k12), (1, [(b2, .cells #[.int .i64 0, .slice none 0 0] 34 (0, 0))]), (5, [(b18, .cells #[.int .i64 0, .slice (some ⟨b15, 0, none⟩) 0 0] 34 (0, 0))]), (4, k16)] := ⟨_, rfl⟩
   refine wp_cutq R26 ?_ ?_
   ·have H := h24
    apply wp_region_lit
    refine sm _ rfl hk rfl rfl rfl fun a hk => ?_
    refine sle rfl hk rfl rfl rfl un73 fun a hk => ?_
    refine sv (.bool ((y8.length : Int) == 0)) hk rfl rfl rfl fun a hk => ?_
    refine sm _ rfl hk rfl rfl rfl fun a hk => ?_
    rcases cond_some H with ⟨c27, H⟩ | ⟨c27, H⟩
    ·have hk := hk.lit 20 c27 rfl
     refine sk hk rfl rfl rfl fun a hk => ?_
     refine sk hk rfl rfl rfl fun a hk => ?_
     refine sk hk rfl rfl rfl fun a hk => ?_
     refine sk hk rfl rfl rfl fun a hk => ?_
     refine sk hk rfl rfl rfl fun a hk => ?_
     refine sv (.bool true) hk rfl rfl rfl fun a hk => ?_
     show wpList _ _ _ [] _ _
     refine wpList_nil ?_
     obtain rfl := Option.some.inj H
     show R26 _ _
     rw [hR26]
     exact ⟨true, rfl, (hk.c 2 rfl (hk.c 4 rfl (hk.c 5 rfl (hk.c 26 rfl hk.k)))), (hs.pick [(3, 3), (1, 1), (5, 5), (4, 4)] rfl)⟩
    ·have hk := hk.lit 20 c27 rfl
     refine sm _ rfl hk rfl rfl rfl fun a hk => ?_
     rcases ite_some H with ⟨c28, H⟩ | ⟨_, H⟩
     rotate_left
     ·cases H
     obtain ⟨b29, q30, hAc28⟩ := (o13.view).some_ (0 : Int) c28.1 c28.2
     refine si rfl hk rfl rfl rfl rfl un73 sz9 c28.1 c28.2 hAc28 fun a hk => ?_
     obtain ⟨_, rfl, e31⟩ := (o13.view).at_ ByteArray.empty (0 : Int) c28.1 c28.2
     refine sl (v := (.string (y8.getD (0 : Int).toNat ByteArray.empty))) rfl hk rfl rfl rfl ag9 ((e31 0 _ rfl).cell (hs.hasG (k := 3) rfl)) fun a hk => ?_
     obtain ⟨y32, h33, H⟩ := bind_some H
     refine sc rfl en50 hk rfl rfl rfl (spec_CodeOf_t _ (y8.getD (0 : Int).toNat ByteArray.empty) _ h33) ?_
     rintro _ w ⟨rfl, hG⟩ a hk
     have hs := hs.call0 hG
     refine sv (.bool (decide (y32 < 0))) hk rfl rfl rfl fun a hk => ?_
     refine sv (.bool (decide (y32 < 0))) hk rfl rfl rfl fun a hk => ?_
     show wpList _ _ _ [] _ _
     refine wpList_nil ?_
     obtain rfl := Option.some.inj H
     show R26 _ _
     rw [hR26]
     exact ⟨(decide (y32 < 0)), rfl, (hk.c 2 rfl (hk.c 4 rfl (hk.c 5 rfl (hk.c 26 rfl hk.k)))), (hs.pick [(3, 3), (1, 1), (5, 5), (4, 4)] rfl)⟩
   ·intro a w hR0
    rw [hR26] at hR0
    obtain ⟨u22, rfl, hk, hs⟩ := hR0
    have H := HL25
    try dsimp only at H
    refine hK20 _ _ ?_
    rcases cond_some H with ⟨c34, H⟩ | ⟨c34, H⟩
    ·have hk := hk.lit 26 c34 rfl
     refine cnd_true hk rfl rfl ?_
     apply wp_seq_k; intro K35 hK35
     apply wp_region_lit
     refine sbd (pv := []) rfl hk rfl rfl rfl bd34_3 fun a hk => ?_
     refine ssw 1 hs rfl rfl hk rfl rfl rfl rfl sz34 (by simp [Value.oneCell']) rfl fun w a hk hs => ?_
     refine sa _ rfl hk rfl rfl rfl fun a hk => ?_
     show wpList _ _ _ [] _ _
     refine wpList_nil ?_
     refine hK35 _ _ ?_
     refine wp_ret ?_
     obtain rfl := Option.some.inj H
     have hs := hs.addNil 7
     exact fin hk _ [(.agg #[.int .i64 0, .slice none 0 0]), (.int .i64 3)] rfl ⟨⟨_, rfl, run_loadN ag34 sz34 (box_cells hs (k := 1) rfl)⟩, ⟨rfl, trivial⟩⟩ ⟨none, 0, [], rfl, Own.nil _ _, (hs.pick [(0, 7)] rfl).dnil⟩
    ·have hk := hk.lit 26 c34 rfl
     refine cnd_false hk rfl rfl ?_
     refine wp_skip ?_
     refine hK19 _ _ ?_
     apply wp_seq_k; intro K36 hK36
     apply wp_region_lit
     refine sm _ rfl hk rfl rfl rfl fun a hk => ?_
     rcases ite_some H with ⟨c37, H⟩ | ⟨_, H⟩
     rotate_left
     ·cases H
     obtain ⟨b38, q39, hAc37⟩ := (o13.view).some_ (0 : Int) c37.1 c37.2
     refine si rfl hk rfl rfl rfl rfl un73 sz9 c37.1 c37.2 hAc37 fun a hk => ?_
     obtain ⟨_, rfl, e40⟩ := (o13.view).at_ ByteArray.empty (0 : Int) c37.1 c37.2
     refine sl (v := (.string (y8.getD (0 : Int).toNat ByteArray.empty))) rfl hk rfl rfl rfl ag9 ((e40 0 _ rfl).cell (hs.hasG (k := 3) rfl)) fun a hk => ?_
     obtain ⟨y41, h42, H⟩ := bind_some H
     refine sc rfl en50 hk rfl rfl rfl (spec_CodeOf_t _ (y8.getD (0 : Int).toNat ByteArray.empty) _ h42) ?_
     rintro _ w ⟨rfl, hG⟩ a hk
     have hs := hs.call0 hG
     refine sf ⟨b18, 0, none⟩ rfl hk rfl rfl rfl fd34_0 rfl fun a hk => ?_
     refine ssx (cs' := #[.int .i64 y41, .slice (some ⟨b15, 0, none⟩) 0 0]) 5 hs rfl rfl hk rfl rfl rfl rfl sz3 rfl rfl rfl rfl fun w a hk hs => ?_
     show wpList _ _ _ [] _ _
     refine wpList_nil ?_
     refine hK36 _ _ ?_
     have hs := hs.pick [(3, 3), (1, 1), (5, 5), (4, 4)] rfl
     apply wp_seq_k; intro K43 hK43
     apply wp_seq_k; intro K44 hK44
     apply wp_region_lit
     refine sa _ rfl hk rfl rfl rfl fun a hk => ?_
     show wpList _ _ _ [] _ _
     refine wpList_nil ?_
     refine hK44 _ _ ?_
     obtain ⟨o62, h63, HL64⟩ := bind_some H
     clear H
     obtain ⟨R65, hR65⟩ : ∃ R : Act → World → Prop, R = fun a w => ∃ (u57 : List Int) (A60 : Option Addr) (p61 : Nat) (k58 : Chunk), o62 = .out u57 ∧ Kn [(2, (.pointer (some ⟨b2, 0, none⟩))), (5, (.pointer (some ⟨b18, 0, none⟩)))] 61 a ∧ Sat [] w0 w [] [(1, [(b2, .cells #[.int .i64 0, .slice none 0 0] 34 (0, 0))]), (5, [(b18, .cells #[.int .i64 y41, .slice A60 u57.length p61] 34 (0, 0))]), (4, k58)] ∧ Own (Lay.int .i64) 3 A60 p61 u57 k58 := ⟨_, rfl⟩
     refine wp_cutq R65 ?_ ?_
     ·refine wp_block ?_
      obtain ⟨fu67, h63⟩ := loopO_some h63
      obtain ⟨I66, hI66⟩ : ∃ I : Nat → Act → World → Prop, I = fun fu a w => ∃ (u47 : Int) (u52 : List Int) (A55 : Option Addr) (p56 : Nat) (k53 : Chunk), loopN (fun s => spec_ReadResult.s0 y8 s.1 s.2) fu (u47, u52) = some o62 ∧ Kn [(2, (.pointer (some ⟨b2, 0, none⟩))), (4, (.slice A10 y8.length p11)), (5, (.pointer (some ⟨b18, 0, none⟩))), (6, (.int .i64 u47))] 61 a ∧ Sat [] w0 w [] [(3, k12), (1, [(b2, .cells #[.int .i64 0, .slice none 0 0] 34 (0, 0))]), (5, [(b18, .cells #[.int .i64 y41, .slice A55 u52.length p56] 34 (0, 0))]), (4, k53)] ∧ Own (Lay.int .i64) 3 A55 p56 u52 k53 := ⟨_, rfl⟩
      refine wp_loop_ghost I66 fu67 ?_ ?_
      ·rw [hI66]
       exact ⟨1, ([] : List Int), (some ⟨b15, 0, none⟩), 0, _, h63, (hk.c 2 rfl (hk.c 4 rfl (hk.c 5 rfl (hk.c 6 rfl hk.k)))), (hs.pick [(3, 3), (1, 1), (5, 5), (4, 4)] rfl), o17⟩
      ·clear h63 hk hs
       intro fu67 a w hI0
       rw [hI66] at hI0
       obtain ⟨u47, u52, A55, p56, k53, hi, hk, hs, o54⟩ := hI0
       obtain ⟨x68, H, h69⟩ := loop_round hi
       try dsimp only at H
       unfold spec_ReadResult.s0 at H
       apply wp_seq_k; intro K70 hK70
       apply wp_seq_k; intro K71 hK71
       apply wp_region_lit
       refine sm _ rfl hk rfl rfl rfl fun a hk => ?_
       refine sm _ rfl hk rfl rfl rfl fun a hk => ?_
       refine sle rfl hk rfl rfl rfl un73 fun a hk => ?_
       refine sv (.bool (decide (u47 < (y8.length : Int)))) hk rfl rfl rfl fun a hk => ?_
       show wpList _ _ _ [] _ _
       refine wpList_nil ?_
       refine hK71 _ _ ?_
       rcases cond_some H with ⟨c72, H⟩ | ⟨c72, H⟩
       ·have hk := hk.lit 36 c72 rfl
        refine cnd_true hk rfl rfl ?_
        refine wp_skip ?_
        refine hK70 _ _ ?_
        apply wp_seq_k; intro K73 hK73
        refine wp_block ?_
        apply wp_seq_k; intro K74 hK74
        apply wp_region_lit
        refine sm _ rfl hk rfl rfl rfl fun a hk => ?_
        refine sm _ rfl hk rfl rfl rfl fun a hk => ?_
        rcases ite_some H with ⟨c75, H⟩ | ⟨_, H⟩
        rotate_left
        ·cases H
        obtain ⟨b76, q77, hAc75⟩ := (o13.view).some_ u47 c75.1 c75.2
        refine si rfl hk rfl rfl rfl rfl un73 sz9 c75.1 c75.2 hAc75 fun a hk => ?_
        obtain ⟨_, rfl, e78⟩ := (o13.view).at_ ByteArray.empty u47 c75.1 c75.2
        refine sl (v := (.string (y8.getD u47.toNat ByteArray.empty))) rfl hk rfl rfl rfl ag9 ((e78 0 _ rfl).cell (hs.hasG (k := 3) rfl)) fun a hk => ?_
        obtain ⟨y79, h80, H⟩ := bind_some H
        refine sc rfl en51 hk rfl rfl rfl (spec_l09Number_t _ (y8.getD u47.toNat ByteArray.empty) _ h80) ?_
        rintro _ w ⟨rfl, hG⟩ a hk
        have hs := hs.call0 hG
        refine sm _ rfl hk rfl rfl rfl fun a hk => ?_
        refine sv (.int .i64 y79.1) hk rfl rfl rfl fun a hk => ?_
        refine sv (.bool y79.2) hk rfl rfl rfl fun a hk => ?_
        refine sa _ rfl hk rfl rfl rfl fun a hk => ?_
        refine sa _ rfl hk rfl rfl rfl fun a hk => ?_
        show wpList _ _ _ [] _ _
        refine wpList_nil ?_
        refine hK74 _ _ ?_
        have hs := hs.pick [(3, 3), (1, 1), (5, 5), (4, 4)] rfl
        apply wp_seq_k; intro K81 hK81
        apply wp_seq_k; intro K82 hK82
        apply wp_region_lit
        refine sm _ rfl hk rfl rfl rfl fun a hk => ?_
        refine sv (.bool (!y79.2)) hk rfl rfl rfl fun a hk => ?_
        show wpList _ _ _ [] _ _
        refine wpList_nil ?_
        refine hK82 _ _ ?_
        rcases cond_some H with ⟨c83, H⟩ | ⟨c83, H⟩
        ·have hk := hk.lit 48 c83 rfl
         refine cnd_true hk rfl rfl ?_
         apply wp_seq_k; intro K84 hK84
         apply wp_region_lit
         refine sbd (pv := []) rfl hk rfl rfl rfl bd34_3 fun a hk => ?_
         refine ssw 1 hs rfl rfl hk rfl rfl rfl rfl sz34 (by simp [Value.oneCell']) rfl fun w a hk hs => ?_
         refine sa _ rfl hk rfl rfl rfl fun a hk => ?_
         show wpList _ _ _ [] _ _
         refine wpList_nil ?_
         refine hK84 _ _ ?_
         refine wp_ret ?_
         obtain rfl := Option.some.inj H
         have ho62 := h69
         try dsimp only at ho62
         subst ho62
         have H := HL64
         try dsimp only at H
         obtain rfl := Option.some.inj H
         have hs := hs.addNil 9
         exact fin hk _ [(.agg #[.int .i64 0, .slice none 0 0]), (.int .i64 3)] rfl ⟨⟨_, rfl, run_loadN ag34 sz34 (box_cells hs (k := 1) rfl)⟩, ⟨rfl, trivial⟩⟩ ⟨none, 0, [], rfl, Own.nil _ _, (hs.pick [(0, 9)] rfl).dnil⟩
        ·have hk := hk.lit 48 c83 rfl
         refine cnd_false hk rfl rfl ?_
         refine wp_skip ?_
         refine hK81 _ _ ?_
         apply wp_region_lit
         refine sf ⟨b18, 1, none⟩ rfl hk rfl rfl rfl fd34_1 rfl fun a hk => ?_
         refine sl rfl hk rfl rfl rfl ag29 (box_cell hs (k := 5) rfl rfl) fun a hk => ?_
         refine sm _ rfl hk rfl rfl rfl fun a hk => ?_
         refine sbs (L := (Lay.int .i64)) (pv := [(0, (.int .i64 y79.1))]) (xs := [y79.1]) (ess := [[.int .i64 y79.1]]) 10 hs rfl hk rfl rfl rfl un29 (bs3_5 y79.1) (AllOwn.cons0 ⟨rfl, rfl⟩ AllOwn.nil) rfl rfl rfl fun b85 k86 w a hk o87 hs => ?_
         rcases ite_some H with ⟨c88, H⟩ | ⟨_, H⟩
         rotate_left
         ·cases H
         refine sap 4 (xs := u52) (ys := [y79.1]) (flat_flat : ((Lay.int .i64)).Flat) hs rfl o54 o87.view (hs.hasG (k := 10) rfl) rfl hk rfl rfl rfl rfl rfl rfl un29 mk3 rfl rfl rfl c88 fun A89 p90 k91 w a hk o92 hs => ?_
         refine sf ⟨b18, 1, none⟩ rfl hk rfl rfl rfl fd34_1 rfl fun a hk => ?_
         refine ssx (cs' := #[.int .i64 y41, .slice A89 (u52 ++ ([y79.1])).length p90]) 5 hs rfl rfl hk rfl rfl rfl rfl sz29 rfl rfl rfl rfl fun w a hk hs => ?_
         show wpList _ _ _ [] _ _
         refine wpList_nil ?_
         refine hK73 _ _ ?_
         apply wp_region_lit
         refine sm _ rfl hk rfl rfl rfl fun a hk => ?_
         refine sv (.int .i64 (w64 (u47 + 1))) hk rfl rfl rfl fun a hk => ?_
         refine sa _ rfl hk rfl rfl rfl fun a hk => ?_
         show wpList _ _ _ [] _ _
         refine wpList_nil ?_
         obtain rfl := Option.some.inj H
         obtain ⟨m93, hmm93, h69⟩ := h69
         show ∃ n', n' < _ ∧ I66 n' _ _
         refine ⟨m93, hmm93, ?_⟩
         rw [hI66]
         exact ⟨(w64 (u47 + 1)), (u52 ++ ([y79.1])), A89, p90, _, h69, (hk.c 2 rfl (hk.c 4 rfl (hk.c 5 rfl (hk.c 6 rfl hk.k)))), (hs.pick [(3, 3), (1, 1), (5, 5), (4, 4)] rfl), o92⟩
       ·have hk := hk.lit 36 c72 rfl
        refine cnd_false hk rfl rfl ?_
        refine wp_exit ?_
        obtain rfl := Option.some.inj H
        show R65 _ _
        rw [hR65]
        exact ⟨u52, A55, p56, _, h69.symm, (hk.c 2 rfl (hk.c 5 rfl hk.k)), (hs.pick [(1, 1), (5, 5), (4, 4)] rfl), o54⟩
     ·intro a w hR0
      rw [hR65] at hR0
      obtain ⟨u57, A60, p61, k58, rfl, hk, hs, o59⟩ := hR0
      have H := HL64
      try dsimp only at H
      refine hK43 _ _ ?_
      apply wp_seq_k; intro K94 hK94
      apply wp_seq_k; intro K95 hK95
      apply wp_region_lit
      refine sln [.int .i64 y41, .slice A60 u57.length p61] rfl hk rfl rfl rfl ag34 sz34 (box_cells hs (k := 5) rfl) fun a hk => ?_
      obtain ⟨y96, h97, H⟩ := bind_some H
      refine sc rfl en33 hk rfl rfl rfl (spec_l10ResultOK_t _ (⟨y41, u57⟩ : S_Result) A60 p61 _ o59.view (hs.hasG (k := 4) rfl) _ h97) ?_
      rintro _ w ⟨rfl, hG⟩ a hk
      have hs := hs.call0 hG
      refine sv (.bool (!y96)) hk rfl rfl rfl fun a hk => ?_
      show wpList _ _ _ [] _ _
      refine wpList_nil ?_
      refine hK95 _ _ ?_
      rcases cond_some H with ⟨c98, H⟩ | ⟨c98, H⟩
      ·have hk := hk.lit 58 c98 rfl
       refine cnd_true hk rfl rfl ?_
       apply wp_seq_k; intro K99 hK99
       apply wp_region_lit
       refine sbd (pv := []) rfl hk rfl rfl rfl bd34_3 fun a hk => ?_
       refine ssw 1 hs rfl rfl hk rfl rfl rfl rfl sz34 (by simp [Value.oneCell']) rfl fun w a hk hs => ?_
       refine sa _ rfl hk rfl rfl rfl fun a hk => ?_
       show wpList _ _ _ [] _ _
       refine wpList_nil ?_
       refine hK99 _ _ ?_
       have hs := hs.pick [(1, 1)] rfl
       refine wp_ret ?_
       obtain rfl := Option.some.inj H
       have hs := hs.addNil 11
       exact fin hk _ [(.agg #[.int .i64 0, .slice none 0 0]), (.int .i64 3)] rfl ⟨⟨_, rfl, run_loadN ag34 sz34 (box_cells hs (k := 1) rfl)⟩, ⟨rfl, trivial⟩⟩ ⟨none, 0, [], rfl, Own.nil _ _, (hs.pick [(0, 11)] rfl).dnil⟩
      ·have hk := hk.lit 58 c98 rfl
       refine cnd_false hk rfl rfl ?_
       refine wp_skip ?_
       refine hK94 _ _ ?_
       have hs := hs.pick [(1, 1), (5, 5), (4, 4)] rfl
       apply wp_seq_k; intro K100 hK100
       apply wp_region_lit
       refine sln [.int .i64 y41, .slice A60 u57.length p61] rfl hk rfl rfl rfl ag34 sz34 (box_cells hs (k := 5) rfl) fun a hk => ?_
       refine ssw 1 hs rfl rfl hk rfl rfl rfl rfl sz34 (by simp [Value.oneCell']) rfl fun w a hk hs => ?_
       refine sa _ rfl hk rfl rfl rfl fun a hk => ?_
       show wpList _ _ _ [] _ _
       refine wpList_nil ?_
       refine hK100 _ _ ?_
       refine wp_ret ?_
       obtain rfl := Option.some.inj H
       exact fin hk _ [(.agg #[.int .i64 y41, .slice A60 u57.length p61]), (.int .i64 0)] rfl ⟨⟨_, rfl, run_loadN ag34 sz34 (box_cells hs (k := 1) rfl)⟩, ⟨rfl, trivial⟩⟩ ⟨A60, p61, _, rfl, o59, (hs.pick [(0, 4)] rfl).dnil⟩

noncomputable def impl_within.f (x0 : Int) (x1 : Int) (x2 : Int) : Option (Bool) :=
  (((bif (decide (x1 ≤ x0)) then (some (decide (x0 ≤ x2))) else (some false)) : Option (Bool)).bind fun u4 => (some u4))
set_option maxRecDepth 100000 in
set_option maxHeartbeats 0 in
theorem impl_within_t (w0 : World) (x0 : Int) (x1 : Int) (x2 : Int) (r : Bool) (H : impl_within.f x0 x1 x2 = some r) :
    Calls Tryd.prog 60 #[.int .i64 x0, .int .i64 x1, .int .i64 x2] w0 (Ret (fun v w => v = .bool r ∧ Sat [] w0 w [] [])) := by
  have hs : Sat [] w0 w0 [] [] := Sat.init w0 [] [] (by simp) (by simp) List.nodup_nil (by simp [blks])
  unfold impl_within.f at H
  refine enter Tryd.func60 rfl Tryd.ntmps60 rfl fun a hk => ?_
  apply wp_seq_k; intro K1 hK1
  apply wp_region_lit
  refine sa _ rfl hk rfl rfl rfl fun a hk => ?_
  show wpList _ _ _ [] _ _
  refine wpList_nil ?_
  refine hK1 _ _ ?_
  apply wp_seq_k; intro K2 hK2
  obtain ⟨o5, h6, HL7⟩ := bind_some H
  clear H
  obtain ⟨R8, hR8⟩ : ∃ R : Act → World → Prop, R = fun a w => ∃ (u4 : Bool), u4 = o5 ∧ Kn [(6, (.bool u4))] 15 a ∧ Sat [] w0 w [] [] := ⟨_, rfl⟩
  refine wp_cutq R8 ?_ ?_
  ·have H := h6
   apply wp_region_lit
   refine sm _ rfl hk rfl rfl rfl fun a hk => ?_
   refine sm _ rfl hk rfl rfl rfl fun a hk => ?_
   refine sv (.bool (decide (x1 ≤ x0))) hk rfl rfl rfl fun a hk => ?_
   refine sm _ rfl hk rfl rfl rfl fun a hk => ?_
   rcases cond_some H with ⟨c9, H⟩ | ⟨c9, H⟩
   ·have hk := hk.lit 10 c9 rfl
    refine sm _ rfl hk rfl rfl rfl fun a hk => ?_
    refine sm _ rfl hk rfl rfl rfl fun a hk => ?_
    refine sv (.bool (decide (x0 ≤ x2))) hk rfl rfl rfl fun a hk => ?_
    refine sv (.bool (decide (x0 ≤ x2))) hk rfl rfl rfl fun a hk => ?_
    refine sa _ rfl hk rfl rfl rfl fun a hk => ?_
    show wpList _ _ _ [] _ _
    refine wpList_nil ?_
    obtain rfl := Option.some.inj H
    show R8 _ _
    rw [hR8]
    exact ⟨(decide (x0 ≤ x2)), rfl, (hk.c 6 rfl hk.k), (hs.pick [] rfl)⟩
   ·have hk := hk.lit 10 c9 rfl
    refine sk hk rfl rfl rfl fun a hk => ?_
    refine sk hk rfl rfl rfl fun a hk => ?_
    refine sk hk rfl rfl rfl fun a hk => ?_
    refine sv (.bool false) hk rfl rfl rfl fun a hk => ?_
    refine sa _ rfl hk rfl rfl rfl fun a hk => ?_
    show wpList _ _ _ [] _ _
    refine wpList_nil ?_
    obtain rfl := Option.some.inj H
    show R8 _ _
    rw [hR8]
    exact ⟨false, rfl, (hk.c 6 rfl hk.k), (hs.pick [] rfl)⟩
  ·intro a w hR0
   rw [hR8] at hR0
   obtain ⟨u4, rfl, hk, hs⟩ := hR0
   have H := HL7
   try dsimp only at H
   refine hK2 _ _ ?_
   refine wp_ret ?_
   obtain rfl := Option.some.inj H
   exact fin hk _ [(.bool u4)] rfl ⟨rfl, trivial⟩ ⟨rfl, (hs.pick [] rfl).dnil⟩

noncomputable def impl_isValue.f (x0 : Int) : Option (Bool) :=
  ((impl_within.f x0 0 999999).bind fun y3 => (some y3))
set_option maxRecDepth 100000 in
set_option maxHeartbeats 0 in
theorem impl_isValue_t (w0 : World) (x0 : Int) (r : Bool) (H : impl_isValue.f x0 = some r) :
    Calls Tryd.prog 63 #[.int .i64 x0] w0 (Ret (fun v w => v = .bool r ∧ Sat [] w0 w [] [])) := by
  have hs : Sat [] w0 w0 [] [] := Sat.init w0 [] [] (by simp) (by simp) List.nodup_nil (by simp [blks])
  unfold impl_isValue.f at H
  refine enter Tryd.func63 rfl Tryd.ntmps63 rfl fun a hk => ?_
  apply wp_seq_k; intro K1 hK1
  apply wp_region_lit
  refine sa _ rfl hk rfl rfl rfl fun a hk => ?_
  show wpList _ _ _ [] _ _
  refine wpList_nil ?_
  refine hK1 _ _ ?_
  apply wp_seq_k; intro K2 hK2
  apply wp_region_lit
  refine sm _ rfl hk rfl rfl rfl fun a hk => ?_
  obtain ⟨y3, h4, H⟩ := bind_some H
  refine sc rfl en60 hk rfl rfl rfl (impl_within_t _ x0 0 999999 _ h4) ?_
  rintro _ w ⟨rfl, hG⟩ a hk
  have hs := hs.call0 hG
  refine sa _ rfl hk rfl rfl rfl fun a hk => ?_
  show wpList _ _ _ [] _ _
  refine wpList_nil ?_
  refine hK2 _ _ ?_
  refine wp_ret ?_
  obtain rfl := Option.some.inj H
  exact fin hk _ [(.bool y3)] rfl ⟨rfl, trivial⟩ ⟨rfl, (hs.pick [] rfl).dnil⟩

noncomputable def impl_isCode.f (x0 : Int) : Option (Bool) :=
  ((impl_within.f x0 0 19).bind fun y3 => (some y3))
set_option maxRecDepth 100000 in
set_option maxHeartbeats 0 in
theorem impl_isCode_t (w0 : World) (x0 : Int) (r : Bool) (H : impl_isCode.f x0 = some r) :
    Calls Tryd.prog 67 #[.int .i64 x0] w0 (Ret (fun v w => v = .bool r ∧ Sat [] w0 w [] [])) := by
  have hs : Sat [] w0 w0 [] [] := Sat.init w0 [] [] (by simp) (by simp) List.nodup_nil (by simp [blks])
  unfold impl_isCode.f at H
  refine enter Tryd.func67 rfl Tryd.ntmps67 rfl fun a hk => ?_
  apply wp_seq_k; intro K1 hK1
  apply wp_region_lit
  refine sa _ rfl hk rfl rfl rfl fun a hk => ?_
  show wpList _ _ _ [] _ _
  refine wpList_nil ?_
  refine hK1 _ _ ?_
  apply wp_seq_k; intro K2 hK2
  apply wp_region_lit
  refine sm _ rfl hk rfl rfl rfl fun a hk => ?_
  obtain ⟨y3, h4, H⟩ := bind_some H
  refine sc rfl en60 hk rfl rfl rfl (impl_within_t _ x0 0 19 _ h4) ?_
  rintro _ w ⟨rfl, hG⟩ a hk
  have hs := hs.call0 hG
  refine sa _ rfl hk rfl rfl rfl fun a hk => ?_
  show wpList _ _ _ [] _ _
  refine wpList_nil ?_
  refine hK2 _ _ ?_
  refine wp_ret ?_
  obtain rfl := Option.some.inj H
  exact fin hk _ [(.bool y3)] rfl ⟨rfl, trivial⟩ ⟨rfl, (hs.pick [] rfl).dnil⟩

noncomputable def slices_IndexFunc_int_int.s0 (l0 : List Int) (q1 : Int → Option (Bool)) (u6 : Int) : Option ((Int) ⊕ Ex (Unit) (Int)) :=
  (bif (decide (u6 < (l0.length : Int))) then (if 0 ≤ u6 ∧ u6 < (l0.length : Int) then ((q1 (l0.getD u6.toNat 0)).bind fun y25 => (bif y25 then (some (.inr (.ret u6))) else (some (.inl (w64 (u6 + 1)))))) else none) else (some (.inr (.out ()))))
noncomputable def slices_IndexFunc_int_int.f (l0 : List Int) (q1 : Int → Option (Bool)) : Option (Int) :=
  ((loopO (fun s => slices_IndexFunc_int_int.s0 l0 q1 s) 0).bind fun o => match o with | .out _ => (some (-1)) | .ret r => (some r))
set_option maxRecDepth 100000 in
set_option maxHeartbeats 0 in
theorem slices_IndexFunc_int_int_t (w0 : World) (A0_ : Option Addr) (p0_ : Nat) (l0 : List Int) (k0_ : Chunk) (v0_ : View (Lay.int .i64) A0_ p0_ l0 k0_) (w0_ : Has w0 k0_) (f1_ : FuncId) (c1_ : List Value) (e1_ : Enters Tryd.prog f1_) (q1 : Int → Option (Bool)) (k1_ : Chunk) (t1_ : ∀ w, Has w k1_ → ∀ (z0 : Int) (r : Bool), q1 z0 = some r → Calls Tryd.prog f1_ (([.int .i64 z0] : List Value) ++ c1_).toArray w (Ret (fun v w2 => v = .bool r ∧ Sat [] w w2 [] []))) (w1_ : Has w0 k1_) (r : Int) (H : slices_IndexFunc_int_int.f l0 q1 = some r) :
    Calls Tryd.prog 104 #[.slice A0_ l0.length p0_, .func (.func f1_) #[] c1_.toArray] w0 (Ret (fun v w => v = .int .i64 r ∧ Sat [] w0 w [] [])) := by
  have hs : Sat [] w0 w0 [(1, k0_), (2, k1_)] [] := Sat.init w0 [(1, k0_), (2, k1_)] [] (by simp only [List.mem_cons, List.not_mem_nil, or_false]; rintro x (rfl | rfl) <;> assumption) (by simp) List.nodup_nil (by simp [blks])
  unfold slices_IndexFunc_int_int.f at H
  refine enter Tryd.func104 rfl Tryd.ntmps104 rfl fun a hk => ?_
  apply wp_seq_k; intro K1 hK1
  apply wp_region_lit
  refine sa _ rfl hk rfl rfl rfl fun a hk => ?_
  show wpList _ _ _ [] _ _
  refine wpList_nil ?_
  refine hK1 _ _ ?_
  apply wp_seq_k; intro K2 hK2
  apply wp_seq_k; intro K3 hK3
  apply wp_region_lit
  refine sm _ rfl hk rfl rfl rfl fun a hk => ?_
  refine sle rfl hk rfl rfl rfl un29 fun a hk => ?_
  refine sm _ rfl hk rfl rfl rfl fun a hk => ?_
  show wpList _ _ _ [] _ _
  refine wpList_nil ?_
  refine hK3 _ _ ?_
  obtain ⟨o7, h8, HL9⟩ := bind_some H
  clear H
  obtain ⟨R10, hR10⟩ : ∃ R : Act → World → Prop, R = fun a w => o7 = .out () ∧ Kn [] 19 a ∧ Sat [] w0 w [(1, k0_), (2, k1_)] [] := ⟨_, rfl⟩
  refine wp_cutq R10 ?_ ?_
  ·refine wp_block ?_
   obtain ⟨fu12, h8⟩ := loopO_some h8
   obtain ⟨I11, hI11⟩ : ∃ I : Nat → Act → World → Prop, I = fun fu a w => ∃ (u6 : Int), loopN (fun s => slices_IndexFunc_int_int.s0 l0 q1 s) fu u6 = some o7 ∧ Kn [(0, (.slice A0_ l0.length p0_)), (1, (.func (.func f1_) #[] c1_.toArray)), (7, (.int .i64 (l0.length : Int))), (8, (.int .i64 u6))] 19 a ∧ Sat [] w0 w [(1, k0_), (2, k1_)] [] := ⟨_, rfl⟩
   refine wp_loop_ghost I11 fu12 ?_ ?_
   ·rw [hI11]
    exact ⟨0, h8, (hk.c 0 rfl (hk.c 1 rfl (hk.c 7 rfl (hk.c 8 rfl hk.k)))), (hs.pick [] rfl)⟩
   ·clear h8 hk hs
    intro fu12 a w hI0
    rw [hI11] at hI0
    obtain ⟨u6, hi, hk, hs⟩ := hI0
    obtain ⟨x13, H, h14⟩ := loop_round hi
    try dsimp only at H
    unfold slices_IndexFunc_int_int.s0 at H
    apply wp_seq_k; intro K15 hK15
    apply wp_region_lit
    refine sv (.bool (decide (u6 < (l0.length : Int)))) hk rfl rfl rfl fun a hk => ?_
    show wpList _ _ _ [] _ _
    refine wpList_nil ?_
    refine hK15 _ _ ?_
    apply wp_seq_k; intro K16 hK16
    rcases cond_some H with ⟨c17, H⟩ | ⟨c17, H⟩
    ·have hk := hk.lit 9 c17 rfl
     refine cnd_true hk rfl rfl ?_
     refine wp_skip ?_
     refine hK16 _ _ ?_
     have hs := hs.pick [] rfl
     apply wp_seq_k; intro K18 hK18
     refine wp_block ?_
     apply wp_seq_k; intro K19 hK19
     apply wp_region_lit
     refine sm _ rfl hk rfl rfl rfl fun a hk => ?_
     refine sa _ rfl hk rfl rfl rfl fun a hk => ?_
     show wpList _ _ _ [] _ _
     refine wpList_nil ?_
     refine hK19 _ _ ?_
     apply wp_seq_k; intro K20 hK20
     apply wp_region_lit
     refine sm _ rfl hk rfl rfl rfl fun a hk => ?_
     refine sm _ rfl hk rfl rfl rfl fun a hk => ?_
     refine sm _ rfl hk rfl rfl rfl fun a hk => ?_
     rcases ite_some H with ⟨c21, H⟩ | ⟨_, H⟩
     rotate_left
     ·cases H
     obtain ⟨b22, q23, hAc21⟩ := (v0_).some_ u6 c21.1 c21.2
     refine si rfl hk rfl rfl rfl rfl un29 sz3 c21.1 c21.2 hAc21 fun a hk => ?_
     obtain ⟨_, rfl, e24⟩ := (v0_).at_ 0 u6 c21.1 c21.2
     refine sl (v := (.int .i64 (l0.getD u6.toNat 0))) rfl hk rfl rfl rfl ag3 ((e24 0 _ rfl).cell (hs.hasD (k := 1) rfl)) fun a hk => ?_
     obtain ⟨y25, h26, H⟩ := bind_some H
     refine scv (vs := ([(.int .i64 (l0.getD u6.toNat 0))] : List Value) ++ c1_) rfl rfl e1_ hk rfl rfl rfl (t1_ _ (hs.hasD (k := 2) rfl) (l0.getD u6.toNat 0) _ h26) ?_
     rintro _ w ⟨rfl, hG⟩ a hk
     have hs := hs.call0 hG
     show wpList _ _ _ [] _ _
     refine wpList_nil ?_
     refine hK20 _ _ ?_
     rcases cond_some H with ⟨c27, H⟩ | ⟨c27, H⟩
     ·have hk := hk.lit 16 c27 rfl
      refine cnd_true hk rfl rfl ?_
      apply wp_seq_k; intro K28 hK28
      apply wp_region_lit
      refine sm _ rfl hk rfl rfl rfl fun a hk => ?_
      refine sa _ rfl hk rfl rfl rfl fun a hk => ?_
      show wpList _ _ _ [] _ _
      refine wpList_nil ?_
      refine hK28 _ _ ?_
      refine wp_ret ?_
      obtain rfl := Option.some.inj H
      have ho7 := h14
      try dsimp only at ho7
      subst ho7
      have H := HL9
      try dsimp only at H
      obtain rfl := Option.some.inj H
      exact fin hk _ [(.int .i64 u6)] rfl ⟨rfl, trivial⟩ ⟨rfl, (hs.pick [] rfl).dnil⟩
     ·have hk := hk.lit 16 c27 rfl
      refine cnd_false hk rfl rfl ?_
      refine wp_skip ?_
      refine hK18 _ _ ?_
      apply wp_region_lit
      refine sv (.int .i64 (w64 (u6 + 1))) hk rfl rfl rfl fun a hk => ?_
      refine sm _ rfl hk rfl rfl rfl fun a hk => ?_
      show wpList _ _ _ [] _ _
      refine wpList_nil ?_
      obtain rfl := Option.some.inj H
      obtain ⟨m29, hmm29, h14⟩ := h14
      show ∃ n', n' < _ ∧ I11 n' _ _
      refine ⟨m29, hmm29, ?_⟩
      rw [hI11]
      exact ⟨(w64 (u6 + 1)), h14, (hk.c 0 rfl (hk.c 1 rfl (hk.c 7 rfl (hk.c 8 rfl hk.k)))), (hs.pick [] rfl)⟩
    ·have hk := hk.lit 9 c17 rfl
     refine cnd_false hk rfl rfl ?_
     refine wp_exit ?_
     obtain rfl := Option.some.inj H
     show R10 _ _
     rw [hR10]
     exact ⟨h14.symm, hk.k, (hs.pick [] rfl)⟩
  ·intro a w hR0
   rw [hR10] at hR0
   obtain ⟨rfl, hk, hs⟩ := hR0
   have H := HL9
   try dsimp only at H
   refine hK2 _ _ ?_
   apply wp_seq_k; intro K30 hK30
   apply wp_region_lit
   refine sa _ rfl hk rfl rfl rfl fun a hk => ?_
   show wpList _ _ _ [] _ _
   refine wpList_nil ?_
   refine hK30 _ _ ?_
   have hs := hs.pick [] rfl
   refine wp_ret ?_
   obtain rfl := Option.some.inj H
   exact fin hk _ [(.int .i64 (-1))] rfl ⟨rfl, trivial⟩ ⟨rfl, (hs.pick [] rfl).dnil⟩

noncomputable def slices_ContainsFunc_int_int.f (l0 : List Int) (q1 : Int → Option (Bool)) : Option (Bool) :=
  ((slices_IndexFunc_int_int.f l0 q1).bind fun y3 => (some (decide (y3 ≥ 0))))
set_option maxRecDepth 100000 in
set_option maxHeartbeats 0 in
theorem slices_ContainsFunc_int_int_t (w0 : World) (A0_ : Option Addr) (p0_ : Nat) (l0 : List Int) (k0_ : Chunk) (v0_ : View (Lay.int .i64) A0_ p0_ l0 k0_) (w0_ : Has w0 k0_) (f1_ : FuncId) (c1_ : List Value) (e1_ : Enters Tryd.prog f1_) (q1 : Int → Option (Bool)) (k1_ : Chunk) (t1_ : ∀ w, Has w k1_ → ∀ (z0 : Int) (r : Bool), q1 z0 = some r → Calls Tryd.prog f1_ (([.int .i64 z0] : List Value) ++ c1_).toArray w (Ret (fun v w2 => v = .bool r ∧ Sat [] w w2 [] []))) (w1_ : Has w0 k1_) (r : Bool) (H : slices_ContainsFunc_int_int.f l0 q1 = some r) :
    Calls Tryd.prog 89 #[.slice A0_ l0.length p0_, .func (.func f1_) #[] c1_.toArray] w0 (Ret (fun v w => v = .bool r ∧ Sat [] w0 w [] [])) := by
  have hs : Sat [] w0 w0 [(1, k0_), (2, k1_)] [] := Sat.init w0 [(1, k0_), (2, k1_)] [] (by simp only [List.mem_cons, List.not_mem_nil, or_false]; rintro x (rfl | rfl) <;> assumption) (by simp) List.nodup_nil (by simp [blks])
  unfold slices_ContainsFunc_int_int.f at H
  refine enter Tryd.func89 rfl Tryd.ntmps89 rfl fun a hk => ?_
  apply wp_seq_k; intro K1 hK1
  apply wp_region_lit
  refine sa _ rfl hk rfl rfl rfl fun a hk => ?_
  show wpList _ _ _ [] _ _
  refine wpList_nil ?_
  refine hK1 _ _ ?_
  apply wp_seq_k; intro K2 hK2
  apply wp_region_lit
  refine sm _ rfl hk rfl rfl rfl fun a hk => ?_
  refine sm _ rfl hk rfl rfl rfl fun a hk => ?_
  obtain ⟨y3, h4, H⟩ := bind_some H
  refine sc rfl en104 hk rfl rfl rfl (slices_IndexFunc_int_int_t _ A0_ p0_ l0 _ v0_ (hs.hasD (k := 1) rfl) f1_ c1_ e1_ q1 k1_ t1_ (hs.hasD (k := 2) rfl) _ h4) ?_
  rintro _ w ⟨rfl, hG⟩ a hk
  have hs := hs.call0 hG
  refine sv (.bool (decide (y3 ≥ 0))) hk rfl rfl rfl fun a hk => ?_
  refine sa _ rfl hk rfl rfl rfl fun a hk => ?_
  show wpList _ _ _ [] _ _
  refine wpList_nil ?_
  refine hK2 _ _ ?_
  refine wp_ret ?_
  obtain rfl := Option.some.inj H
  exact fin hk _ [(.bool (decide (y3 ≥ 0)))] rfl ⟨rfl, trivial⟩ ⟨rfl, (hs.pick [] rfl).dnil⟩

noncomputable def impl_areAll_int__c1.f (x0 : Int) (q1 : Int → Option (Bool)) : Option (Bool) :=
  ((q1 x0).bind fun y3 => (some (!y3)))
set_option maxRecDepth 100000 in
set_option maxHeartbeats 0 in
theorem impl_areAll_int__c1_t (w0 : World) (x0 : Int) (b1_ : Nat) (f1_ : FuncId) (c1_ : List Value) (e1_ : Enters Tryd.prog f1_) (q1 : Int → Option (Bool)) (k1_ : Chunk) (t1_ : ∀ w, Has w k1_ → ∀ (z0 : Int) (r : Bool), q1 z0 = some r → Calls Tryd.prog f1_ (([.int .i64 z0] : List Value) ++ c1_).toArray w (Ret (fun v w2 => v = .bool r ∧ Sat [] w w2 [] []))) (w1_ : Has w0 k1_) (h1_ : Has w0 [(b1_, .cells #[.func (.func f1_) #[] c1_.toArray] 83 (0, 0))]) (r : Bool) (H : impl_areAll_int__c1.f x0 q1 = some r) :
    Calls Tryd.prog 90 #[.int .i64 x0, .pointer (some ⟨b1_, 0, none⟩)] w0 (Ret (fun v w => v = .bool r ∧ Sat [] w0 w [] [])) := by
  have hs : Sat [] w0 w0 [(2, k1_), (1, [(b1_, .cells #[.func (.func f1_) #[] c1_.toArray] 83 (0, 0))])] [] := Sat.init w0 [(2, k1_), (1, [(b1_, .cells #[.func (.func f1_) #[] c1_.toArray] 83 (0, 0))])] [] (by simp only [List.mem_cons, List.not_mem_nil, or_false]; rintro x (rfl | rfl) <;> assumption) (by simp) List.nodup_nil (by simp [blks])
  unfold impl_areAll_int__c1.f at H
  refine enter Tryd.func90 rfl Tryd.ntmps90 rfl fun a hk => ?_
  apply wp_seq_k; intro K1 hK1
  apply wp_region_lit
  refine sa _ rfl hk rfl rfl rfl fun a hk => ?_
  show wpList _ _ _ [] _ _
  refine wpList_nil ?_
  refine hK1 _ _ ?_
  apply wp_seq_k; intro K2 hK2
  apply wp_region_lit
  refine sl rfl hk rfl rfl rfl ag83 (box_cellD hs (k := 1) rfl rfl) fun a hk => ?_
  refine sm _ rfl hk rfl rfl rfl fun a hk => ?_
  obtain ⟨y3, h4, H⟩ := bind_some H
  refine scv (vs := ([(.int .i64 x0)] : List Value) ++ c1_) rfl rfl e1_ hk rfl rfl rfl (t1_ _ (hs.hasD (k := 2) rfl) x0 _ h4) ?_
  rintro _ w ⟨rfl, hG⟩ a hk
  have hs := hs.call0 hG
  refine sv (.bool (!y3)) hk rfl rfl rfl fun a hk => ?_
  refine sa _ rfl hk rfl rfl rfl fun a hk => ?_
  show wpList _ _ _ [] _ _
  refine wpList_nil ?_
  refine hK2 _ _ ?_
  refine wp_ret ?_
  obtain rfl := Option.some.inj H
  exact fin hk _ [(.bool (!y3))] rfl ⟨rfl, trivial⟩ ⟨rfl, (hs.pick [] rfl).dnil⟩

noncomputable def impl_areAll_int.f (l0 : List Int) (q1 : Int → Option (Bool)) : Option (Bool) :=
  ((slices_ContainsFunc_int_int.f l0 (fun z0 => impl_areAll_int__c1.f z0 q1)).bind fun y4 => (some (!y4)))
set_option maxRecDepth 100000 in
set_option maxHeartbeats 0 in
theorem impl_areAll_int_t (w0 : World) (A0_ : Option Addr) (p0_ : Nat) (l0 : List Int) (k0_ : Chunk) (v0_ : View (Lay.int .i64) A0_ p0_ l0 k0_) (w0_ : Has w0 k0_) (f1_ : FuncId) (c1_ : List Value) (e1_ : Enters Tryd.prog f1_) (q1 : Int → Option (Bool)) (k1_ : Chunk) (t1_ : ∀ w, Has w k1_ → ∀ (z0 : Int) (r : Bool), q1 z0 = some r → Calls Tryd.prog f1_ (([.int .i64 z0] : List Value) ++ c1_).toArray w (Ret (fun v w2 => v = .bool r ∧ Sat [] w w2 [] []))) (w1_ : Has w0 k1_) (r : Bool) (H : impl_areAll_int.f l0 q1 = some r) :
    Calls Tryd.prog 68 #[.slice A0_ l0.length p0_, .func (.func f1_) #[] c1_.toArray] w0 (Ret (fun v w => v = .bool r ∧ Sat [] w0 w [] [])) := by
  have hs : Sat [] w0 w0 [(1, k0_), (2, k1_)] [] := Sat.init w0 [(1, k0_), (2, k1_)] [] (by simp only [List.mem_cons, List.not_mem_nil, or_false]; rintro x (rfl | rfl) <;> assumption) (by simp) List.nodup_nil (by simp [blks])
  unfold impl_areAll_int.f at H
  refine enter Tryd.func68 rfl Tryd.ntmps68 rfl fun a hk => ?_
  apply wp_seq_k; intro K1 hK1
  apply wp_region_lit
  refine sbx 3 hs rfl hk rfl rfl rfl rfl fun b2 w a hk hs => ?_
  refine sa _ rfl hk rfl rfl rfl fun a hk => ?_
  show wpList _ _ _ [] _ _
  refine wpList_nil ?_
  refine hK1 _ _ ?_
  apply wp_seq_k; intro K3 hK3
  apply wp_region_lit
  refine sm _ rfl hk rfl rfl rfl fun a hk => ?_
  refine smf (cs := [.pointer (some ⟨b2, 0, none⟩)]) rfl hk rfl rfl rfl fun a hk => ?_
  obtain ⟨y4, h5, H⟩ := bind_some H
  refine sc rfl en89 hk rfl rfl rfl (slices_ContainsFunc_int_int_t _ A0_ p0_ l0 _ v0_ (hs.hasD (k := 1) rfl) 90 [.pointer (some ⟨b2, 0, none⟩)] en90 (fun z0 => impl_areAll_int__c1.f z0 q1) ([(b2, .cells #[.func (.func f1_) #[] c1_.toArray] 83 (0, 0))] ++ k1_) (fun w hz z0 r h => impl_areAll_int__c1_t w z0 _ f1_ c1_ e1_ q1 k1_ t1_ (Has.right hz) (Has.left hz) r h) (Has.app (hs.hasG (k := 3) rfl) (hs.hasD (k := 2) rfl)) _ h5) ?_
  rintro _ w ⟨rfl, hG⟩ a hk
  have hs := hs.call0 hG
  refine sv (.bool (!y4)) hk rfl rfl rfl fun a hk => ?_
  refine sa _ rfl hk rfl rfl rfl fun a hk => ?_
  show wpList _ _ _ [] _ _
  refine wpList_nil ?_
  refine hK3 _ _ ?_
  refine wp_ret ?_
  obtain rfl := Option.some.inj H
  exact fin hk _ [(.bool (!y4))] rfl ⟨rfl, trivial⟩ ⟨rfl, (hs.pick [] rfl).dnil⟩

noncomputable def impl_isResult.f (x0 : S_Result) : Option (Bool) :=
  ((((impl_isCode.f x0.Code).bind fun y10 => (bif y10 then (bif (decide ((x0.Values.length : Int) ≤ 32)) then ((impl_areAll_int.f x0.Values impl_isValue.f).bind fun y14 => (bif y14 then (bif (x0.Code == 0) then (some true) else (some ((x0.Values.length : Int) == 0))) else (some false))) else (some false)) else (some false))) : Option (Bool)).bind fun u5 => (some u5))
set_option maxRecDepth 100000 in
set_option maxHeartbeats 0 in
theorem impl_isResult_t (w0 : World) (x0 : S_Result) (A0_0 : Option Addr) (p0_0 : Nat) (k0_0 : Chunk) (v0_0 : View (Lay.int .i64) A0_0 p0_0 x0.Values k0_0) (w0_0 : Has w0 k0_0) (r : Bool) (H : impl_isResult.f x0 = some r) :
    Calls Tryd.prog 36 #[.agg #[.int .i64 x0.Code, .slice A0_0 x0.Values.length p0_0]] w0 (Ret (fun v w => v = .bool r ∧ Sat [] w0 w [] [])) := by
  have hs : Sat [] w0 w0 [(1, k0_0)] [] := Sat.init w0 [(1, k0_0)] [] (by simp only [List.mem_cons, List.not_mem_nil, or_false]; rintro x (rfl) <;> assumption) (by simp) List.nodup_nil (by simp [blks])
  unfold impl_isResult.f at H
  refine enter Tryd.func36 rfl Tryd.ntmps36 rfl fun a hk => ?_
  apply wp_seq_k; intro K1 hK1
  apply wp_region_lit
  refine sbx 2 hs rfl hk rfl rfl rfl rfl fun b2 w a hk hs => ?_
  refine sa _ rfl hk rfl rfl rfl fun a hk => ?_
  show wpList _ _ _ [] _ _
  refine wpList_nil ?_
  refine hK1 _ _ ?_
  apply wp_seq_k; intro K3 hK3
  obtain ⟨o6, h7, HL8⟩ := bind_some H
  clear H
  obtain ⟨R9, hR9⟩ : ∃ R : Act → World → Prop, R = fun a w => ∃ (u5 : Bool), u5 = o6 ∧ Kn [(2, (.bool u5))] 28 a ∧ Sat [] w0 w [(1, k0_0)] [] := ⟨_, rfl⟩
  refine wp_cutq R9 ?_ ?_
  ·have H := h7
   apply wp_region_lit
   refine sf ⟨b2, 0, none⟩ rfl hk rfl rfl rfl fd34_0 rfl fun a hk => ?_
   refine sl rfl hk rfl rfl rfl ag3 (box_cell hs (k := 2) rfl rfl) fun a hk => ?_
   obtain ⟨y10, h11, H⟩ := bind_some H
   refine sc rfl en67 hk rfl rfl rfl (impl_isCode_t _ x0.Code _ h11) ?_
   rintro _ w ⟨rfl, hG⟩ a hk
   have hs := hs.call0 hG
   refine sm _ rfl hk rfl rfl rfl fun a hk => ?_
   rcases cond_some H with ⟨c12, H⟩ | ⟨c12, H⟩
   ·have hk := hk.lit 6 c12 rfl
    refine sf ⟨b2, 1, none⟩ rfl hk rfl rfl rfl fd34_1 rfl fun a hk => ?_
    refine sl rfl hk rfl rfl rfl ag29 (box_cell hs (k := 2) rfl rfl) fun a hk => ?_
    refine sle rfl hk rfl rfl rfl un29 fun a hk => ?_
    refine sv (.bool (decide ((x0.Values.length : Int) ≤ 32))) hk rfl rfl rfl fun a hk => ?_
    refine sv (.bool (decide ((x0.Values.length : Int) ≤ 32))) hk rfl rfl rfl fun a hk => ?_
    refine sm _ rfl hk rfl rfl rfl fun a hk => ?_
    rcases cond_some H with ⟨c13, H⟩ | ⟨c13, H⟩
    ·have hk := hk.lit 12 c13 rfl
     refine sf ⟨b2, 1, none⟩ rfl hk rfl rfl rfl fd34_1 rfl fun a hk => ?_
     refine sl rfl hk rfl rfl rfl ag29 (box_cell hs (k := 2) rfl rfl) fun a hk => ?_
     obtain ⟨y14, h15, H⟩ := bind_some H
     refine sc rfl en68 hk rfl rfl rfl (impl_areAll_int_t _ A0_0 p0_0 x0.Values _ v0_0 (hs.hasD (k := 1) rfl) 63 [] en63 impl_isValue.f [] (fun w _ z0 r h => impl_isValue_t w z0 r h) (Has.nil _) _ h15) ?_
     rintro _ w ⟨rfl, hG⟩ a hk
     have hs := hs.call0 hG
     refine sv (.bool y14) hk rfl rfl rfl fun a hk => ?_
     refine sm _ rfl hk rfl rfl rfl fun a hk => ?_
     rcases cond_some H with ⟨c16, H⟩ | ⟨c16, H⟩
     ·have hk := hk.lit 17 c16 rfl
      refine sf ⟨b2, 0, none⟩ rfl hk rfl rfl rfl fd34_0 rfl fun a hk => ?_
      refine sl rfl hk rfl rfl rfl ag3 (box_cell hs (k := 2) rfl rfl) fun a hk => ?_
      refine sv (.bool (x0.Code == 0)) hk rfl rfl rfl fun a hk => ?_
      refine sm _ rfl hk rfl rfl rfl fun a hk => ?_
      rcases cond_some H with ⟨c17, H⟩ | ⟨c17, H⟩
      ·have hk := hk.lit 21 c17 rfl
       refine sk hk rfl rfl rfl fun a hk => ?_
       refine sk hk rfl rfl rfl fun a hk => ?_
       refine sk hk rfl rfl rfl fun a hk => ?_
       refine sk hk rfl rfl rfl fun a hk => ?_
       refine sv (.bool true) hk rfl rfl rfl fun a hk => ?_
       refine sv (.bool true) hk rfl rfl rfl fun a hk => ?_
       refine sa _ rfl hk rfl rfl rfl fun a hk => ?_
       show wpList _ _ _ [] _ _
       refine wpList_nil ?_
       obtain rfl := Option.some.inj H
       show R9 _ _
       rw [hR9]
       exact ⟨true, rfl, (hk.c 2 rfl hk.k), (hs.pick [] rfl)⟩
      ·have hk := hk.lit 21 c17 rfl
       refine sf ⟨b2, 1, none⟩ rfl hk rfl rfl rfl fd34_1 rfl fun a hk => ?_
       refine sl rfl hk rfl rfl rfl ag29 (box_cell hs (k := 2) rfl rfl) fun a hk => ?_
       refine sle rfl hk rfl rfl rfl un29 fun a hk => ?_
       refine sv (.bool ((x0.Values.length : Int) == 0)) hk rfl rfl rfl fun a hk => ?_
       refine sv (.bool ((x0.Values.length : Int) == 0)) hk rfl rfl rfl fun a hk => ?_
       refine sv (.bool ((x0.Values.length : Int) == 0)) hk rfl rfl rfl fun a hk => ?_
       refine sa _ rfl hk rfl rfl rfl fun a hk => ?_
       show wpList _ _ _ [] _ _
       refine wpList_nil ?_
       obtain rfl := Option.some.inj H
       show R9 _ _
       rw [hR9]
       exact ⟨((x0.Values.length : Int) == 0), rfl, (hk.c 2 rfl hk.k), (hs.pick [] rfl)⟩
     ·have hk := hk.lit 17 c16 rfl
      refine sk hk rfl rfl rfl fun a hk => ?_
      refine sk hk rfl rfl rfl fun a hk => ?_
      refine sk hk rfl rfl rfl fun a hk => ?_
      refine sk hk rfl rfl rfl fun a hk => ?_
      refine sk hk rfl rfl rfl fun a hk => ?_
      refine sk hk rfl rfl rfl fun a hk => ?_
      refine sk hk rfl rfl rfl fun a hk => ?_
      refine sk hk rfl rfl rfl fun a hk => ?_
      refine sk hk rfl rfl rfl fun a hk => ?_
      refine sv (.bool false) hk rfl rfl rfl fun a hk => ?_
      refine sa _ rfl hk rfl rfl rfl fun a hk => ?_
      show wpList _ _ _ [] _ _
      refine wpList_nil ?_
      obtain rfl := Option.some.inj H
      show R9 _ _
      rw [hR9]
      exact ⟨false, rfl, (hk.c 2 rfl hk.k), (hs.pick [] rfl)⟩
    ·have hk := hk.lit 12 c13 rfl
     refine sk hk rfl rfl rfl fun a hk => ?_
     refine sk hk rfl rfl rfl fun a hk => ?_
     refine sk hk rfl rfl rfl fun a hk => ?_
     refine sv (.bool false) hk rfl rfl rfl fun a hk => ?_
     refine sm _ rfl hk rfl rfl rfl fun a hk => ?_
     refine sk hk rfl rfl rfl fun a hk => ?_
     refine sk hk rfl rfl rfl fun a hk => ?_
     refine sk hk rfl rfl rfl fun a hk => ?_
     refine sk hk rfl rfl rfl fun a hk => ?_
     refine sk hk rfl rfl rfl fun a hk => ?_
     refine sk hk rfl rfl rfl fun a hk => ?_
     refine sk hk rfl rfl rfl fun a hk => ?_
     refine sk hk rfl rfl rfl fun a hk => ?_
     refine sk hk rfl rfl rfl fun a hk => ?_
     refine sv (.bool false) hk rfl rfl rfl fun a hk => ?_
     refine sa _ rfl hk rfl rfl rfl fun a hk => ?_
     show wpList _ _ _ [] _ _
     refine wpList_nil ?_
     obtain rfl := Option.some.inj H
     show R9 _ _
     rw [hR9]
     exact ⟨false, rfl, (hk.c 2 rfl hk.k), (hs.pick [] rfl)⟩
   ·have hk := hk.lit 6 c12 rfl
    refine sk hk rfl rfl rfl fun a hk => ?_
    refine sk hk rfl rfl rfl fun a hk => ?_
    refine sk hk rfl rfl rfl fun a hk => ?_
    refine sk hk rfl rfl rfl fun a hk => ?_
    refine sv (.bool false) hk rfl rfl rfl fun a hk => ?_
    refine sm _ rfl hk rfl rfl rfl fun a hk => ?_
    refine sk hk rfl rfl rfl fun a hk => ?_
    refine sk hk rfl rfl rfl fun a hk => ?_
    refine sk hk rfl rfl rfl fun a hk => ?_
    refine sv (.bool false) hk rfl rfl rfl fun a hk => ?_
    refine sm _ rfl hk rfl rfl rfl fun a hk => ?_
    refine sk hk rfl rfl rfl fun a hk => ?_
    refine sk hk rfl rfl rfl fun a hk => ?_
    refine sk hk rfl rfl rfl fun a hk => ?_
    refine sk hk rfl rfl rfl fun a hk => ?_
    refine sk hk rfl rfl rfl fun a hk => ?_
    refine sk hk rfl rfl rfl fun a hk => ?_
    refine sk hk rfl rfl rfl fun a hk => ?_
    refine sk hk rfl rfl rfl fun a hk => ?_
    refine sk hk rfl rfl rfl fun a hk => ?_
    refine sv (.bool false) hk rfl rfl rfl fun a hk => ?_
    refine sa _ rfl hk rfl rfl rfl fun a hk => ?_
    show wpList _ _ _ [] _ _
    refine wpList_nil ?_
    obtain rfl := Option.some.inj H
    show R9 _ _
    rw [hR9]
    exact ⟨false, rfl, (hk.c 2 rfl hk.k), (hs.pick [] rfl)⟩
  ·intro a w hR0
   rw [hR9] at hR0
   obtain ⟨u5, rfl, hk, hs⟩ := hR0
   have H := HL8
   try dsimp only at H
   refine hK3 _ _ ?_
   refine wp_ret ?_
   obtain rfl := Option.some.inj H
   exact fin hk _ [(.bool u5)] rfl ⟨rfl, trivial⟩ ⟨rfl, (hs.pick [] rfl).dnil⟩

noncomputable def slices_IndexFunc_string_string.s0 (l0 : List ByteArray) (q1 : ByteArray → Option (Bool)) (u6 : Int) : Option ((Int) ⊕ Ex (Unit) (Int)) :=
  (bif (decide (u6 < (l0.length : Int))) then (if 0 ≤ u6 ∧ u6 < (l0.length : Int) then ((q1 (l0.getD u6.toNat ByteArray.empty)).bind fun y25 => (bif y25 then (some (.inr (.ret u6))) else (some (.inl (w64 (u6 + 1)))))) else none) else (some (.inr (.out ()))))
noncomputable def slices_IndexFunc_string_string.f (l0 : List ByteArray) (q1 : ByteArray → Option (Bool)) : Option (Int) :=
  ((loopO (fun s => slices_IndexFunc_string_string.s0 l0 q1 s) 0).bind fun o => match o with | .out _ => (some (-1)) | .ret r => (some r))
set_option maxRecDepth 100000 in
set_option maxHeartbeats 0 in
theorem slices_IndexFunc_string_string_t (w0 : World) (A0_ : Option Addr) (p0_ : Nat) (l0 : List ByteArray) (k0_ : Chunk) (v0_ : View Lay.str A0_ p0_ l0 k0_) (w0_ : Has w0 k0_) (f1_ : FuncId) (c1_ : List Value) (e1_ : Enters Tryd.prog f1_) (q1 : ByteArray → Option (Bool)) (k1_ : Chunk) (t1_ : ∀ w, Has w k1_ → ∀ (z0 : ByteArray) (r : Bool), q1 z0 = some r → Calls Tryd.prog f1_ (([.string z0] : List Value) ++ c1_).toArray w (Ret (fun v w2 => v = .bool r ∧ Sat [] w w2 [] []))) (w1_ : Has w0 k1_) (r : Int) (H : slices_IndexFunc_string_string.f l0 q1 = some r) :
    Calls Tryd.prog 99 #[.slice A0_ l0.length p0_, .func (.func f1_) #[] c1_.toArray] w0 (Ret (fun v w => v = .int .i64 r ∧ Sat [] w0 w [] [])) := by
  have hs : Sat [] w0 w0 [(1, k0_), (2, k1_)] [] := Sat.init w0 [(1, k0_), (2, k1_)] [] (by simp only [List.mem_cons, List.not_mem_nil, or_false]; rintro x (rfl | rfl) <;> assumption) (by simp) List.nodup_nil (by simp [blks])
  unfold slices_IndexFunc_string_string.f at H
  refine enter Tryd.func99 rfl Tryd.ntmps99 rfl fun a hk => ?_
  apply wp_seq_k; intro K1 hK1
  apply wp_region_lit
  refine sa _ rfl hk rfl rfl rfl fun a hk => ?_
  show wpList _ _ _ [] _ _
  refine wpList_nil ?_
  refine hK1 _ _ ?_
  apply wp_seq_k; intro K2 hK2
  apply wp_seq_k; intro K3 hK3
  apply wp_region_lit
  refine sm _ rfl hk rfl rfl rfl fun a hk => ?_
  refine sle rfl hk rfl rfl rfl un73 fun a hk => ?_
  refine sm _ rfl hk rfl rfl rfl fun a hk => ?_
  show wpList _ _ _ [] _ _
  refine wpList_nil ?_
  refine hK3 _ _ ?_
  obtain ⟨o7, h8, HL9⟩ := bind_some H
  clear H
  obtain ⟨R10, hR10⟩ : ∃ R : Act → World → Prop, R = fun a w => o7 = .out () ∧ Kn [] 19 a ∧ Sat [] w0 w [(1, k0_), (2, k1_)] [] := ⟨_, rfl⟩
  refine wp_cutq R10 ?_ ?_
  ·refine wp_block ?_
   obtain ⟨fu12, h8⟩ := loopO_some h8
   obtain ⟨I11, hI11⟩ : ∃ I : Nat → Act → World → Prop, I = fun fu a w => ∃ (u6 : Int), loopN (fun s => slices_IndexFunc_string_string.s0 l0 q1 s) fu u6 = some o7 ∧ Kn [(0, (.slice A0_ l0.length p0_)), (1, (.func (.func f1_) #[] c1_.toArray)), (7, (.int .i64 (l0.length : Int))), (8, (.int .i64 u6))] 19 a ∧ Sat [] w0 w [(1, k0_), (2, k1_)] [] := ⟨_, rfl⟩
   refine wp_loop_ghost I11 fu12 ?_ ?_
   ·rw [hI11]
    exact ⟨0, h8, (hk.c 0 rfl (hk.c 1 rfl (hk.c 7 rfl (hk.c 8 rfl hk.k)))), (hs.pick [] rfl)⟩
   ·clear h8 hk hs
    intro fu12 a w hI0
    rw [hI11] at hI0
    obtain ⟨u6, hi, hk, hs⟩ := hI0
    obtain ⟨x13, H, h14⟩ := loop_round hi
    try dsimp only at H
    unfold slices_IndexFunc_string_string.s0 at H
    apply wp_seq_k; intro K15 hK15
    apply wp_region_lit
    refine sv (.bool (decide (u6 < (l0.length : Int)))) hk rfl rfl rfl fun a hk => ?_
    show wpList _ _ _ [] _ _
    refine wpList_nil ?_
    refine hK15 _ _ ?_
    apply wp_seq_k; intro K16 hK16
    rcases cond_some H with ⟨c17, H⟩ | ⟨c17, H⟩
    ·have hk := hk.lit 9 c17 rfl
     refine cnd_true hk rfl rfl ?_
     refine wp_skip ?_
     refine hK16 _ _ ?_
     have hs := hs.pick [] rfl
     apply wp_seq_k; intro K18 hK18
     refine wp_block ?_
     apply wp_seq_k; intro K19 hK19
     apply wp_region_lit
     refine sm _ rfl hk rfl rfl rfl fun a hk => ?_
     refine sa _ rfl hk rfl rfl rfl fun a hk => ?_
     show wpList _ _ _ [] _ _
     refine wpList_nil ?_
     refine hK19 _ _ ?_
     apply wp_seq_k; intro K20 hK20
     apply wp_region_lit
     refine sm _ rfl hk rfl rfl rfl fun a hk => ?_
     refine sm _ rfl hk rfl rfl rfl fun a hk => ?_
     refine sm _ rfl hk rfl rfl rfl fun a hk => ?_
     rcases ite_some H with ⟨c21, H⟩ | ⟨_, H⟩
     rotate_left
     ·cases H
     obtain ⟨b22, q23, hAc21⟩ := (v0_).some_ u6 c21.1 c21.2
     refine si rfl hk rfl rfl rfl rfl un73 sz9 c21.1 c21.2 hAc21 fun a hk => ?_
     obtain ⟨_, rfl, e24⟩ := (v0_).at_ ByteArray.empty u6 c21.1 c21.2
     refine sl (v := (.string (l0.getD u6.toNat ByteArray.empty))) rfl hk rfl rfl rfl ag9 ((e24 0 _ rfl).cell (hs.hasD (k := 1) rfl)) fun a hk => ?_
     obtain ⟨y25, h26, H⟩ := bind_some H
     refine scv (vs := ([(.string (l0.getD u6.toNat ByteArray.empty))] : List Value) ++ c1_) rfl rfl e1_ hk rfl rfl rfl (t1_ _ (hs.hasD (k := 2) rfl) (l0.getD u6.toNat ByteArray.empty) _ h26) ?_
     rintro _ w ⟨rfl, hG⟩ a hk
     have hs := hs.call0 hG
     show wpList _ _ _ [] _ _
     refine wpList_nil ?_
     refine hK20 _ _ ?_
     rcases cond_some H with ⟨c27, H⟩ | ⟨c27, H⟩
     ·have hk := hk.lit 16 c27 rfl
      refine cnd_true hk rfl rfl ?_
      apply wp_seq_k; intro K28 hK28
      apply wp_region_lit
      refine sm _ rfl hk rfl rfl rfl fun a hk => ?_
      refine sa _ rfl hk rfl rfl rfl fun a hk => ?_
      show wpList _ _ _ [] _ _
      refine wpList_nil ?_
      refine hK28 _ _ ?_
      refine wp_ret ?_
      obtain rfl := Option.some.inj H
      have ho7 := h14
      try dsimp only at ho7
      subst ho7
      have H := HL9
      try dsimp only at H
      obtain rfl := Option.some.inj H
      exact fin hk _ [(.int .i64 u6)] rfl ⟨rfl, trivial⟩ ⟨rfl, (hs.pick [] rfl).dnil⟩
     ·have hk := hk.lit 16 c27 rfl
      refine cnd_false hk rfl rfl ?_
      refine wp_skip ?_
      refine hK18 _ _ ?_
      apply wp_region_lit
      refine sv (.int .i64 (w64 (u6 + 1))) hk rfl rfl rfl fun a hk => ?_
      refine sm _ rfl hk rfl rfl rfl fun a hk => ?_
      show wpList _ _ _ [] _ _
      refine wpList_nil ?_
      obtain rfl := Option.some.inj H
      obtain ⟨m29, hmm29, h14⟩ := h14
      show ∃ n', n' < _ ∧ I11 n' _ _
      refine ⟨m29, hmm29, ?_⟩
      rw [hI11]
      exact ⟨(w64 (u6 + 1)), h14, (hk.c 0 rfl (hk.c 1 rfl (hk.c 7 rfl (hk.c 8 rfl hk.k)))), (hs.pick [] rfl)⟩
    ·have hk := hk.lit 9 c17 rfl
     refine cnd_false hk rfl rfl ?_
     refine wp_exit ?_
     obtain rfl := Option.some.inj H
     show R10 _ _
     rw [hR10]
     exact ⟨h14.symm, hk.k, (hs.pick [] rfl)⟩
  ·intro a w hR0
   rw [hR10] at hR0
   obtain ⟨rfl, hk, hs⟩ := hR0
   have H := HL9
   try dsimp only at H
   refine hK2 _ _ ?_
   apply wp_seq_k; intro K30 hK30
   apply wp_region_lit
   refine sa _ rfl hk rfl rfl rfl fun a hk => ?_
   show wpList _ _ _ [] _ _
   refine wpList_nil ?_
   refine hK30 _ _ ?_
   have hs := hs.pick [] rfl
   refine wp_ret ?_
   obtain rfl := Option.some.inj H
   exact fin hk _ [(.int .i64 (-1))] rfl ⟨rfl, trivial⟩ ⟨rfl, (hs.pick [] rfl).dnil⟩

noncomputable def slices_ContainsFunc_string_string.f (l0 : List ByteArray) (q1 : ByteArray → Option (Bool)) : Option (Bool) :=
  ((slices_IndexFunc_string_string.f l0 q1).bind fun y3 => (some (decide (y3 ≥ 0))))
set_option maxRecDepth 100000 in
set_option maxHeartbeats 0 in
theorem slices_ContainsFunc_string_string_t (w0 : World) (A0_ : Option Addr) (p0_ : Nat) (l0 : List ByteArray) (k0_ : Chunk) (v0_ : View Lay.str A0_ p0_ l0 k0_) (w0_ : Has w0 k0_) (f1_ : FuncId) (c1_ : List Value) (e1_ : Enters Tryd.prog f1_) (q1 : ByteArray → Option (Bool)) (k1_ : Chunk) (t1_ : ∀ w, Has w k1_ → ∀ (z0 : ByteArray) (r : Bool), q1 z0 = some r → Calls Tryd.prog f1_ (([.string z0] : List Value) ++ c1_).toArray w (Ret (fun v w2 => v = .bool r ∧ Sat [] w w2 [] []))) (w1_ : Has w0 k1_) (r : Bool) (H : slices_ContainsFunc_string_string.f l0 q1 = some r) :
    Calls Tryd.prog 97 #[.slice A0_ l0.length p0_, .func (.func f1_) #[] c1_.toArray] w0 (Ret (fun v w => v = .bool r ∧ Sat [] w0 w [] [])) := by
  have hs : Sat [] w0 w0 [(1, k0_), (2, k1_)] [] := Sat.init w0 [(1, k0_), (2, k1_)] [] (by simp only [List.mem_cons, List.not_mem_nil, or_false]; rintro x (rfl | rfl) <;> assumption) (by simp) List.nodup_nil (by simp [blks])
  unfold slices_ContainsFunc_string_string.f at H
  refine enter Tryd.func97 rfl Tryd.ntmps97 rfl fun a hk => ?_
  apply wp_seq_k; intro K1 hK1
  apply wp_region_lit
  refine sa _ rfl hk rfl rfl rfl fun a hk => ?_
  show wpList _ _ _ [] _ _
  refine wpList_nil ?_
  refine hK1 _ _ ?_
  apply wp_seq_k; intro K2 hK2
  apply wp_region_lit
  refine sm _ rfl hk rfl rfl rfl fun a hk => ?_
  refine sm _ rfl hk rfl rfl rfl fun a hk => ?_
  obtain ⟨y3, h4, H⟩ := bind_some H
  refine sc rfl en99 hk rfl rfl rfl (slices_IndexFunc_string_string_t _ A0_ p0_ l0 _ v0_ (hs.hasD (k := 1) rfl) f1_ c1_ e1_ q1 k1_ t1_ (hs.hasD (k := 2) rfl) _ h4) ?_
  rintro _ w ⟨rfl, hG⟩ a hk
  have hs := hs.call0 hG
  refine sv (.bool (decide (y3 ≥ 0))) hk rfl rfl rfl fun a hk => ?_
  refine sa _ rfl hk rfl rfl rfl fun a hk => ?_
  show wpList _ _ _ [] _ _
  refine wpList_nil ?_
  refine hK2 _ _ ?_
  refine wp_ret ?_
  obtain rfl := Option.some.inj H
  exact fin hk _ [(.bool (decide (y3 ≥ 0)))] rfl ⟨rfl, trivial⟩ ⟨rfl, (hs.pick [] rfl).dnil⟩

noncomputable def impl_areAll_string__c1.f (x0 : ByteArray) (q1 : ByteArray → Option (Bool)) : Option (Bool) :=
  ((q1 x0).bind fun y3 => (some (!y3)))
set_option maxRecDepth 100000 in
set_option maxHeartbeats 0 in
theorem impl_areAll_string__c1_t (w0 : World) (x0 : ByteArray) (b1_ : Nat) (f1_ : FuncId) (c1_ : List Value) (e1_ : Enters Tryd.prog f1_) (q1 : ByteArray → Option (Bool)) (k1_ : Chunk) (t1_ : ∀ w, Has w k1_ → ∀ (z0 : ByteArray) (r : Bool), q1 z0 = some r → Calls Tryd.prog f1_ (([.string z0] : List Value) ++ c1_).toArray w (Ret (fun v w2 => v = .bool r ∧ Sat [] w w2 [] []))) (w1_ : Has w0 k1_) (h1_ : Has w0 [(b1_, .cells #[.func (.func f1_) #[] c1_.toArray] 48 (0, 0))]) (r : Bool) (H : impl_areAll_string__c1.f x0 q1 = some r) :
    Calls Tryd.prog 98 #[.string x0, .pointer (some ⟨b1_, 0, none⟩)] w0 (Ret (fun v w => v = .bool r ∧ Sat [] w0 w [] [])) := by
  have hs : Sat [] w0 w0 [(2, k1_), (1, [(b1_, .cells #[.func (.func f1_) #[] c1_.toArray] 48 (0, 0))])] [] := Sat.init w0 [(2, k1_), (1, [(b1_, .cells #[.func (.func f1_) #[] c1_.toArray] 48 (0, 0))])] [] (by simp only [List.mem_cons, List.not_mem_nil, or_false]; rintro x (rfl | rfl) <;> assumption) (by simp) List.nodup_nil (by simp [blks])
  unfold impl_areAll_string__c1.f at H
  refine enter Tryd.func98 rfl Tryd.ntmps98 rfl fun a hk => ?_
  apply wp_seq_k; intro K1 hK1
  apply wp_region_lit
  refine sa _ rfl hk rfl rfl rfl fun a hk => ?_
  show wpList _ _ _ [] _ _
  refine wpList_nil ?_
  refine hK1 _ _ ?_
  apply wp_seq_k; intro K2 hK2
  apply wp_region_lit
  refine sl rfl hk rfl rfl rfl ag48 (box_cellD hs (k := 1) rfl rfl) fun a hk => ?_
  refine sm _ rfl hk rfl rfl rfl fun a hk => ?_
  obtain ⟨y3, h4, H⟩ := bind_some H
  refine scv (vs := ([(.string x0)] : List Value) ++ c1_) rfl rfl e1_ hk rfl rfl rfl (t1_ _ (hs.hasD (k := 2) rfl) x0 _ h4) ?_
  rintro _ w ⟨rfl, hG⟩ a hk
  have hs := hs.call0 hG
  refine sv (.bool (!y3)) hk rfl rfl rfl fun a hk => ?_
  refine sa _ rfl hk rfl rfl rfl fun a hk => ?_
  show wpList _ _ _ [] _ _
  refine wpList_nil ?_
  refine hK2 _ _ ?_
  refine wp_ret ?_
  obtain rfl := Option.some.inj H
  exact fin hk _ [(.bool (!y3))] rfl ⟨rfl, trivial⟩ ⟨rfl, (hs.pick [] rfl).dnil⟩

noncomputable def impl_areAll_string.f (l0 : List ByteArray) (q1 : ByteArray → Option (Bool)) : Option (Bool) :=
  ((slices_ContainsFunc_string_string.f l0 (fun z0 => impl_areAll_string__c1.f z0 q1)).bind fun y4 => (some (!y4)))
set_option maxRecDepth 100000 in
set_option maxHeartbeats 0 in
theorem impl_areAll_string_t (w0 : World) (A0_ : Option Addr) (p0_ : Nat) (l0 : List ByteArray) (k0_ : Chunk) (v0_ : View Lay.str A0_ p0_ l0 k0_) (w0_ : Has w0 k0_) (f1_ : FuncId) (c1_ : List Value) (e1_ : Enters Tryd.prog f1_) (q1 : ByteArray → Option (Bool)) (k1_ : Chunk) (t1_ : ∀ w, Has w k1_ → ∀ (z0 : ByteArray) (r : Bool), q1 z0 = some r → Calls Tryd.prog f1_ (([.string z0] : List Value) ++ c1_).toArray w (Ret (fun v w2 => v = .bool r ∧ Sat [] w w2 [] []))) (w1_ : Has w0 k1_) (r : Bool) (H : impl_areAll_string.f l0 q1 = some r) :
    Calls Tryd.prog 79 #[.slice A0_ l0.length p0_, .func (.func f1_) #[] c1_.toArray] w0 (Ret (fun v w => v = .bool r ∧ Sat [] w0 w [] [])) := by
  have hs : Sat [] w0 w0 [(1, k0_), (2, k1_)] [] := Sat.init w0 [(1, k0_), (2, k1_)] [] (by simp only [List.mem_cons, List.not_mem_nil, or_false]; rintro x (rfl | rfl) <;> assumption) (by simp) List.nodup_nil (by simp [blks])
  unfold impl_areAll_string.f at H
  refine enter Tryd.func79 rfl Tryd.ntmps79 rfl fun a hk => ?_
  apply wp_seq_k; intro K1 hK1
  apply wp_region_lit
  refine sbx 3 hs rfl hk rfl rfl rfl rfl fun b2 w a hk hs => ?_
  refine sa _ rfl hk rfl rfl rfl fun a hk => ?_
  show wpList _ _ _ [] _ _
  refine wpList_nil ?_
  refine hK1 _ _ ?_
  apply wp_seq_k; intro K3 hK3
  apply wp_region_lit
  refine sm _ rfl hk rfl rfl rfl fun a hk => ?_
  refine smf (cs := [.pointer (some ⟨b2, 0, none⟩)]) rfl hk rfl rfl rfl fun a hk => ?_
  obtain ⟨y4, h5, H⟩ := bind_some H
  refine sc rfl en97 hk rfl rfl rfl (slices_ContainsFunc_string_string_t _ A0_ p0_ l0 _ v0_ (hs.hasD (k := 1) rfl) 98 [.pointer (some ⟨b2, 0, none⟩)] en98 (fun z0 => impl_areAll_string__c1.f z0 q1) ([(b2, .cells #[.func (.func f1_) #[] c1_.toArray] 48 (0, 0))] ++ k1_) (fun w hz z0 r h => impl_areAll_string__c1_t w z0 _ f1_ c1_ e1_ q1 k1_ t1_ (Has.right hz) (Has.left hz) r h) (Has.app (hs.hasG (k := 3) rfl) (hs.hasD (k := 2) rfl)) _ h5) ?_
  rintro _ w ⟨rfl, hG⟩ a hk
  have hs := hs.call0 hG
  refine sv (.bool (!y4)) hk rfl rfl rfl fun a hk => ?_
  refine sa _ rfl hk rfl rfl rfl fun a hk => ?_
  show wpList _ _ _ [] _ _
  refine wpList_nil ?_
  refine hK3 _ _ ?_
  refine wp_ret ?_
  obtain rfl := Option.some.inj H
  exact fin hk _ [(.bool (!y4))] rfl ⟨rfl, trivial⟩ ⟨rfl, (hs.pick [] rfl).dnil⟩

noncomputable def impl_areShort_c1.f (x0 : ByteArray) : Option (Bool) :=
  (some (decide ((x0.size : Int) ≤ 65536)))
set_option maxRecDepth 100000 in
set_option maxHeartbeats 0 in
theorem impl_areShort_c1_t (w0 : World) (x0 : ByteArray) (r : Bool) (H : impl_areShort_c1.f x0 = some r) :
    Calls Tryd.prog 80 #[.string x0] w0 (Ret (fun v w => v = .bool r ∧ Sat [] w0 w [] [])) := by
  have hs : Sat [] w0 w0 [] [] := Sat.init w0 [] [] (by simp) (by simp) List.nodup_nil (by simp [blks])
  unfold impl_areShort_c1.f at H
  refine enter Tryd.func80 rfl Tryd.ntmps80 rfl fun a hk => ?_
  apply wp_seq_k; intro K1 hK1
  apply wp_region_lit
  refine sa _ rfl hk rfl rfl rfl fun a hk => ?_
  show wpList _ _ _ [] _ _
  refine wpList_nil ?_
  refine hK1 _ _ ?_
  apply wp_seq_k; intro K2 hK2
  apply wp_region_lit
  refine sm _ rfl hk rfl rfl rfl fun a hk => ?_
  refine sles rfl hk rfl rfl rfl un9 fun a hk => ?_
  refine sv (.bool (decide ((x0.size : Int) ≤ 65536))) hk rfl rfl rfl fun a hk => ?_
  refine sa _ rfl hk rfl rfl rfl fun a hk => ?_
  show wpList _ _ _ [] _ _
  refine wpList_nil ?_
  refine hK2 _ _ ?_
  refine wp_ret ?_
  obtain rfl := Option.some.inj H
  exact fin hk _ [(.bool (decide ((x0.size : Int) ≤ 65536)))] rfl ⟨rfl, trivial⟩ ⟨rfl, (hs.pick [] rfl).dnil⟩

noncomputable def impl_areShort.f (l0 : List ByteArray) : Option (Bool) :=
  ((impl_areAll_string.f l0 impl_areShort_c1.f).bind fun y3 => (some y3))
set_option maxRecDepth 100000 in
set_option maxHeartbeats 0 in
theorem impl_areShort_t (w0 : World) (A0_ : Option Addr) (p0_ : Nat) (l0 : List ByteArray) (k0_ : Chunk) (v0_ : View Lay.str A0_ p0_ l0 k0_) (w0_ : Has w0 k0_) (r : Bool) (H : impl_areShort.f l0 = some r) :
    Calls Tryd.prog 47 #[.slice A0_ l0.length p0_] w0 (Ret (fun v w => v = .bool r ∧ Sat [] w0 w [] [])) := by
  have hs : Sat [] w0 w0 [(1, k0_)] [] := Sat.init w0 [(1, k0_)] [] (by simp only [List.mem_cons, List.not_mem_nil, or_false]; rintro x (rfl) <;> assumption) (by simp) List.nodup_nil (by simp [blks])
  unfold impl_areShort.f at H
  refine enter Tryd.func47 rfl Tryd.ntmps47 rfl fun a hk => ?_
  apply wp_seq_k; intro K1 hK1
  apply wp_region_lit
  refine sa _ rfl hk rfl rfl rfl fun a hk => ?_
  show wpList _ _ _ [] _ _
  refine wpList_nil ?_
  refine hK1 _ _ ?_
  apply wp_seq_k; intro K2 hK2
  apply wp_region_lit
  refine sm _ rfl hk rfl rfl rfl fun a hk => ?_
  obtain ⟨y3, h4, H⟩ := bind_some H
  refine sc rfl en79 hk rfl rfl rfl (impl_areAll_string_t _ A0_ p0_ l0 _ v0_ (hs.hasD (k := 1) rfl) 80 [] en80 impl_areShort_c1.f [] (fun w _ z0 r h => impl_areShort_c1_t w z0 r h) (Has.nil _) _ h4) ?_
  rintro _ w ⟨rfl, hG⟩ a hk
  have hs := hs.call0 hG
  refine sa _ rfl hk rfl rfl rfl fun a hk => ?_
  show wpList _ _ _ [] _ _
  refine wpList_nil ?_
  refine hK2 _ _ ?_
  refine wp_ret ?_
  obtain rfl := Option.some.inj H
  exact fin hk _ [(.bool y3)] rfl ⟨rfl, trivial⟩ ⟨rfl, (hs.pick [] rfl).dnil⟩

noncomputable def slices_DeleteFunc_string_string.s0 (l0 : List ByteArray) (q1 : ByteArray → Option (Bool)) (u13 : List ByteArray) (u17 : Int) (u18 : Int) : Option (((List ByteArray) × Int × Int) ⊕ Ex ((List ByteArray) × Int) ((List ByteArray))) :=
  (bif (decide (u18 < (l0.length : Int))) then (if 0 ≤ u18 ∧ u18 < (l0.length : Int) then ((q1 (u13.getD u18.toNat ByteArray.empty)).bind fun y42 => (((bif (!y42) then (if 0 ≤ u17 ∧ u17 < (l0.length : Int) then (some ((u13.set u17.toNat (u13.getD u18.toNat ByteArray.empty)), (w64 (u17 + 1)))) else none) else (some (u13, u17))) : Option ((List ByteArray) × Int)).bind fun o => match o with | (u45, u49) => (some (.inl (u45, u49, (w64 (u18 + 1))))))) else none) else (some (.inr (.out (u13, u17)))))
noncomputable def slices_DeleteFunc_string_string.f (l0 : List ByteArray) (q1 : ByteArray → Option (Bool)) : Option ((List ByteArray)) :=
  ((slices_IndexFunc_string_string.f l0 q1).bind fun y3 => (bif (y3 == (-1)) then (some l0) else ((loopO (fun s => slices_DeleteFunc_string_string.s0 l0 q1 s.1 s.2.1 s.2.2) (l0, y3, (w64 (y3 + 1)))).bind fun o => match o with | .out (u19, u23) => (if 0 ≤ u23 ∧ u23 ≤ (l0.length : Int) then (if 0 ≤ u23 ∧ u23 ≤ (l0.length : Int) then (some ((clrL u19 u23.toNat ByteArray.empty).take u23.toNat)) else none) else none) | .ret r => (some r))))
set_option maxRecDepth 100000 in
set_option maxHeartbeats 0 in
theorem slices_DeleteFunc_string_string_t (w0 : World) (A0_ : Option Addr) (p0_ : Nat) (l0 : List ByteArray) (k0_ : Chunk) (v0_ : Own Lay.str 9 A0_ p0_ l0 k0_) (f1_ : FuncId) (c1_ : List Value) (e1_ : Enters Tryd.prog f1_) (q1 : ByteArray → Option (Bool)) (k1_ : Chunk) (t1_ : ∀ w, Has w k1_ → ∀ (z0 : ByteArray) (r : Bool), q1 z0 = some r → Calls Tryd.prog f1_ (([.string z0] : List Value) ++ c1_).toArray w (Ret (fun v w2 => v = .bool r ∧ Sat [] w w2 [] []))) (w1_ : Has w0 k1_) (hs0 : Sat (blks [(1, k0_)]) w0 w0 [(2, k1_)] [(1, k0_)]) (r : (List ByteArray)) (H : slices_DeleteFunc_string_string.f l0 q1 = some r) :
    Calls Tryd.prog 83 #[.slice A0_ l0.length p0_, .func (.func f1_) #[] c1_.toArray] w0 (Ret (fun v w => ∃ (A0 : Option Addr) (p0 : Nat) (k0 : Chunk), v = .slice A0 r.length p0 ∧ Own Lay.str 9 A0 p0 r k0 ∧ Sat (blks [(1, k0_)]) w0 w [] [(0, k0)])) := by
  have hs := hs0
  unfold slices_DeleteFunc_string_string.f at H
  refine enter Tryd.func83 rfl Tryd.ntmps83 rfl fun a hk => ?_
  apply wp_seq_k; intro K1 hK1
  apply wp_region_lit
  refine sa _ rfl hk rfl rfl rfl fun a hk => ?_
  show wpList _ _ _ [] _ _
  refine wpList_nil ?_
  refine hK1 _ _ ?_
  apply wp_seq_k; intro K2 hK2
  apply wp_region_lit
  refine sm _ rfl hk rfl rfl rfl fun a hk => ?_
  refine sm _ rfl hk rfl rfl rfl fun a hk => ?_
  obtain ⟨y3, h4, H⟩ := bind_some H
  refine sc rfl en99 hk rfl rfl rfl (slices_IndexFunc_string_string_t _ A0_ p0_ l0 _ v0_.view (hs.hasG (k := 1) rfl) f1_ c1_ e1_ q1 k1_ t1_ (hs.hasD (k := 2) rfl) _ h4) ?_
  rintro _ w ⟨rfl, hG⟩ a hk
  have hs := hs.call0 hG
  refine sa _ rfl hk rfl rfl rfl fun a hk => ?_
  show wpList _ _ _ [] _ _
  refine wpList_nil ?_
  refine hK2 _ _ ?_
  apply wp_seq_k; intro K5 hK5
  apply wp_seq_k; intro K6 hK6
  apply wp_region_lit
  refine sm _ rfl hk rfl rfl rfl fun a hk => ?_
  refine sv (.bool (y3 == (-1))) hk rfl rfl rfl fun a hk => ?_
  show wpList _ _ _ [] _ _
  refine wpList_nil ?_
  refine hK6 _ _ ?_
  rcases cond_some H with ⟨c7, H⟩ | ⟨c7, H⟩
  ·have hk := hk.lit 12 c7 rfl
   refine cnd_true hk rfl rfl ?_
   apply wp_seq_k; intro K8 hK8
   apply wp_region_lit
   refine sm _ rfl hk rfl rfl rfl fun a hk => ?_
   refine sa _ rfl hk rfl rfl rfl fun a hk => ?_
   show wpList _ _ _ [] _ _
   refine wpList_nil ?_
   refine hK8 _ _ ?_
   have hs := hs.pick [(1, 1)] rfl
   refine wp_ret ?_
   obtain rfl := Option.some.inj H
   exact fin hk _ [(.slice A0_ l0.length p0_)] rfl ⟨rfl, trivial⟩ ⟨A0_, p0_, _, rfl, v0_, (hs.pick [(0, 1)] rfl).dnil⟩
  ·have hk := hk.lit 12 c7 rfl
   refine cnd_false hk rfl rfl ?_
   refine wp_skip ?_
   refine hK5 _ _ ?_
   have hs := hs.pick [(1, 1)] rfl
   apply wp_seq_k; intro K9 hK9
   apply wp_seq_k; intro K10 hK10
   apply wp_region_lit
   refine sm _ rfl hk rfl rfl rfl fun a hk => ?_
   refine sv (.int .i64 (w64 (y3 + 1))) hk rfl rfl rfl fun a hk => ?_
   refine sa _ rfl hk rfl rfl rfl fun a hk => ?_
   show wpList _ _ _ [] _ _
   refine wpList_nil ?_
   refine hK10 _ _ ?_
   obtain ⟨o24, h25, HL26⟩ := bind_some H
   clear H
   obtain ⟨R27, hR27⟩ : ∃ R : Act → World → Prop, R = fun a w => ∃ (u19 : List ByteArray) (u23 : Int) (k20 : Chunk), o24 = .out (u19, u23) ∧ Kn [(0, (.slice A0_ l0.length p0_)), (5, (.int .i64 u23))] 42 a ∧ Sat (blks [(1, k0_)]) w0 w [(2, k1_)] [(1, k20)] ∧ Own Lay.str 9 A0_ p0_ u19 k20 ∧ u19.length = l0.length := ⟨_, rfl⟩
   refine wp_cutq R27 ?_ ?_
   ·refine wp_block ?_
    obtain ⟨fu29, h25⟩ := loopO_some h25
    obtain ⟨I28, hI28⟩ : ∃ I : Nat → Act → World → Prop, I = fun fu a w => ∃ (u13 : List ByteArray) (u17 : Int) (u18 : Int) (k14 : Chunk), loopN (fun s => slices_DeleteFunc_string_string.s0 l0 q1 s.1 s.2.1 s.2.2) fu (u13, u17, u18) = some o24 ∧ Kn [(0, (.slice A0_ l0.length p0_)), (1, (.func (.func f1_) #[] c1_.toArray)), (5, (.int .i64 u17)), (6, (.int .i64 u18))] 42 a ∧ Sat (blks [(1, k0_)]) w0 w [(2, k1_)] [(1, k14)] ∧ Own Lay.str 9 A0_ p0_ u13 k14 ∧ u13.length = l0.length := ⟨_, rfl⟩
    refine wp_loop_ghost I28 fu29 ?_ ?_
    ·rw [hI28]
     exact ⟨l0, y3, (w64 (y3 + 1)), _, h25, (hk.c 0 rfl (hk.c 1 rfl (hk.c 5 rfl (hk.c 6 rfl hk.k)))), (hs.pick [(1, 1)] rfl), v0_, rfl⟩
    ·clear h25 hk hs
     intro fu29 a w hI0
     rw [hI28] at hI0
     obtain ⟨u13, u17, u18, k14, hi, hk, hs, o15, lh16⟩ := hI0
     obtain ⟨x30, H, h31⟩ := loop_round hi
     try dsimp only at H
     unfold slices_DeleteFunc_string_string.s0 at H
     apply wp_seq_k; intro K32 hK32
     apply wp_seq_k; intro K33 hK33
     apply wp_region_lit
     refine sm _ rfl hk rfl rfl rfl fun a hk => ?_
     refine sm _ rfl hk rfl rfl rfl fun a hk => ?_
     refine sle rfl hk rfl rfl rfl un73 fun a hk => ?_
     refine sv (.bool (decide (u18 < (l0.length : Int)))) hk rfl rfl rfl fun a hk => ?_
     show wpList _ _ _ [] _ _
     refine wpList_nil ?_
     refine hK33 _ _ ?_
     rcases cond_some H with ⟨c34, H⟩ | ⟨c34, H⟩
     ·have hk := hk.lit 19 c34 rfl
      refine cnd_true hk rfl rfl ?_
      refine wp_skip ?_
      refine hK32 _ _ ?_
      apply wp_seq_k; intro K35 hK35
      refine wp_block ?_
      apply wp_seq_k; intro K36 hK36
      apply wp_region_lit
      refine sm _ rfl hk rfl rfl rfl fun a hk => ?_
      refine sm _ rfl hk rfl rfl rfl fun a hk => ?_
      rcases ite_some H with ⟨c37, H⟩ | ⟨_, H⟩
      rotate_left
      ·cases H
      obtain ⟨b38, q39, hAc37⟩ := (o15.view).some_ u18 c37.1 (by rw [lh16]; exact c37.2)
      refine si rfl hk rfl rfl rfl rfl un73 sz9 c37.1 c37.2 hAc37 fun a hk => ?_
      obtain ⟨_, rfl, e40⟩ := (o15.view).at_ ByteArray.empty u18 c37.1 (by rw [lh16]; exact c37.2)
      refine sl (v := (.string (u13.getD u18.toNat ByteArray.empty))) rfl hk rfl rfl rfl ag9 ((e40 0 _ rfl).cell (hs.hasG (k := 1) rfl)) fun a hk => ?_
      refine sa _ rfl hk rfl rfl rfl fun a hk => ?_
      show wpList _ _ _ [] _ _
      refine wpList_nil ?_
      refine hK36 _ _ ?_
      have hs := hs.pick [(1, 1)] rfl
      apply wp_seq_k; intro K41 hK41
      apply wp_region_lit
      refine sm _ rfl hk rfl rfl rfl fun a hk => ?_
      refine sm _ rfl hk rfl rfl rfl fun a hk => ?_
      obtain ⟨y42, h43, H⟩ := bind_some H
      refine scv (vs := ([(.string (u13.getD u18.toNat ByteArray.empty))] : List Value) ++ c1_) rfl rfl e1_ hk rfl rfl rfl (t1_ _ (hs.hasD (k := 2) rfl) (u13.getD u18.toNat ByteArray.empty) _ h43) ?_
      rintro _ w ⟨rfl, hG⟩ a hk
      have hs := hs.call0 hG
      refine sv (.bool (!y42)) hk rfl rfl rfl fun a hk => ?_
      show wpList _ _ _ [] _ _
      refine wpList_nil ?_
      refine hK41 _ _ ?_
      obtain ⟨o50, h51, HL52⟩ := bind_some H
      clear H
      obtain ⟨R53, hR53⟩ : ∃ R : Act → World → Prop, R = fun a w => ∃ (u45 : List ByteArray) (u49 : Int) (k46 : Chunk), (u45, u49) = o50 ∧ Kn [(0, (.slice A0_ l0.length p0_)), (1, (.func (.func f1_) #[] c1_.toArray)), (5, (.int .i64 u49)), (6, (.int .i64 u18))] 42 a ∧ Sat (blks [(1, k0_)]) w0 w [(2, k1_)] [(1, k46)] ∧ Own Lay.str 9 A0_ p0_ u45 k46 ∧ u45.length = l0.length := ⟨_, rfl⟩
      refine wp_cutq R53 ?_ ?_
      ·have H := h51
       rcases cond_some H with ⟨c54, H⟩ | ⟨c54, H⟩
       ·have hk := hk.lit 29 c54 rfl
        refine cnd_true hk rfl rfl ?_
        apply wp_seq_k; intro K55 hK55
        apply wp_region_lit
        refine sm _ rfl hk rfl rfl rfl fun a hk => ?_
        refine sm _ rfl hk rfl rfl rfl fun a hk => ?_
        refine sm _ rfl hk rfl rfl rfl fun a hk => ?_
        rcases ite_some H with ⟨c56, H⟩ | ⟨_, H⟩
        rotate_left
        ·cases H
        obtain ⟨b57, q58, hAc56⟩ := (o15.view).some_ u17 c56.1 (by rw [lh16]; exact c56.2)
        refine si rfl hk rfl rfl rfl rfl un73 sz9 c56.1 c56.2 hAc56 fun a hk => ?_
        refine so (j := 0) 1 ByteArray.empty (u13.getD u18.toNat ByteArray.empty) hs rfl o15 c56.1 (by rw [lh16]; exact c56.2) rfl hk rfl rfl rfl rfl rfl sz9 (by simp [Value.cells, Value.oneCell']) (Nat.le_of_ble_eq_true rfl) (fun _ _ h => ⟨by rw [h.1]; rfl, h.2⟩) fun k59 w a hk o60 hs => ?_
        have lh61 : (u13.set u17.toNat (u13.getD u18.toNat ByteArray.empty)).length = l0.length := by rw [List.length_set]; exact lh16
        show wpList _ _ _ [] _ _
        refine wpList_nil ?_
        refine hK55 _ _ ?_
        apply wp_region_lit
        refine sm _ rfl hk rfl rfl rfl fun a hk => ?_
        refine sv (.int .i64 (w64 (u17 + 1))) hk rfl rfl rfl fun a hk => ?_
        refine sa _ rfl hk rfl rfl rfl fun a hk => ?_
        show wpList _ _ _ [] _ _
        refine wpList_nil ?_
        obtain rfl := Option.some.inj H
        show R53 _ _
        rw [hR53]
        exact ⟨(u13.set u17.toNat (u13.getD u18.toNat ByteArray.empty)), (w64 (u17 + 1)), _, rfl, (hk.c 0 rfl (hk.c 1 rfl (hk.c 5 rfl (hk.c 6 rfl hk.k)))), (hs.pick [(1, 1)] rfl), o60, lh61⟩
       ·have hk := hk.lit 29 c54 rfl
        refine cnd_false hk rfl rfl ?_
        refine wp_skip ?_
        obtain rfl := Option.some.inj H
        show R53 _ _
        rw [hR53]
        exact ⟨u13, u17, _, rfl, (hk.c 0 rfl (hk.c 1 rfl (hk.c 5 rfl (hk.c 6 rfl hk.k)))), (hs.pick [(1, 1)] rfl), o15, lh16⟩
      ·intro a w hR0
       rw [hR53] at hR0
       obtain ⟨u45, u49, k46, rfl, hk, hs, o47, lh48⟩ := hR0
       have H := HL52
       try dsimp only at H
       refine hK35 _ _ ?_
       apply wp_region_lit
       refine sm _ rfl hk rfl rfl rfl fun a hk => ?_
       refine sv (.int .i64 (w64 (u18 + 1))) hk rfl rfl rfl fun a hk => ?_
       refine sa _ rfl hk rfl rfl rfl fun a hk => ?_
       show wpList _ _ _ [] _ _
       refine wpList_nil ?_
       obtain rfl := Option.some.inj H
       obtain ⟨m62, hmm62, h31⟩ := h31
       show ∃ n', n' < _ ∧ I28 n' _ _
       refine ⟨m62, hmm62, ?_⟩
       rw [hI28]
       exact ⟨u45, u49, (w64 (u18 + 1)), _, h31, (hk.c 0 rfl (hk.c 1 rfl (hk.c 5 rfl (hk.c 6 rfl hk.k)))), (hs.pick [(1, 1)] rfl), o47, lh48⟩
     ·have hk := hk.lit 19 c34 rfl
      refine cnd_false hk rfl rfl ?_
      refine wp_exit ?_
      obtain rfl := Option.some.inj H
      show R27 _ _
      rw [hR27]
      exact ⟨u13, u17, _, h31.symm, (hk.c 0 rfl (hk.c 5 rfl hk.k)), (hs.pick [(1, 1)] rfl), o15, lh16⟩
   ·intro a w hR0
    rw [hR27] at hR0
    obtain ⟨u19, u23, k20, rfl, hk, hs, o21, lh22⟩ := hR0
    have H := HL26
    try dsimp only at H
    refine hK9 _ _ ?_
    apply wp_seq_k; intro K63 hK63
    apply wp_region_lit
    refine sm _ rfl hk rfl rfl rfl fun a hk => ?_
    refine sm _ rfl hk rfl rfl rfl fun a hk => ?_
    rcases ite_some H with ⟨c64, H⟩ | ⟨_, H⟩
    rotate_left
    ·cases H
    refine sll_l rfl hk rfl rfl rfl rfl un73 sz9 c64.1 c64.2 fun a hk => ?_
    have v65 : View Lay.str (if p0_ = u23.toNat then A0_ else (A0_ : Option Addr).map (·.add (u23.toNat * 1))) (p0_ - u23.toNat) (u19.drop u23.toNat) k20 := (o21.view).dropv u23.toNat (by have := lh22; omega)
    have lh66 : (u19.drop u23.toNat).length = (l0.length - u23.toNat) := (by rw [List.length_drop]; rw [lh22])
    refine sclr 1 (xs := u19) (z := ByteArray.empty) (flat_flat : (Lay.str).Flat) hs rfl o21 rfl hk rfl rfl (by rw [lh22]) rfl un73 ze9 rfl rfl rfl (by exact ⟨rfl, rfl⟩) (by have := lh22; omega) fun k67 w a hk o68 hs => ?_
    have lh69 : (clrL u19 u23.toNat ByteArray.empty).length = l0.length := by rw [clrL_len _ (by have := lh22; omega)]; exact lh22
    show wpList _ _ _ [] _ _
    refine wpList_nil ?_
    refine hK63 _ _ ?_
    apply wp_seq_k; intro K70 hK70
    apply wp_region_lit
    refine sm _ rfl hk rfl rfl rfl fun a hk => ?_
    refine sm _ rfl hk rfl rfl rfl fun a hk => ?_
    rcases ite_some H with ⟨c71, H⟩ | ⟨_, H⟩
    rotate_left
    ·cases H
    refine sll_h rfl hk rfl rfl rfl rfl un73 sz9 c71.1 (by have := (o68.view).le_cap; have := lh69; omega) fun a hk => ?_
    have v72 : View Lay.str (if p0_ = 0 then A0_ else (A0_ : Option Addr).map (·.add (0 * 1))) (p0_ - 0) ((clrL u19 u23.toNat ByteArray.empty).take u23.toNat) k67 := (o68.view).takev u23.toNat (by have := lh69; omega)
    have lh73 : ((clrL u19 u23.toNat ByteArray.empty).take u23.toNat).length = (u23.toNat - 0) := (by rw [List.length_take]; have := lh69; omega)
    refine sa _ rfl hk rfl rfl rfl fun a hk => ?_
    show wpList _ _ _ [] _ _
    refine wpList_nil ?_
    refine hK70 _ _ ?_
    have hs := hs.pick [(1, 1)] rfl
    refine wp_ret ?_
    obtain ⟨k74, o75, hs⟩ := hs.cutRow 1 1 u23.toNat (flat_flat : (Lay.str).Flat) rfl o68 (by have := lh69; omega)
    obtain rfl := Option.some.inj H
    exact fin hk _ [(.slice (if p0_ = 0 then A0_ else (A0_ : Option Addr).map (·.add (0 * 1))) (u23.toNat - 0) (p0_ - 0))] rfl ⟨rfl, trivial⟩ ⟨(if p0_ = 0 then A0_ else (A0_ : Option Addr).map (·.add (0 * 1))), (p0_ - 0), _, (by first | (rw [lh73]; done) | (rw [lh73]; rfl)), o75, (hs.pick [(0, 1)] rfl).dnil⟩

def split_ren : Go.Shelf.Ren := ⟨fun | 146 => 84 | 221 => 100 | 268 => 110 | 138 => 111 | 143 => 112 | 195 => 123 | 197 => 124 | 218 => 125 | 219 => 126 | 260 => 138 | 217 => 139 | 225 => 140 | 224 => 141 | 267 => 142 | 266 => 148 | 314 => 149 | n => n, fun | 9 => 9 | 31 => 73 | 3 => 3 | 4 => 4 | 0 => 0 | 105 => 127 | 21 => 21 | 5 => 5 | 46 => 141 | 119 => 150 | 139 => 153 | 138 => 152 | 146 => 154 | 51 => 139 | n => n, fun | 1 => 1 | 3 => 4 | 4 => 5 | n => n⟩
theorem split_lays : Go.Proofs.Lays.n146 Tryd.prog split_ren := {
  mixed := by kernel_rfl
  f138 := Tryd.func111.trans (congrArg some (by kernel_rfl))
  f143 := Tryd.func112.trans (congrArg some (by kernel_rfl))
  f146 := Tryd.func84.trans (congrArg some (by kernel_rfl))
  f195 := Tryd.func123.trans (congrArg some (by kernel_rfl))
  f197 := Tryd.func124.trans (congrArg some (by kernel_rfl))
  f217 := Tryd.func139.trans (congrArg some (by kernel_rfl))
  f218 := Tryd.func125.trans (congrArg some (by kernel_rfl))
  f219 := Tryd.func126.trans (congrArg some (by kernel_rfl))
  f221 := Tryd.func100.trans (congrArg some (by kernel_rfl))
  f224 := Tryd.func141.trans (congrArg some (by kernel_rfl))
  f225 := Tryd.func140.trans (congrArg some (by kernel_rfl))
  f260 := Tryd.func138.trans (congrArg some (by kernel_rfl))
  f266 := Tryd.func148.trans (congrArg some (by kernel_rfl))
  f267 := Tryd.func142.trans (congrArg some (by kernel_rfl))
  f268 := Tryd.func110.trans (congrArg some (by kernel_rfl))
  f314 := Tryd.func149.trans (congrArg some (by kernel_rfl))
  t0 := Tryd.underlying0
  a0 := Tryd.isAgg0
  z0 := Tryd.sizeOf0
  v0 := Tryd.zeroValue0
  t3 := Tryd.underlying3
  a3 := Tryd.isAgg3
  z3 := Tryd.sizeOf3
  v3 := Tryd.zeroValue3
  t4 := Tryd.underlying4
  a4 := Tryd.isAgg4
  z4 := Tryd.sizeOf4
  v4 := Tryd.zeroValue4
  t5 := Tryd.underlying5
  a5 := Tryd.isAgg5
  z5 := Tryd.sizeOf5
  v5 := Tryd.zeroValue5
  t9 := Tryd.underlying9
  a9 := Tryd.isAgg9
  z9 := Tryd.sizeOf9
  v9 := Tryd.zeroValue9
  t21 := Tryd.underlying21
  a21 := Tryd.isAgg21
  z21 := Tryd.sizeOf21
  v21 := Tryd.zeroValue21
  t31 := Tryd.underlying73
  a31 := Tryd.isAgg73
  z31 := Tryd.sizeOf73
  v31 := Tryd.zeroValue73
  t46 := Tryd.underlying141
  a46 := Tryd.isAgg141
  z46 := Tryd.sizeOf141
  v46 := Tryd.zeroValue141
  t51 := Tryd.underlying139
  a51 := Tryd.isAgg139
  z51 := Tryd.sizeOf139
  v51 := Tryd.zeroValue139
  t105 := Tryd.underlying127
  a105 := Tryd.isAgg127
  z105 := Tryd.sizeOf127
  v105 := Tryd.zeroValue127
  t119 := Tryd.underlying150
  a119 := Tryd.isAgg150
  z119 := Tryd.sizeOf150
  t138 := Tryd.underlying152
  a138 := Tryd.isAgg152
  z138 := Tryd.sizeOf152
  v138 := Tryd.zeroValue152
  t139 := Tryd.underlying153
  a139 := Tryd.isAgg153
  z139 := Tryd.sizeOf153
  v139 := Tryd.zeroValue153
  t146 := Tryd.underlying154
  a146 := Tryd.isAgg154
  z146 := Tryd.sizeOf154
  v146 := Tryd.zeroValue154
  g1 := by kernel_rfl
  g3 := by kernel_rfl
  g4 := by kernel_rfl }
open Go.RowKit Go.Lib in
theorem split_shelf (s sep : ByteArray) (m : Int) (w : World) (hs : s.size < 4294967281) (hm : w.cell? ⟨1, 0, none⟩ = some (.int .i64 m)) (h1 : 1 ≤ sep.size) :
    Calls Tryd.prog 84 #[.string s, .string sep] w fun e w' =>
      e = .returned (.slice (some ⟨w.heap.size, 0, none⟩) (Lib.countB s sep + 1) (Lib.countB s sep + 1)) ∧ w' = w.alloc (.cells ((Lib.splitB sep 0 (Lib.countB s sep) s).map Value.string).toArray 9) := Any.strings_Split split_lays (by kernel_rfl) s sep m w hs hm h1
noncomputable def strings_Split.f (x0 x1 : ByteArray) : Option (List ByteArray) := if x0.size < 4294967281 ∧ 1 ≤ x1.size then some (Lib.splitB x1 0 (Lib.countB x0 x1) x0) else none
theorem gMaxLen : Tryd.prog.globalNamed "internal/bytealg.MaxLen" = some 1 := by kernel_rfl
theorem strings_Split_t (w0 : World) (x0 x1 : ByteArray) (kT : Chunk) (tT : TabR Tryd.prog kT) (wT : Has w0 kT) (r : List ByteArray) (H : strings_Split.f x0 x1 = some r) :
    Calls Tryd.prog 84 #[.string x0, .string x1] w0 (Ret (fun v w => ∃ (A0 : Option Addr) (p0 : Nat) (k0 : Chunk), v = .slice A0 r.length p0 ∧ Own Lay.str 9 A0 p0 r k0 ∧ Sat [] w0 w [] [(0, k0)])) := by
  unfold strings_Split.f at H
  rcases ite_some H with ⟨⟨h1, h2⟩, H⟩ | ⟨_, H⟩
  rotate_left
  · cases H
  obtain rfl := Option.some.inj H
  obtain ⟨v, hv, m, hm0⟩ := tT.mx w0 wT
  have hm : w0.cell? ⟨1, 0, none⟩ = some (.int .i64 m) := (World.var?_cell gMaxLen hv 0).trans hm0
  have hl := Lib.splitB_all x1 h2 0 (Lib.countB x0 x1) x0 rfl
  have hc := Lib.countB_le x1 h2 x0.size x0 (Nat.le_refl _)
  refine (split_shelf x0 x1 m w0 h1 hm h2).mono ?_
  rintro e w' ⟨rfl, rfl⟩
  rw [← hl]
  exact ⟨_, rfl, _, _, _, rfl, own_strs _ (by rw [hl]; have : maxLen = 9223372036854775807 := rfl; omega), (F.refl w0 : Sat [] w0 w0 [] []).alloc 0 _⟩

noncomputable def impl_wordsOf_c1.f (x0 : ByteArray) : Option (Bool) :=
  (some (x0.toList == (⟨#[]⟩ : ByteArray).toList))
set_option maxRecDepth 100000 in
set_option maxHeartbeats 0 in
theorem impl_wordsOf_c1_t (w0 : World) (x0 : ByteArray) (r : Bool) (H : impl_wordsOf_c1.f x0 = some r) :
    Calls Tryd.prog 85 #[.string x0] w0 (Ret (fun v w => v = .bool r ∧ Sat [] w0 w [] [])) := by
  have hs : Sat [] w0 w0 [] [] := Sat.init w0 [] [] (by simp) (by simp) List.nodup_nil (by simp [blks])
  unfold impl_wordsOf_c1.f at H
  refine enter Tryd.func85 rfl Tryd.ntmps85 rfl fun a hk => ?_
  apply wp_seq_k; intro K1 hK1
  apply wp_region_lit
  refine sa _ rfl hk rfl rfl rfl fun a hk => ?_
  show wpList _ _ _ [] _ _
  refine wpList_nil ?_
  refine hK1 _ _ ?_
  apply wp_seq_k; intro K2 hK2
  apply wp_region_lit
  refine sm _ rfl hk rfl rfl rfl fun a hk => ?_
  refine sv (.bool (x0.toList == (⟨#[]⟩ : ByteArray).toList)) hk rfl rfl rfl fun a hk => ?_
  refine sa _ rfl hk rfl rfl rfl fun a hk => ?_
  show wpList _ _ _ [] _ _
  refine wpList_nil ?_
  refine hK2 _ _ ?_
  refine wp_ret ?_
  obtain rfl := Option.some.inj H
  exact fin hk _ [(.bool (x0.toList == (⟨#[]⟩ : ByteArray).toList))] rfl ⟨rfl, trivial⟩ ⟨rfl, (hs.pick [] rfl).dnil⟩

noncomputable def impl_wordsOf.f (x0 : ByteArray) : Option ((List ByteArray)) :=
  ((strings_Split.f x0 (⟨#[32]⟩ : ByteArray)).bind fun y3 => ((slices_DeleteFunc_string_string.f y3 impl_wordsOf_c1.f).bind fun y9 => (some y9)))
set_option maxRecDepth 100000 in
set_option maxHeartbeats 0 in
theorem impl_wordsOf_t (w0 : World) (x0 : ByteArray) (kT : Chunk) (tT : TabR Tryd.prog kT) (wT : Has w0 kT) (r : (List ByteArray)) (H : impl_wordsOf.f x0 = some r) :
    Calls Tryd.prog 52 #[.string x0] w0 (Ret (fun v w => ∃ (A0 : Option Addr) (p0 : Nat) (k0 : Chunk), v = .slice A0 r.length p0 ∧ Own Lay.str 9 A0 p0 r k0 ∧ Sat [] w0 w [] [(0, k0)])) := by
  have hs : Sat [] w0 w0 [(1, kT)] [] := Sat.init w0 [(1, kT)] [] (by simp only [List.mem_cons, List.not_mem_nil, or_false]; rintro x (rfl) <;> assumption) (by simp) List.nodup_nil (by simp [blks])
  unfold impl_wordsOf.f at H
  refine enter Tryd.func52 rfl Tryd.ntmps52 rfl fun a hk => ?_
  apply wp_seq_k; intro K1 hK1
  apply wp_region_lit
  refine sa _ rfl hk rfl rfl rfl fun a hk => ?_
  show wpList _ _ _ [] _ _
  refine wpList_nil ?_
  refine hK1 _ _ ?_
  apply wp_seq_k; intro K2 hK2
  apply wp_region_lit
  refine sm _ rfl hk rfl rfl rfl fun a hk => ?_
  obtain ⟨y3, h4, H⟩ := bind_some H
  refine sc rfl en84 hk rfl rfl rfl (strings_Split_t _ x0 (⟨#[32]⟩ : ByteArray) kT tT (hs.hasD (k := 1) rfl) _ h4) ?_
  rintro _ w ⟨A5, p6, k7, rfl, o8, hG⟩ a hk
  have hs := hs.call0k hG [2] rfl
  obtain ⟨y9, h10, H⟩ := bind_some H
  refine sc rfl en83 hk rfl rfl rfl (slices_DeleteFunc_string_string_t _ A5 p6 y3 _ o8 85 [] en85 impl_wordsOf_c1.f [] (fun w _ z0 r h => impl_wordsOf_c1_t w z0 r h) (Has.nil _) (((hs.hand [(1, 2)] rfl).dnilk 2003).dpick [(2, 2003)] rfl) _ h10) ?_
  rintro _ w ⟨A11, p12, k13, rfl, o14, hG⟩ a hk
  have hs := hs.back [(1, 2)] rfl hG [4] rfl
  refine sa _ rfl hk rfl rfl rfl fun a hk => ?_
  show wpList _ _ _ [] _ _
  refine wpList_nil ?_
  refine hK2 _ _ ?_
  refine wp_ret ?_
  obtain rfl := Option.some.inj H
  exact fin hk _ [(.slice A11 y9.length p12)] rfl ⟨rfl, trivial⟩ ⟨A11, p12, _, rfl, o14, (hs.pick [(0, 4)] rfl).dnil⟩

def itoa_ren : Go.Shelf.Ren := ⟨fun | 171 => 65 | 243 => 88 | 246 => 103 | 283 => 116 | 284 => 117 | 285 => 118 | 286 => 119 | 129 => 134 | 317 => 133 | 318 => 135 | 319 => 136 | 320 => 137 | 337 => 146 | 338 => 147 | n => n, fun | 3 => 3 | 9 => 9 | 2 => 2 | 4 => 4 | 171 => 117 | 0 => 0 | 53 => 118 | 37 => 96 | 5 => 5 | 173 => 121 | 212 => 138 | 51 => 139 | 20 => 20 | 213 => 140 | 46 => 141 | 232 => 160 | 233 => 161 | n => n, fun | 17 => 0 | 18 => 6 | 19 => 7 | n => n⟩
theorem itoa_lays : Go.Proofs.LaysM.n171 Tryd.prog itoa_ren := {
  mixed := by kernel_rfl
  f129 := Tryd.func134.trans (congrArg some (by kernel_rfl))
  f171 := Tryd.func65.trans (congrArg some (by kernel_rfl))
  f243 := Tryd.func88.trans (congrArg some (by kernel_rfl))
  f246 := Tryd.func103.trans (congrArg some (by kernel_rfl))
  f283 := Tryd.func116.trans (congrArg some (by kernel_rfl))
  f284 := Tryd.func117.trans (congrArg some (by kernel_rfl))
  f285 := Tryd.func118.trans (congrArg some (by kernel_rfl))
  f286 := Tryd.func119.trans (congrArg some (by kernel_rfl))
  f317 := Tryd.func133.trans (congrArg some (by kernel_rfl))
  f318 := Tryd.func135.trans (congrArg some (by kernel_rfl))
  f319 := Tryd.func136.trans (congrArg some (by kernel_rfl))
  f320 := Tryd.func137.trans (congrArg some (by kernel_rfl))
  f337 := Tryd.func146.trans (congrArg some (by kernel_rfl))
  f338 := Tryd.func147.trans (congrArg some (by kernel_rfl))
  t0 := Tryd.underlying0
  a0 := Tryd.isAgg0
  z0 := Tryd.sizeOf0
  v0 := Tryd.zeroValue0
  t2 := Tryd.underlying2
  a2 := Tryd.isAgg2
  z2 := Tryd.sizeOf2
  v2 := Tryd.zeroValue2
  t3 := Tryd.underlying3
  a3 := Tryd.isAgg3
  z3 := Tryd.sizeOf3
  v3 := Tryd.zeroValue3
  t4 := Tryd.underlying4
  a4 := Tryd.isAgg4
  z4 := Tryd.sizeOf4
  v4 := Tryd.zeroValue4
  t5 := Tryd.underlying5
  a5 := Tryd.isAgg5
  z5 := Tryd.sizeOf5
  v5 := Tryd.zeroValue5
  t9 := Tryd.underlying9
  a9 := Tryd.isAgg9
  z9 := Tryd.sizeOf9
  v9 := Tryd.zeroValue9
  t20 := Tryd.underlying20
  a20 := Tryd.isAgg20
  z20 := Tryd.sizeOf20
  v20 := Tryd.zeroValue20
  t37 := Tryd.underlying96
  a37 := Tryd.isAgg96
  z37 := Tryd.sizeOf96
  v37 := Tryd.zeroValue96
  t46 := Tryd.underlying141
  a46 := Tryd.isAgg141
  z46 := Tryd.sizeOf141
  v46 := Tryd.zeroValue141
  t51 := Tryd.underlying139
  a51 := Tryd.isAgg139
  z51 := Tryd.sizeOf139
  v51 := Tryd.zeroValue139
  t53 := Tryd.underlying118
  a53 := Tryd.isAgg118
  z53 := Tryd.sizeOf118
  v53 := Tryd.zeroValue118
  t171 := Tryd.underlying117
  a171 := Tryd.isAgg117
  z171 := Tryd.sizeOf117
  v171 := Tryd.zeroValue117
  t173 := Tryd.underlying121
  a173 := Tryd.isAgg121
  z173 := Tryd.sizeOf121
  v173 := Tryd.zeroValue121
  t212 := Tryd.underlying138
  a212 := Tryd.isAgg138
  z212 := Tryd.sizeOf138
  v212 := Tryd.zeroValue138
  t213 := Tryd.underlying140
  a213 := Tryd.isAgg140
  z213 := Tryd.sizeOf140
  t232 := Tryd.underlying160
  a232 := Tryd.isAgg160
  z232 := Tryd.sizeOf160
  v232 := Tryd.zeroValue160
  t233 := Tryd.underlying161
  a233 := Tryd.isAgg161
  z233 := Tryd.sizeOf161
  v233 := Tryd.zeroValue161
  g17 := by kernel_rfl
  g18 := by kernel_rfl
  g19 := by kernel_rfl
  i0 := by kernel_rfl
  i2 := by kernel_rfl
  i3 := by kernel_rfl
  i4 := by kernel_rfl
  i5 := by kernel_rfl
  i9 := by kernel_rfl
  i20 := by kernel_rfl
  i37 := by kernel_rfl
  i46 := by kernel_rfl
  i51 := by kernel_rfl
  i53 := by kernel_rfl
  i171 := by kernel_rfl
  i173 := by kernel_rfl
  i212 := by kernel_rfl
  i232 := by kernel_rfl
  i233 := by kernel_rfl
  m17 := by kernel_rfl
  m18 := by kernel_rfl
  m19 := by kernel_rfl }
open Go.RowKit Go.Sort Go.Lib in
theorem itoa_shelf (n : Int) (h0 : -9223372036854775808 ≤ n) (h1 : n ≤ 9223372036854775807) (w : World) (htab : Lib.TabIs Tryd.prog w "internal/strconv.uint64pow10" .u64 Lib.pow10Tab) :
    Calls Tryd.prog 65 #[.int .i64 n] w fun e w' => e = .returned (.string ⟨(Lib.itoa n).toArray⟩) ∧ ∃ k os, w' = grow (w.drewN k) os := Any.strconv_Itoa itoa_lays n h0 h1 w htab
noncomputable def strconv_Itoa.f (x0 : Int) : Option ByteArray := if -9223372036854775808 ≤ x0 ∧ x0 ≤ 9223372036854775807 then some (itoaB x0) else none
theorem strconv_Itoa_t (w0 : World) (x0 : Int) (kT : Chunk) (tT : TabR Tryd.prog kT) (wT : Has w0 kT) (r : ByteArray) (H : strconv_Itoa.f x0 = some r) :
    Calls Tryd.prog 65 #[.int .i64 x0] w0 (Ret (fun v w => v = .string r ∧ Sat [] w0 w [] [])) := by
  unfold strconv_Itoa.f at H
  rcases ite_some H with ⟨h, H⟩ | ⟨_, H⟩
  rotate_left
  · cases H
  obtain rfl := Option.some.inj H
  refine (itoa_shelf x0 h.1 h.2 w0 (tT.pow _ wT)).mono ?_
  rintro e w' ⟨rfl, k, os, rfl⟩
  exact ⟨_, rfl, rfl, sat_grown _ _ _⟩

noncomputable def internal_stringslite_HasPrefix.f (x0 : ByteArray) (x1 : ByteArray) : Option (Bool) :=
  (((bif (decide ((x0.size : Int) ≥ (x1.size : Int))) then (if 0 ≤ (x1.size : Int) ∧ (x1.size : Int) ≤ (x0.size : Int) then (some ((x0.extract 0 (x1.size : Int).toNat).toList == x1.toList)) else none) else (some false)) : Option (Bool)).bind fun u4 => (some u4))
set_option maxRecDepth 100000 in
set_option maxHeartbeats 0 in
theorem internal_stringslite_HasPrefix_t (w0 : World) (x0 : ByteArray) (x1 : ByteArray) (r : Bool) (H : internal_stringslite_HasPrefix.f x0 x1 = some r) :
    Calls Tryd.prog 127 #[.string x0, .string x1] w0 (Ret (fun v w => v = .bool r ∧ Sat [] w0 w [] [])) := by
  have hs : Sat [] w0 w0 [] [] := Sat.init w0 [] [] (by simp) (by simp) List.nodup_nil (by simp [blks])
  unfold internal_stringslite_HasPrefix.f at H
  refine enter Tryd.func127 rfl Tryd.ntmps127 rfl fun a hk => ?_
  apply wp_seq_k; intro K1 hK1
  apply wp_region_lit
  refine sa _ rfl hk rfl rfl rfl fun a hk => ?_
  show wpList _ _ _ [] _ _
  refine wpList_nil ?_
  refine hK1 _ _ ?_
  apply wp_seq_k; intro K2 hK2
  obtain ⟨o5, h6, HL7⟩ := bind_some H
  clear H
  obtain ⟨R8, hR8⟩ : ∃ R : Act → World → Prop, R = fun a w => ∃ (u4 : Bool), u4 = o5 ∧ Kn [(4, (.bool u4))] 18 a ∧ Sat [] w0 w [] [] := ⟨_, rfl⟩
  refine wp_cutq R8 ?_ ?_
  ·have H := h6
   apply wp_region_lit
   refine sm _ rfl hk rfl rfl rfl fun a hk => ?_
   refine sles rfl hk rfl rfl rfl un9 fun a hk => ?_
   refine sm _ rfl hk rfl rfl rfl fun a hk => ?_
   refine sles rfl hk rfl rfl rfl un9 fun a hk => ?_
   refine sv (.bool (decide ((x0.size : Int) ≥ (x1.size : Int)))) hk rfl rfl rfl fun a hk => ?_
   refine sm _ rfl hk rfl rfl rfl fun a hk => ?_
   rcases cond_some H with ⟨c9, H⟩ | ⟨c9, H⟩
   ·have hk := hk.lit 10 c9 rfl
    refine sm _ rfl hk rfl rfl rfl fun a hk => ?_
    refine sm _ rfl hk rfl rfl rfl fun a hk => ?_
    refine sles rfl hk rfl rfl rfl un9 fun a hk => ?_
    rcases ite_some H with ⟨c10, H⟩ | ⟨_, H⟩
    rotate_left
    ·cases H
    refine ssl_h rfl hk rfl rfl rfl rfl un9 c10.1 c10.2 fun a hk => ?_
    refine sm _ rfl hk rfl rfl rfl fun a hk => ?_
    refine sv (.bool ((x0.extract 0 (x1.size : Int).toNat).toList == x1.toList)) hk rfl rfl rfl fun a hk => ?_
    refine sv (.bool ((x0.extract 0 (x1.size : Int).toNat).toList == x1.toList)) hk rfl rfl rfl fun a hk => ?_
    refine sa _ rfl hk rfl rfl rfl fun a hk => ?_
    show wpList _ _ _ [] _ _
    refine wpList_nil ?_
    obtain rfl := Option.some.inj H
    show R8 _ _
    rw [hR8]
    exact ⟨((x0.extract 0 (x1.size : Int).toNat).toList == x1.toList), rfl, (hk.c 4 rfl hk.k), (hs.pick [] rfl)⟩
   ·have hk := hk.lit 10 c9 rfl
    refine sk hk rfl rfl rfl fun a hk => ?_
    refine sk hk rfl rfl rfl fun a hk => ?_
    refine sk hk rfl rfl rfl fun a hk => ?_
    refine sk hk rfl rfl rfl fun a hk => ?_
    refine sk hk rfl rfl rfl fun a hk => ?_
    refine sk hk rfl rfl rfl fun a hk => ?_
    refine sv (.bool false) hk rfl rfl rfl fun a hk => ?_
    refine sa _ rfl hk rfl rfl rfl fun a hk => ?_
    show wpList _ _ _ [] _ _
    refine wpList_nil ?_
    obtain rfl := Option.some.inj H
    show R8 _ _
    rw [hR8]
    exact ⟨false, rfl, (hk.c 4 rfl hk.k), (hs.pick [] rfl)⟩
  ·intro a w hR0
   rw [hR8] at hR0
   obtain ⟨u4, rfl, hk, hs⟩ := hR0
   have H := HL7
   try dsimp only at H
   refine hK2 _ _ ?_
   refine wp_ret ?_
   obtain rfl := Option.some.inj H
   exact fin hk _ [(.bool u4)] rfl ⟨rfl, trivial⟩ ⟨rfl, (hs.pick [] rfl).dnil⟩

noncomputable def internal_stringslite_TrimPrefix.f (x0 : ByteArray) (x1 : ByteArray) : Option (ByteArray) :=
  ((internal_stringslite_HasPrefix.f x0 x1).bind fun y4 => (bif y4 then (if 0 ≤ (x1.size : Int) ∧ (x1.size : Int) ≤ (x0.size : Int) then (some (x0.extract (x1.size : Int).toNat x0.size)) else none) else (some x0)))
set_option maxRecDepth 100000 in
set_option maxHeartbeats 0 in
theorem internal_stringslite_TrimPrefix_t (w0 : World) (x0 : ByteArray) (x1 : ByteArray) (r : ByteArray) (H : internal_stringslite_TrimPrefix.f x0 x1 = some r) :
    Calls Tryd.prog 113 #[.string x0, .string x1] w0 (Ret (fun v w => v = .string r ∧ Sat [] w0 w [] [])) := by
  have hs : Sat [] w0 w0 [] [] := Sat.init w0 [] [] (by simp) (by simp) List.nodup_nil (by simp [blks])
  unfold internal_stringslite_TrimPrefix.f at H
  refine enter Tryd.func113 rfl Tryd.ntmps113 rfl fun a hk => ?_
  apply wp_seq_k; intro K1 hK1
  apply wp_region_lit
  refine sa _ rfl hk rfl rfl rfl fun a hk => ?_
  show wpList _ _ _ [] _ _
  refine wpList_nil ?_
  refine hK1 _ _ ?_
  apply wp_seq_k; intro K2 hK2
  apply wp_seq_k; intro K3 hK3
  apply wp_region_lit
  refine sm _ rfl hk rfl rfl rfl fun a hk => ?_
  refine sm _ rfl hk rfl rfl rfl fun a hk => ?_
  obtain ⟨y4, h5, H⟩ := bind_some H
  refine sc rfl en127 hk rfl rfl rfl (internal_stringslite_HasPrefix_t _ x0 x1 _ h5) ?_
  rintro _ w ⟨rfl, hG⟩ a hk
  have hs := hs.call0 hG
  show wpList _ _ _ [] _ _
  refine wpList_nil ?_
  refine hK3 _ _ ?_
  rcases cond_some H with ⟨c6, H⟩ | ⟨c6, H⟩
  ·have hk := hk.lit 7 c6 rfl
   refine cnd_true hk rfl rfl ?_
   apply wp_seq_k; intro K7 hK7
   apply wp_region_lit
   refine sm _ rfl hk rfl rfl rfl fun a hk => ?_
   refine sm _ rfl hk rfl rfl rfl fun a hk => ?_
   refine sles rfl hk rfl rfl rfl un9 fun a hk => ?_
   rcases ite_some H with ⟨c8, H⟩ | ⟨_, H⟩
   rotate_left
   ·cases H
   refine ssl_l rfl hk rfl rfl rfl rfl un9 c8.1 c8.2 fun a hk => ?_
   refine sa _ rfl hk rfl rfl rfl fun a hk => ?_
   show wpList _ _ _ [] _ _
   refine wpList_nil ?_
   refine hK7 _ _ ?_
   refine wp_ret ?_
   obtain rfl := Option.some.inj H
   exact fin hk _ [(.string (x0.extract (x1.size : Int).toNat x0.size))] rfl ⟨rfl, trivial⟩ ⟨rfl, (hs.pick [] rfl).dnil⟩
  ·have hk := hk.lit 7 c6 rfl
   refine cnd_false hk rfl rfl ?_
   refine wp_skip ?_
   refine hK2 _ _ ?_
   apply wp_seq_k; intro K9 hK9
   apply wp_region_lit
   refine sm _ rfl hk rfl rfl rfl fun a hk => ?_
   refine sa _ rfl hk rfl rfl rfl fun a hk => ?_
   show wpList _ _ _ [] _ _
   refine wpList_nil ?_
   refine hK9 _ _ ?_
   have hs := hs.pick [] rfl
   refine wp_ret ?_
   obtain rfl := Option.some.inj H
   exact fin hk _ [(.string x0)] rfl ⟨rfl, trivial⟩ ⟨rfl, (hs.pick [] rfl).dnil⟩

noncomputable def strings_TrimPrefix.f (x0 : ByteArray) (x1 : ByteArray) : Option (ByteArray) :=
  ((internal_stringslite_TrimPrefix.f x0 x1).bind fun y3 => (some y3))
set_option maxRecDepth 100000 in
set_option maxHeartbeats 0 in
theorem strings_TrimPrefix_t (w0 : World) (x0 : ByteArray) (x1 : ByteArray) (r : ByteArray) (H : strings_TrimPrefix.f x0 x1 = some r) :
    Calls Tryd.prog 101 #[.string x0, .string x1] w0 (Ret (fun v w => v = .string r ∧ Sat [] w0 w [] [])) := by
  have hs : Sat [] w0 w0 [] [] := Sat.init w0 [] [] (by simp) (by simp) List.nodup_nil (by simp [blks])
  unfold strings_TrimPrefix.f at H
  refine enter Tryd.func101 rfl Tryd.ntmps101 rfl fun a hk => ?_
  apply wp_seq_k; intro K1 hK1
  apply wp_region_lit
  refine sa _ rfl hk rfl rfl rfl fun a hk => ?_
  show wpList _ _ _ [] _ _
  refine wpList_nil ?_
  refine hK1 _ _ ?_
  apply wp_seq_k; intro K2 hK2
  apply wp_region_lit
  refine sm _ rfl hk rfl rfl rfl fun a hk => ?_
  refine sm _ rfl hk rfl rfl rfl fun a hk => ?_
  obtain ⟨y3, h4, H⟩ := bind_some H
  refine sc rfl en113 hk rfl rfl rfl (internal_stringslite_TrimPrefix_t _ x0 x1 _ h4) ?_
  rintro _ w ⟨rfl, hG⟩ a hk
  have hs := hs.call0 hG
  refine sa _ rfl hk rfl rfl rfl fun a hk => ?_
  show wpList _ _ _ [] _ _
  refine wpList_nil ?_
  refine hK2 _ _ ?_
  refine wp_ret ?_
  obtain rfl := Option.some.inj H
  exact fin hk _ [(.string y3)] rfl ⟨rfl, trivial⟩ ⟨rfl, (hs.pick [] rfl).dnil⟩

def atoi_ren : Go.Shelf.Ren := ⟨fun | 172 => 102 | 244 => 114 | 245 => 115 | 247 => 128 | 279 => 129 | 280 => 130 | 281 => 131 | 282 => 132 | 287 => 143 | 316 => 144 | 171 => 65 | 205 => 145 | 321 => 150 | 322 => 151 | 243 => 88 | 246 => 103 | 283 => 116 | 284 => 117 | 285 => 118 | 286 => 119 | 129 => 134 | 317 => 133 | 318 => 135 | 319 => 136 | 320 => 137 | 337 => 146 | 338 => 147 | n => n, fun | 9 => 9 | 3 => 3 | 75 => 103 | 76 => 104 | 4 => 4 | 5 => 5 | 167 => 131 | 37 => 96 | 0 => 0 | 85 => 132 | 2 => 2 | 168 => 134 | 53 => 118 | 175 => 143 | 46 => 141 | 210 => 147 | 127 => 113 | 145 => 159 | 143 => 157 | 21 => 21 | 171 => 117 | 173 => 121 | 212 => 138 | 51 => 139 | 20 => 20 | 213 => 140 | 232 => 160 | 233 => 161 | 80 => 106 | n => n, fun | 15 => 2 | 16 => 3 | 17 => 0 | 18 => 6 | 19 => 7 | n => n⟩
theorem atoi_lays : Go.Proofs.LaysC.n172 Tryd.prog atoi_ren := {
  mixed := by kernel_rfl
  f129 := Tryd.func134.trans (congrArg some (by kernel_rfl))
  f171 := Tryd.func65.trans (congrArg some (by kernel_rfl))
  f172 := Tryd.func102.trans (congrArg some (by kernel_rfl))
  f205 := Tryd.func145.trans (congrArg some (by kernel_rfl))
  f243 := Tryd.func88.trans (congrArg some (by kernel_rfl))
  f244 := Tryd.func114.trans (congrArg some (by kernel_rfl))
  f245 := Tryd.func115.trans (congrArg some (by kernel_rfl))
  f246 := Tryd.func103.trans (congrArg some (by kernel_rfl))
  f247 := Tryd.func128.trans (congrArg some (by kernel_rfl))
  f279 := Tryd.func129.trans (congrArg some (by kernel_rfl))
  f280 := Tryd.func130.trans (congrArg some (by kernel_rfl))
  f281 := Tryd.func131.trans (congrArg some (by kernel_rfl))
  f282 := Tryd.func132.trans (congrArg some (by kernel_rfl))
  f283 := Tryd.func116.trans (congrArg some (by kernel_rfl))
  f284 := Tryd.func117.trans (congrArg some (by kernel_rfl))
  f285 := Tryd.func118.trans (congrArg some (by kernel_rfl))
  f286 := Tryd.func119.trans (congrArg some (by kernel_rfl))
  f287 := Tryd.func143.trans (congrArg some (by kernel_rfl))
  f316 := Tryd.func144.trans (congrArg some (by kernel_rfl))
  f317 := Tryd.func133.trans (congrArg some (by kernel_rfl))
  f318 := Tryd.func135.trans (congrArg some (by kernel_rfl))
  f319 := Tryd.func136.trans (congrArg some (by kernel_rfl))
  f320 := Tryd.func137.trans (congrArg some (by kernel_rfl))
  f321 := Tryd.func150.trans (congrArg some (by kernel_rfl))
  f322 := Tryd.func151.trans (congrArg some (by kernel_rfl))
  f337 := Tryd.func146.trans (congrArg some (by kernel_rfl))
  f338 := Tryd.func147.trans (congrArg some (by kernel_rfl))
  t0 := Tryd.underlying0
  a0 := Tryd.isAgg0
  z0 := Tryd.sizeOf0
  v0 := Tryd.zeroValue0
  t2 := Tryd.underlying2
  a2 := Tryd.isAgg2
  z2 := Tryd.sizeOf2
  v2 := Tryd.zeroValue2
  t3 := Tryd.underlying3
  a3 := Tryd.isAgg3
  z3 := Tryd.sizeOf3
  v3 := Tryd.zeroValue3
  t4 := Tryd.underlying4
  a4 := Tryd.isAgg4
  z4 := Tryd.sizeOf4
  v4 := Tryd.zeroValue4
  t5 := Tryd.underlying5
  a5 := Tryd.isAgg5
  z5 := Tryd.sizeOf5
  v5 := Tryd.zeroValue5
  t9 := Tryd.underlying9
  a9 := Tryd.isAgg9
  z9 := Tryd.sizeOf9
  v9 := Tryd.zeroValue9
  t20 := Tryd.underlying20
  a20 := Tryd.isAgg20
  z20 := Tryd.sizeOf20
  v20 := Tryd.zeroValue20
  t21 := Tryd.underlying21
  a21 := Tryd.isAgg21
  z21 := Tryd.sizeOf21
  v21 := Tryd.zeroValue21
  t37 := Tryd.underlying96
  a37 := Tryd.isAgg96
  z37 := Tryd.sizeOf96
  v37 := Tryd.zeroValue96
  t46 := Tryd.underlying141
  a46 := Tryd.isAgg141
  z46 := Tryd.sizeOf141
  v46 := Tryd.zeroValue141
  t51 := Tryd.underlying139
  a51 := Tryd.isAgg139
  z51 := Tryd.sizeOf139
  v51 := Tryd.zeroValue139
  t53 := Tryd.underlying118
  a53 := Tryd.isAgg118
  z53 := Tryd.sizeOf118
  v53 := Tryd.zeroValue118
  t75 := Tryd.underlying103
  a75 := Tryd.isAgg103
  z75 := Tryd.sizeOf103
  v75 := Tryd.zeroValue103
  t76 := Tryd.underlying104
  a76 := Tryd.isAgg104
  z76 := Tryd.sizeOf104
  v76 := Tryd.zeroValue104
  t85 := Tryd.underlying132
  a85 := Tryd.isAgg132
  z85 := Tryd.sizeOf132
  v85 := Tryd.zeroValue132
  t127 := Tryd.underlying113
  a127 := Tryd.isAgg113
  z127 := Tryd.sizeOf113
  v127 := Tryd.zeroValue113
  t143 := Tryd.underlying157
  a143 := Tryd.isAgg157
  z143 := Tryd.sizeOf157
  v143 := Tryd.zeroValue157
  t145 := Tryd.underlying159
  a145 := Tryd.isAgg159
  z145 := Tryd.sizeOf159
  v145 := Tryd.zeroValue159
  t167 := Tryd.underlying131
  a167 := Tryd.isAgg131
  z167 := Tryd.sizeOf131
  v167 := Tryd.zeroValue131
  t168 := Tryd.underlying134
  a168 := Tryd.isAgg134
  z168 := Tryd.sizeOf134
  v168 := Tryd.zeroValue134
  t171 := Tryd.underlying117
  a171 := Tryd.isAgg117
  z171 := Tryd.sizeOf117
  v171 := Tryd.zeroValue117
  t173 := Tryd.underlying121
  a173 := Tryd.isAgg121
  z173 := Tryd.sizeOf121
  v173 := Tryd.zeroValue121
  t175 := Tryd.underlying143
  a175 := Tryd.isAgg143
  z175 := Tryd.sizeOf143
  v175 := Tryd.zeroValue143
  t210 := Tryd.underlying147
  a210 := Tryd.isAgg147
  z210 := Tryd.sizeOf147
  v210 := Tryd.zeroValue147
  t212 := Tryd.underlying138
  a212 := Tryd.isAgg138
  z212 := Tryd.sizeOf138
  v212 := Tryd.zeroValue138
  t213 := Tryd.underlying140
  a213 := Tryd.isAgg140
  z213 := Tryd.sizeOf140
  t232 := Tryd.underlying160
  a232 := Tryd.isAgg160
  z232 := Tryd.sizeOf160
  v232 := Tryd.zeroValue160
  t233 := Tryd.underlying161
  a233 := Tryd.isAgg161
  z233 := Tryd.sizeOf161
  v233 := Tryd.zeroValue161
  g15 := by kernel_rfl
  g16 := by kernel_rfl
  g17 := by kernel_rfl
  g18 := by kernel_rfl
  g19 := by kernel_rfl
  t80 := Tryd.underlying106
  a80 := Tryd.isAgg106
  z80 := Tryd.sizeOf106
  v80 := Tryd.zeroValue106
  i0 := by kernel_rfl
  i2 := by kernel_rfl
  i3 := by kernel_rfl
  i4 := by kernel_rfl
  i5 := by kernel_rfl
  i9 := by kernel_rfl
  i20 := by kernel_rfl
  i21 := by kernel_rfl
  i37 := by kernel_rfl
  i46 := by kernel_rfl
  i51 := by kernel_rfl
  i53 := by kernel_rfl
  i75 := by kernel_rfl
  i76 := by kernel_rfl
  i80 := by kernel_rfl
  i85 := by kernel_rfl
  i127 := by kernel_rfl
  i143 := by kernel_rfl
  i145 := by kernel_rfl
  i167 := by kernel_rfl
  i168 := by kernel_rfl
  i171 := by kernel_rfl
  i173 := by kernel_rfl
  i175 := by kernel_rfl
  i210 := by kernel_rfl
  i212 := by kernel_rfl
  i232 := by kernel_rfl
  i233 := by kernel_rfl
  m15 := by kernel_rfl
  m16 := by kernel_rfl
  m17 := by kernel_rfl
  m18 := by kernel_rfl
  m19 := by kernel_rfl
  c0 := by kernel_rfl
  c2 := by kernel_rfl
  c3 := by kernel_rfl
  c4 := by kernel_rfl
  c5 := by kernel_rfl
  c9 := by kernel_rfl
  c20 := by kernel_rfl
  c21 := by kernel_rfl
  c37 := by kernel_rfl
  c46 := by kernel_rfl
  c51 := by kernel_rfl
  c53 := by kernel_rfl
  c75 := by kernel_rfl
  c76 := by kernel_rfl
  c80 := by kernel_rfl
  c85 := by kernel_rfl
  c127 := by kernel_rfl
  c143 := by kernel_rfl
  c145 := by kernel_rfl
  c167 := by kernel_rfl
  c168 := by kernel_rfl
  c171 := by kernel_rfl
  c173 := by kernel_rfl
  c175 := by kernel_rfl
  c210 := by kernel_rfl
  c212 := by kernel_rfl
  c213 := by kernel_rfl
  c232 := by kernel_rfl
  c233 := by kernel_rfl }
def endB : Lib.NumEnd Int → Int → Int × Bool
  | .ok v, _ => (v, true)
  | .range, s => (s, false)
  | _, _ => (0, false)
noncomputable def strconv_Atoi.f (x0 : ByteArray) : Option (Int × Bool) := if x0.size ≤ 281474976710656 then some (endB (Lib.atoiAll x0.data.toList) (Lib.atoiSat x0.data.toList)) else none
theorem strconv_Atoi_t (w0 : World) (x0 : ByteArray) (kT : Chunk) (tT : TabR Tryd.prog kT) (wT : Has w0 kT) (r : Int × Bool) (H : strconv_Atoi.f x0 = some r) :
    Calls Tryd.prog 102 #[.string x0] w0 (Ret (fun v w => ∃ e : Value, v = .tuple #[.int .i64 r.1, e] ∧ IfB e r.2 ∧ Sat [] w0 w [] [])) := by
  unfold strconv_Atoi.f at H
  rcases ite_some H with ⟨h, H⟩ | ⟨_, H⟩
  rotate_left
  · cases H
  obtain rfl := Option.some.inj H
  cases hE : Lib.atoiAll x0.data.toList with
  | ok v =>
    refine (Any.strconv_Atoi_ok atoi_lays x0 (by omega) v hE w0).mono ?_
    rintro e w' ⟨rfl, hw⟩
    refine ⟨_, rfl, _, rfl, .inl ⟨rfl, rfl⟩, ?_⟩
    rcases hw with rfl | ⟨t, rfl⟩
    · exact F.refl _
    · exact bytesWorld_sat _ _ _
  | range =>
    obtain ⟨v, hv, tp, p, rfl⟩ := tT.er w0 wT
    refine (Any.strconv_Atoi_range_var atoi_lays x0 h hE tp p w0 hv).mono ?_
    rintro e w' ⟨N, rfl, _, _, hB⟩
    exact ⟨_, rfl, _, rfl, .inr ⟨rfl, _, _, rfl⟩, Sat.ofBelow hB⟩
  | _ =>
    obtain ⟨v, hv, tp, p, rfl⟩ := tT.es w0 wT
    refine (Any.strconv_Atoi_syntax_var atoi_lays x0 h hE tp p w0 hv).mono ?_
    rintro e w' ⟨N, rfl, _, _, hB⟩
    exact ⟨_, rfl, _, rfl, .inr ⟨rfl, _, _, rfl⟩, Sat.ofBelow hB⟩

noncomputable def impl_readNumber.f (x0 : ByteArray) : Option (Int × Bool) :=
  ((strings_TrimPrefix.f x0 (⟨#[45]⟩ : ByteArray)).bind fun y3 => ((strconv_Atoi.f x0).bind fun y6 => (((bif y6.2 then (bif (decide ((y3.size : Int) ≤ 18)) then ((strconv_Itoa.f y6.1).bind fun y20 => (some (y6.1, (y20.toList == x0.toList)))) else (some (y6.1, false))) else (some (y6.1, false))) : Option (Int × Bool)).bind fun o => match o with | (u12, u13) => (some (u12, u13)))))
set_option maxRecDepth 100000 in
set_option maxHeartbeats 0 in
theorem impl_readNumber_t (w0 : World) (x0 : ByteArray) (kT : Chunk) (tT : TabR Tryd.prog kT) (wT : Has w0 kT) (r : Int × Bool) (H : impl_readNumber.f x0 = some r) :
    Calls Tryd.prog 86 #[.string x0] w0 (Ret (fun v w => v = .tuple #[.int .i64 r.1, .bool r.2] ∧ Sat [] w0 w [] [])) := by
  have hs : Sat [] w0 w0 [(1, kT)] [] := Sat.init w0 [(1, kT)] [] (by simp only [List.mem_cons, List.not_mem_nil, or_false]; rintro x (rfl) <;> assumption) (by simp) List.nodup_nil (by simp [blks])
  unfold impl_readNumber.f at H
  refine enter Tryd.func86 rfl Tryd.ntmps86 rfl fun a hk => ?_
  apply wp_seq_k; intro K1 hK1
  apply wp_region_lit
  refine sa _ rfl hk rfl rfl rfl fun a hk => ?_
  refine sa _ rfl hk rfl rfl rfl fun a hk => ?_
  show wpList _ _ _ [] _ _
  refine wpList_nil ?_
  refine hK1 _ _ ?_
  apply wp_seq_k; intro K2 hK2
  apply wp_region_lit
  refine sm _ rfl hk rfl rfl rfl fun a hk => ?_
  obtain ⟨y3, h4, H⟩ := bind_some H
  refine sc rfl en101 hk rfl rfl rfl (strings_TrimPrefix_t _ x0 (⟨#[45]⟩ : ByteArray) _ h4) ?_
  rintro _ w ⟨rfl, hG⟩ a hk
  have hs := hs.call0 hG
  refine sa _ rfl hk rfl rfl rfl fun a hk => ?_
  show wpList _ _ _ [] _ _
  refine wpList_nil ?_
  refine hK2 _ _ ?_
  apply wp_seq_k; intro K5 hK5
  apply wp_region_lit
  refine sm _ rfl hk rfl rfl rfl fun a hk => ?_
  obtain ⟨y6, h7, H⟩ := bind_some H
  refine sc rfl en102 hk rfl rfl rfl (strconv_Atoi_t _ x0 kT tT (hs.hasD (k := 1) rfl) _ h7) ?_
  rintro _ w ⟨e8, rfl, h9, hG⟩ a hk
  have hs := hs.call0 hG
  refine sm _ rfl hk rfl rfl rfl fun a hk => ?_
  refine sv (.int .i64 y6.1) hk rfl rfl rfl fun a hk => ?_
  refine sv e8 hk rfl rfl rfl fun a hk => ?_
  refine sa _ rfl hk rfl rfl rfl fun a hk => ?_
  refine sa _ rfl hk rfl rfl rfl fun a hk => ?_
  show wpList _ _ _ [] _ _
  refine wpList_nil ?_
  refine hK5 _ _ ?_
  apply wp_seq_k; intro K10 hK10
  obtain ⟨o14, h15, HL16⟩ := bind_some H
  clear H
  obtain ⟨R17, hR17⟩ : ∃ R : Act → World → Prop, R = fun a w => ∃ (u12 : Int) (u13 : Bool), (u12, u13) = o14 ∧ Kn [(2, (.int .i64 u12)), (3, (.bool u13))] 28 a ∧ Sat [] w0 w [(1, kT)] [] := ⟨_, rfl⟩
  refine wp_cutq R17 ?_ ?_
  ·have H := h15
   apply wp_region_lit
   refine sm _ rfl hk rfl rfl rfl fun a hk => ?_
   refine sm _ rfl hk rfl rfl rfl fun a hk => ?_
   refine sifn h9 rfl hk rfl rfl rfl uni103 fun a hk => ?_
   refine sm _ rfl hk rfl rfl rfl fun a hk => ?_
   rcases cond_some H with ⟨c18, H⟩ | ⟨c18, H⟩
   ·have hk := hk.lit 17 c18 rfl
    refine sm _ rfl hk rfl rfl rfl fun a hk => ?_
    refine sles rfl hk rfl rfl rfl un9 fun a hk => ?_
    refine sv (.bool (decide ((y3.size : Int) ≤ 18))) hk rfl rfl rfl fun a hk => ?_
    refine sv (.bool (decide ((y3.size : Int) ≤ 18))) hk rfl rfl rfl fun a hk => ?_
    refine sm _ rfl hk rfl rfl rfl fun a hk => ?_
    rcases cond_some H with ⟨c19, H⟩ | ⟨c19, H⟩
    ·have hk := hk.lit 22 c19 rfl
     refine sm _ rfl hk rfl rfl rfl fun a hk => ?_
     obtain ⟨y20, h21, H⟩ := bind_some H
     refine sc rfl en65 hk rfl rfl rfl (strconv_Itoa_t _ y6.1 kT tT (hs.hasD (k := 1) rfl) _ h21) ?_
     rintro _ w ⟨rfl, hG⟩ a hk
     have hs := hs.call0 hG
     refine sm _ rfl hk rfl rfl rfl fun a hk => ?_
     refine sv (.bool (y20.toList == x0.toList)) hk rfl rfl rfl fun a hk => ?_
     refine sv (.bool (y20.toList == x0.toList)) hk rfl rfl rfl fun a hk => ?_
     refine sa _ rfl hk rfl rfl rfl fun a hk => ?_
     refine sa _ rfl hk rfl rfl rfl fun a hk => ?_
     show wpList _ _ _ [] _ _
     refine wpList_nil ?_
     obtain rfl := Option.some.inj H
     show R17 _ _
     rw [hR17]
     exact ⟨y6.1, (y20.toList == x0.toList), rfl, (hk.c 2 rfl (hk.c 3 rfl hk.k)), (hs.pick [] rfl)⟩
    ·have hk := hk.lit 22 c19 rfl
     refine sk hk rfl rfl rfl fun a hk => ?_
     refine sk hk rfl rfl rfl fun a hk => ?_
     refine sk hk rfl rfl rfl fun a hk => ?_
     refine sk hk rfl rfl rfl fun a hk => ?_
     refine sv (.bool false) hk rfl rfl rfl fun a hk => ?_
     refine sa _ rfl hk rfl rfl rfl fun a hk => ?_
     refine sa _ rfl hk rfl rfl rfl fun a hk => ?_
     show wpList _ _ _ [] _ _
     refine wpList_nil ?_
     obtain rfl := Option.some.inj H
     show R17 _ _
     rw [hR17]
     exact ⟨y6.1, false, rfl, (hk.c 2 rfl (hk.c 3 rfl hk.k)), (hs.pick [] rfl)⟩
   ·have hk := hk.lit 17 c18 rfl
    refine sk hk rfl rfl rfl fun a hk => ?_
    refine sk hk rfl rfl rfl fun a hk => ?_
    refine sk hk rfl rfl rfl fun a hk => ?_
    refine sv (.bool false) hk rfl rfl rfl fun a hk => ?_
    refine sm _ rfl hk rfl rfl rfl fun a hk => ?_
    refine sk hk rfl rfl rfl fun a hk => ?_
    refine sk hk rfl rfl rfl fun a hk => ?_
    refine sk hk rfl rfl rfl fun a hk => ?_
    refine sk hk rfl rfl rfl fun a hk => ?_
    refine sv (.bool false) hk rfl rfl rfl fun a hk => ?_
    refine sa _ rfl hk rfl rfl rfl fun a hk => ?_
    refine sa _ rfl hk rfl rfl rfl fun a hk => ?_
    show wpList _ _ _ [] _ _
    refine wpList_nil ?_
    obtain rfl := Option.some.inj H
    show R17 _ _
    rw [hR17]
    exact ⟨y6.1, false, rfl, (hk.c 2 rfl (hk.c 3 rfl hk.k)), (hs.pick [] rfl)⟩
  ·intro a w hR0
   rw [hR17] at hR0
   obtain ⟨u12, u13, rfl, hk, hs⟩ := hR0
   have H := HL16
   try dsimp only at H
   refine hK10 _ _ ?_
   have hs := hs.pick [] rfl
   refine wp_ret ?_
   obtain rfl := Option.some.inj H
   exact fin hk _ [(.int .i64 u12), (.bool u13)] rfl ⟨rfl, ⟨rfl, trivial⟩⟩ ⟨rfl, (hs.pick [] rfl).dnil⟩

noncomputable def impl_readNumbers.s0 (l0 : List ByteArray) (u13 : List Int) (u12 : Int) : Option (((List Int) × Int) ⊕ Ex ((List Int)) ((List Int) × Bool)) :=
  (bif (decide (u12 < (l0.length : Int))) then (if 0 ≤ u12 ∧ u12 < (l0.length : Int) then ((impl_readNumber.f (l0.getD u12.toNat ByteArray.empty)).bind fun y41 => (bif (!y41.2) then (some (.inr (.ret (([] : List Int), false)))) else (if u13.length + ([y41.1]).length ≤ 1073741824 then (some (.inl ((u13 ++ ([y41.1])), (w64 (u12 + 1))))) else none))) else none) else (some (.inr (.out u13))))
noncomputable def impl_readNumbers.f (l0 : List ByteArray) : Option ((List Int) × Bool) :=
  ((loopO (fun s => impl_readNumbers.s0 l0 s.1 s.2) (([] : List Int), 0)).bind fun o => match o with | .out u18 => (some (u18, true)) | .ret r => (some r))
set_option maxRecDepth 100000 in
set_option maxHeartbeats 0 in
theorem impl_readNumbers_t (w0 : World) (A0_ : Option Addr) (p0_ : Nat) (l0 : List ByteArray) (k0_ : Chunk) (v0_ : View Lay.str A0_ p0_ l0 k0_) (w0_ : Has w0 k0_) (kT : Chunk) (tT : TabR Tryd.prog kT) (wT : Has w0 kT) (r : (List Int) × Bool) (H : impl_readNumbers.f l0 = some r) :
    Calls Tryd.prog 53 #[.slice A0_ l0.length p0_] w0 (Ret (fun v w => ∃ (A0 : Option Addr) (p0 : Nat) (k0 : Chunk), v = .tuple #[.slice A0 r.1.length p0, .bool r.2] ∧ Own (Lay.int .i64) 3 A0 p0 r.1 k0 ∧ Sat [] w0 w [] [(0, k0)])) := by
  have hs : Sat [] w0 w0 [(1, k0_), (2, kT)] [] := Sat.init w0 [(1, k0_), (2, kT)] [] (by simp only [List.mem_cons, List.not_mem_nil, or_false]; rintro x (rfl | rfl) <;> assumption) (by simp) List.nodup_nil (by simp [blks])
  unfold impl_readNumbers.f at H
  refine enter Tryd.func53 rfl Tryd.ntmps53 rfl fun a hk => ?_
  apply wp_seq_k; intro K1 hK1
  apply wp_region_lit
  refine sa _ rfl hk rfl rfl rfl fun a hk => ?_
  refine sa _ rfl hk rfl rfl rfl fun a hk => ?_
  show wpList _ _ _ [] _ _
  refine wpList_nil ?_
  refine hK1 _ _ ?_
  apply wp_seq_k; intro K2 hK2
  apply wp_region_lit
  refine sa _ rfl hk rfl rfl rfl fun a hk => ?_
  show wpList _ _ _ [] _ _
  refine wpList_nil ?_
  refine hK2 _ _ ?_
  apply wp_seq_k; intro K3 hK3
  apply wp_seq_k; intro K4 hK4
  apply wp_region_lit
  refine sm _ rfl hk rfl rfl rfl fun a hk => ?_
  refine sle rfl hk rfl rfl rfl un73 fun a hk => ?_
  refine sm _ rfl hk rfl rfl rfl fun a hk => ?_
  show wpList _ _ _ [] _ _
  refine wpList_nil ?_
  refine hK4 _ _ ?_
  obtain ⟨o23, h24, HL25⟩ := bind_some H
  clear H
  obtain ⟨R26, hR26⟩ : ∃ R : Act → World → Prop, R = fun a w => ∃ (u18 : List Int) (A21 : Option Addr) (p22 : Nat) (k19 : Chunk), o23 = .out u18 ∧ Kn [(4, (.slice A21 u18.length p22))] 28 a ∧ Sat [] w0 w [(1, k0_), (2, kT)] [(5, k19)] ∧ Own (Lay.int .i64) 3 A21 p22 u18 k19 := ⟨_, rfl⟩
  refine wp_cutq R26 ?_ ?_
  ·refine wp_block ?_
   obtain ⟨fu28, h24⟩ := loopO_some h24
   obtain ⟨I27, hI27⟩ : ∃ I : Nat → Act → World → Prop, I = fun fu a w => ∃ (u13 : List Int) (u12 : Int) (A16 : Option Addr) (p17 : Nat) (k14 : Chunk), loopN (fun s => impl_readNumbers.s0 l0 s.1 s.2) fu (u13, u12) = some o23 ∧ Kn [(4, (.slice A16 u13.length p17)), (9, (.slice A0_ l0.length p0_)), (10, (.int .i64 (l0.length : Int))), (11, (.int .i64 u12))] 28 a ∧ Sat [] w0 w [(1, k0_), (2, kT)] [(5, k14)] ∧ Own (Lay.int .i64) 3 A16 p17 u13 k14 := ⟨_, rfl⟩
   refine wp_loop_ghost I27 fu28 ?_ ?_
   ·rw [hI27]
    exact ⟨([] : List Int), 0, none, 0, _, h24, (hk.c 4 rfl (hk.c 9 rfl (hk.c 10 rfl (hk.c 11 rfl hk.k)))), ((hs.addNil 1005).pick [(5, 1005)] rfl), Own.nil _ _⟩
   ·clear h24 hk hs
    intro fu28 a w hI0
    rw [hI27] at hI0
    obtain ⟨u13, u12, A16, p17, k14, hi, hk, hs, o15⟩ := hI0
    obtain ⟨x29, H, h30⟩ := loop_round hi
    try dsimp only at H
    unfold impl_readNumbers.s0 at H
    apply wp_seq_k; intro K31 hK31
    apply wp_region_lit
    refine sv (.bool (decide (u12 < (l0.length : Int)))) hk rfl rfl rfl fun a hk => ?_
    show wpList _ _ _ [] _ _
    refine wpList_nil ?_
    refine hK31 _ _ ?_
    have hs := hs.pick [(5, 5)] rfl
    apply wp_seq_k; intro K32 hK32
    rcases cond_some H with ⟨c33, H⟩ | ⟨c33, H⟩
    ·have hk := hk.lit 12 c33 rfl
     refine cnd_true hk rfl rfl ?_
     refine wp_skip ?_
     refine hK32 _ _ ?_
     apply wp_seq_k; intro K34 hK34
     refine wp_block ?_
     apply wp_seq_k; intro K35 hK35
     apply wp_region_lit
     rcases ite_some H with ⟨c36, H⟩ | ⟨_, H⟩
     rotate_left
     ·cases H
     obtain ⟨b37, q38, hAc36⟩ := (v0_).some_ u12 c36.1 c36.2
     refine si rfl hk rfl rfl rfl rfl un73 sz9 c36.1 c36.2 hAc36 fun a hk => ?_
     obtain ⟨_, rfl, e39⟩ := (v0_).at_ ByteArray.empty u12 c36.1 c36.2
     refine sl (v := (.string (l0.getD u12.toNat ByteArray.empty))) rfl hk rfl rfl rfl ag9 ((e39 0 _ rfl).cell (hs.hasD (k := 1) rfl)) fun a hk => ?_
     refine sa _ rfl hk rfl rfl rfl fun a hk => ?_
     show wpList _ _ _ [] _ _
     refine wpList_nil ?_
     refine hK35 _ _ ?_
     apply wp_seq_k; intro K40 hK40
     apply wp_region_lit
     refine sm _ rfl hk rfl rfl rfl fun a hk => ?_
     obtain ⟨y41, h42, H⟩ := bind_some H
     refine sc rfl en86 hk rfl rfl rfl (impl_readNumber_t _ (l0.getD u12.toNat ByteArray.empty) kT tT (hs.hasD (k := 2) rfl) _ h42) ?_
     rintro _ w ⟨rfl, hG⟩ a hk
     have hs := hs.call0 hG
     refine sm _ rfl hk rfl rfl rfl fun a hk => ?_
     refine sv (.int .i64 y41.1) hk rfl rfl rfl fun a hk => ?_
     refine sv (.bool y41.2) hk rfl rfl rfl fun a hk => ?_
     refine sa _ rfl hk rfl rfl rfl fun a hk => ?_
     refine sa _ rfl hk rfl rfl rfl fun a hk => ?_
     show wpList _ _ _ [] _ _
     refine wpList_nil ?_
     refine hK40 _ _ ?_
     apply wp_seq_k; intro K43 hK43
     apply wp_seq_k; intro K44 hK44
     apply wp_region_lit
     refine sm _ rfl hk rfl rfl rfl fun a hk => ?_
     refine sv (.bool (!y41.2)) hk rfl rfl rfl fun a hk => ?_
     show wpList _ _ _ [] _ _
     refine wpList_nil ?_
     refine hK44 _ _ ?_
     have hs := hs.pick [(5, 5)] rfl
     rcases cond_some H with ⟨c45, H⟩ | ⟨c45, H⟩
     ·have hk := hk.lit 21 c45 rfl
      refine cnd_true hk rfl rfl ?_
      apply wp_seq_k; intro K46 hK46
      apply wp_region_lit
      refine sa _ rfl hk rfl rfl rfl fun a hk => ?_
      refine sa _ rfl hk rfl rfl rfl fun a hk => ?_
      show wpList _ _ _ [] _ _
      refine wpList_nil ?_
      refine hK46 _ _ ?_
      refine wp_ret ?_
      obtain rfl := Option.some.inj H
      have ho23 := h30
      try dsimp only at ho23
      subst ho23
      have H := HL25
      try dsimp only at H
      obtain rfl := Option.some.inj H
      have hs := hs.addNil 6
      exact fin hk _ [(.slice none 0 0), (.bool false)] rfl ⟨rfl, ⟨rfl, trivial⟩⟩ ⟨none, 0, [], rfl, Own.nil _ _, (hs.pick [(0, 6)] rfl).dnil⟩
     ·have hk := hk.lit 21 c45 rfl
      refine cnd_false hk rfl rfl ?_
      refine wp_skip ?_
      refine hK43 _ _ ?_
      apply wp_region_lit
      refine sm _ rfl hk rfl rfl rfl fun a hk => ?_
      refine sm _ rfl hk rfl rfl rfl fun a hk => ?_
      refine sbs (L := (Lay.int .i64)) (pv := [(0, (.int .i64 y41.1))]) (xs := [y41.1]) (ess := [[.int .i64 y41.1]]) 7 hs rfl hk rfl rfl rfl un29 (bs3_5 y41.1) (AllOwn.cons0 ⟨rfl, rfl⟩ AllOwn.nil) rfl rfl rfl fun b47 k48 w a hk o49 hs => ?_
      rcases ite_some H with ⟨c50, H⟩ | ⟨_, H⟩
      rotate_left
      ·cases H
      refine sap 5 (xs := u13) (ys := [y41.1]) (flat_flat : ((Lay.int .i64)).Flat) hs rfl o15 o49.view (hs.hasG (k := 7) rfl) rfl hk rfl rfl rfl rfl rfl rfl un29 mk3 rfl rfl rfl c50 fun A51 p52 k53 w a hk o54 hs => ?_
      refine sa _ rfl hk rfl rfl rfl fun a hk => ?_
      show wpList _ _ _ [] _ _
      refine wpList_nil ?_
      refine hK34 _ _ ?_
      apply wp_region_lit
      refine sv (.int .i64 (w64 (u12 + 1))) hk rfl rfl rfl fun a hk => ?_
      refine sm _ rfl hk rfl rfl rfl fun a hk => ?_
      show wpList _ _ _ [] _ _
      refine wpList_nil ?_
      obtain rfl := Option.some.inj H
      obtain ⟨m55, hmm55, h30⟩ := h30
      show ∃ n', n' < _ ∧ I27 n' _ _
      refine ⟨m55, hmm55, ?_⟩
      rw [hI27]
      exact ⟨(u13 ++ ([y41.1])), (w64 (u12 + 1)), A51, p52, _, h30, (hk.c 4 rfl (hk.c 9 rfl (hk.c 10 rfl (hk.c 11 rfl hk.k)))), (hs.pick [(5, 5)] rfl), o54⟩
    ·have hk := hk.lit 12 c33 rfl
     refine cnd_false hk rfl rfl ?_
     refine wp_exit ?_
     obtain rfl := Option.some.inj H
     show R26 _ _
     rw [hR26]
     exact ⟨u13, A16, p17, _, h30.symm, (hk.c 4 rfl hk.k), (hs.pick [(5, 5)] rfl), o15⟩
  ·intro a w hR0
   rw [hR26] at hR0
   obtain ⟨u18, A21, p22, k19, rfl, hk, hs, o20⟩ := hR0
   have H := HL25
   try dsimp only at H
   refine hK3 _ _ ?_
   have hs := hs.pick [(5, 5)] rfl
   apply wp_seq_k; intro K56 hK56
   apply wp_region_lit
   refine sm _ rfl hk rfl rfl rfl fun a hk => ?_
   refine sa _ rfl hk rfl rfl rfl fun a hk => ?_
   refine sa _ rfl hk rfl rfl rfl fun a hk => ?_
   show wpList _ _ _ [] _ _
   refine wpList_nil ?_
   refine hK56 _ _ ?_
   refine wp_ret ?_
   obtain rfl := Option.some.inj H
   exact fin hk _ [(.slice A21 u18.length p22), (.bool true)] rfl ⟨rfl, ⟨rfl, trivial⟩⟩ ⟨A21, p22, _, rfl, o20, (hs.pick [(0, 5)] rfl).dnil⟩

noncomputable def slices_Index_string_string.s0 (l0 : List ByteArray) (x1 : ByteArray) (u6 : Int) : Option ((Int) ⊕ Ex (Unit) (Int)) :=
  (bif (decide (u6 < (l0.length : Int))) then (if 0 ≤ u6 ∧ u6 < (l0.length : Int) then (bif (x1.toList == (l0.getD u6.toNat ByteArray.empty).toList) then (some (.inr (.ret u6))) else (some (.inl (w64 (u6 + 1))))) else none) else (some (.inr (.out ()))))
noncomputable def slices_Index_string_string.f (l0 : List ByteArray) (x1 : ByteArray) : Option (Int) :=
  ((loopO (fun s => slices_Index_string_string.s0 l0 x1 s) 0).bind fun o => match o with | .out _ => (some (-1)) | .ret r => (some r))
set_option maxRecDepth 100000 in
set_option maxHeartbeats 0 in
theorem slices_Index_string_string_t (w0 : World) (A0_ : Option Addr) (p0_ : Nat) (l0 : List ByteArray) (k0_ : Chunk) (v0_ : View Lay.str A0_ p0_ l0 k0_) (w0_ : Has w0 k0_) (x1 : ByteArray) (r : Int) (H : slices_Index_string_string.f l0 x1 = some r) :
    Calls Tryd.prog 81 #[.slice A0_ l0.length p0_, .string x1] w0 (Ret (fun v w => v = .int .i64 r ∧ Sat [] w0 w [] [])) := by
  have hs : Sat [] w0 w0 [(1, k0_)] [] := Sat.init w0 [(1, k0_)] [] (by simp only [List.mem_cons, List.not_mem_nil, or_false]; rintro x (rfl) <;> assumption) (by simp) List.nodup_nil (by simp [blks])
  unfold slices_Index_string_string.f at H
  refine enter Tryd.func81 rfl Tryd.ntmps81 rfl fun a hk => ?_
  apply wp_seq_k; intro K1 hK1
  apply wp_region_lit
  refine sa _ rfl hk rfl rfl rfl fun a hk => ?_
  show wpList _ _ _ [] _ _
  refine wpList_nil ?_
  refine hK1 _ _ ?_
  apply wp_seq_k; intro K2 hK2
  apply wp_seq_k; intro K3 hK3
  apply wp_region_lit
  refine sm _ rfl hk rfl rfl rfl fun a hk => ?_
  refine sle rfl hk rfl rfl rfl un73 fun a hk => ?_
  refine sm _ rfl hk rfl rfl rfl fun a hk => ?_
  show wpList _ _ _ [] _ _
  refine wpList_nil ?_
  refine hK3 _ _ ?_
  obtain ⟨o7, h8, HL9⟩ := bind_some H
  clear H
  obtain ⟨R10, hR10⟩ : ∃ R : Act → World → Prop, R = fun a w => o7 = .out () ∧ Kn [] 19 a ∧ Sat [] w0 w [(1, k0_)] [] := ⟨_, rfl⟩
  refine wp_cutq R10 ?_ ?_
  ·refine wp_block ?_
   obtain ⟨fu12, h8⟩ := loopO_some h8
   obtain ⟨I11, hI11⟩ : ∃ I : Nat → Act → World → Prop, I = fun fu a w => ∃ (u6 : Int), loopN (fun s => slices_Index_string_string.s0 l0 x1 s) fu u6 = some o7 ∧ Kn [(0, (.slice A0_ l0.length p0_)), (1, (.string x1)), (7, (.int .i64 (l0.length : Int))), (8, (.int .i64 u6))] 19 a ∧ Sat [] w0 w [(1, k0_)] [] := ⟨_, rfl⟩
   refine wp_loop_ghost I11 fu12 ?_ ?_
   ·rw [hI11]
    exact ⟨0, h8, (hk.c 0 rfl (hk.c 1 rfl (hk.c 7 rfl (hk.c 8 rfl hk.k)))), (hs.pick [] rfl)⟩
   ·clear h8 hk hs
    intro fu12 a w hI0
    rw [hI11] at hI0
    obtain ⟨u6, hi, hk, hs⟩ := hI0
    obtain ⟨x13, H, h14⟩ := loop_round hi
    try dsimp only at H
    unfold slices_Index_string_string.s0 at H
    apply wp_seq_k; intro K15 hK15
    apply wp_region_lit
    refine sv (.bool (decide (u6 < (l0.length : Int)))) hk rfl rfl rfl fun a hk => ?_
    show wpList _ _ _ [] _ _
    refine wpList_nil ?_
    refine hK15 _ _ ?_
    apply wp_seq_k; intro K16 hK16
    rcases cond_some H with ⟨c17, H⟩ | ⟨c17, H⟩
    ·have hk := hk.lit 9 c17 rfl
     refine cnd_true hk rfl rfl ?_
     refine wp_skip ?_
     refine hK16 _ _ ?_
     have hs := hs.pick [] rfl
     apply wp_seq_k; intro K18 hK18
     refine wp_block ?_
     apply wp_seq_k; intro K19 hK19
     apply wp_region_lit
     refine sm _ rfl hk rfl rfl rfl fun a hk => ?_
     refine sa _ rfl hk rfl rfl rfl fun a hk => ?_
     show wpList _ _ _ [] _ _
     refine wpList_nil ?_
     refine hK19 _ _ ?_
     apply wp_seq_k; intro K20 hK20
     apply wp_region_lit
     refine sm _ rfl hk rfl rfl rfl fun a hk => ?_
     refine sm _ rfl hk rfl rfl rfl fun a hk => ?_
     refine sm _ rfl hk rfl rfl rfl fun a hk => ?_
     rcases ite_some H with ⟨c21, H⟩ | ⟨_, H⟩
     rotate_left
     ·cases H
     obtain ⟨b22, q23, hAc21⟩ := (v0_).some_ u6 c21.1 c21.2
     refine si rfl hk rfl rfl rfl rfl un73 sz9 c21.1 c21.2 hAc21 fun a hk => ?_
     obtain ⟨_, rfl, e24⟩ := (v0_).at_ ByteArray.empty u6 c21.1 c21.2
     refine sl (v := (.string (l0.getD u6.toNat ByteArray.empty))) rfl hk rfl rfl rfl ag9 ((e24 0 _ rfl).cell (hs.hasD (k := 1) rfl)) fun a hk => ?_
     refine sv (.bool (x1.toList == (l0.getD u6.toNat ByteArray.empty).toList)) hk rfl rfl rfl fun a hk => ?_
     show wpList _ _ _ [] _ _
     refine wpList_nil ?_
     refine hK20 _ _ ?_
     rcases cond_some H with ⟨c25, H⟩ | ⟨c25, H⟩
     ·have hk := hk.lit 16 c25 rfl
      refine cnd_true hk rfl rfl ?_
      apply wp_seq_k; intro K26 hK26
      apply wp_region_lit
      refine sm _ rfl hk rfl rfl rfl fun a hk => ?_
      refine sa _ rfl hk rfl rfl rfl fun a hk => ?_
      show wpList _ _ _ [] _ _
      refine wpList_nil ?_
      refine hK26 _ _ ?_
      refine wp_ret ?_
      obtain rfl := Option.some.inj H
      have ho7 := h14
      try dsimp only at ho7
      subst ho7
      have H := HL9
      try dsimp only at H
      obtain rfl := Option.some.inj H
      exact fin hk _ [(.int .i64 u6)] rfl ⟨rfl, trivial⟩ ⟨rfl, (hs.pick [] rfl).dnil⟩
     ·have hk := hk.lit 16 c25 rfl
      refine cnd_false hk rfl rfl ?_
      refine wp_skip ?_
      refine hK18 _ _ ?_
      apply wp_region_lit
      refine sv (.int .i64 (w64 (u6 + 1))) hk rfl rfl rfl fun a hk => ?_
      refine sm _ rfl hk rfl rfl rfl fun a hk => ?_
      show wpList _ _ _ [] _ _
      refine wpList_nil ?_
      obtain rfl := Option.some.inj H
      obtain ⟨m27, hmm27, h14⟩ := h14
      show ∃ n', n' < _ ∧ I11 n' _ _
      refine ⟨m27, hmm27, ?_⟩
      rw [hI11]
      exact ⟨(w64 (u6 + 1)), h14, (hk.c 0 rfl (hk.c 1 rfl (hk.c 7 rfl (hk.c 8 rfl hk.k)))), (hs.pick [] rfl)⟩
    ·have hk := hk.lit 9 c17 rfl
     refine cnd_false hk rfl rfl ?_
     refine wp_exit ?_
     obtain rfl := Option.some.inj H
     show R10 _ _
     rw [hR10]
     exact ⟨h14.symm, hk.k, (hs.pick [] rfl)⟩
  ·intro a w hR0
   rw [hR10] at hR0
   obtain ⟨rfl, hk, hs⟩ := hR0
   have H := HL9
   try dsimp only at H
   refine hK2 _ _ ?_
   apply wp_seq_k; intro K28 hK28
   apply wp_region_lit
   refine sa _ rfl hk rfl rfl rfl fun a hk => ?_
   show wpList _ _ _ [] _ _
   refine wpList_nil ?_
   refine hK28 _ _ ?_
   have hs := hs.pick [] rfl
   refine wp_ret ?_
   obtain rfl := Option.some.inj H
   exact fin hk _ [(.int .i64 (-1))] rfl ⟨rfl, trivial⟩ ⟨rfl, (hs.pick [] rfl).dnil⟩

noncomputable def impl_codeWords.f  : Option ((List ByteArray)) :=
  (some ([(⟨#[111, 107]⟩ : ByteArray), (⟨#[98, 97, 100]⟩ : ByteArray), (⟨#[108, 111, 110, 103]⟩ : ByteArray), (⟨#[102, 111, 114, 109]⟩ : ByteArray), (⟨#[114, 97, 110, 103, 101]⟩ : ByteArray), (⟨#[110, 111, 110, 101]⟩ : ByteArray), (⟨#[109, 97, 110, 121]⟩ : ByteArray), (⟨#[102, 117, 108, 108]⟩ : ByteArray), (⟨#[115, 105, 122, 101]⟩ : ByteArray), (⟨#[116, 97, 103]⟩ : ByteArray), (⟨#[116, 97, 109, 112, 101, 114, 101, 100]⟩ : ByteArray), (⟨#[116, 111, 114, 110]⟩ : ByteArray), (⟨#[115, 116, 97, 115, 104]⟩ : ByteArray), (⟨#[116, 97, 112, 101]⟩ : ByteArray), (⟨#[99, 104, 101, 99, 107]⟩ : ByteArray), (⟨#[112, 101, 110, 100, 105, 110, 103]⟩ : ByteArray), (⟨#[100, 111, 119, 110]⟩ : ByteArray), (⟨#[117, 112]⟩ : ByteArray), (⟨#[115, 112, 101, 110, 116]⟩ : ByteArray), (⟨#[107, 101, 121]⟩ : ByteArray)]))
set_option maxRecDepth 100000 in
set_option maxHeartbeats 0 in
theorem impl_codeWords_t (w0 : World)  (r : (List ByteArray)) (H : impl_codeWords.f  = some r) :
    Calls Tryd.prog 87 #[] w0 (Ret (fun v w => ∃ (A0 : Option Addr) (p0 : Nat) (k0 : Chunk), v = .slice A0 r.length p0 ∧ Own Lay.str 9 A0 p0 r k0 ∧ Sat [] w0 w [] [(0, k0)])) := by
  have hs : Sat [] w0 w0 [] [] := Sat.init w0 [] [] (by simp) (by simp) List.nodup_nil (by simp [blks])
  unfold impl_codeWords.f at H
  refine enter Tryd.func87 rfl Tryd.ntmps87 rfl fun a hk => ?_
  apply wp_seq_k; intro K1 hK1
  apply wp_region_lit
  refine sa _ rfl hk rfl rfl rfl fun a hk => ?_
  show wpList _ _ _ [] _ _
  refine wpList_nil ?_
  refine hK1 _ _ ?_
  apply wp_seq_k; intro K2 hK2
  apply wp_region_lit
  refine sbs (L := Lay.str) (pv := [(0, (.string (⟨#[111, 107]⟩ : ByteArray))), (1, (.string (⟨#[98, 97, 100]⟩ : ByteArray))), (2, (.string (⟨#[108, 111, 110, 103]⟩ : ByteArray))), (3, (.string (⟨#[102, 111, 114, 109]⟩ : ByteArray))), (4, (.string (⟨#[114, 97, 110, 103, 101]⟩ : ByteArray))), (5, (.string (⟨#[110, 111, 110, 101]⟩ : ByteArray))), (6, (.string (⟨#[109, 97, 110, 121]⟩ : ByteArray))), (7, (.string (⟨#[102, 117, 108, 108]⟩ : ByteArray))), (8, (.string (⟨#[115, 105, 122, 101]⟩ : ByteArray))), (9, (.string (⟨#[116, 97, 103]⟩ : ByteArray))), (10, (.string (⟨#[116, 97, 109, 112, 101, 114, 101, 100]⟩ : ByteArray))), (11, (.string (⟨#[116, 111, 114, 110]⟩ : ByteArray))), (12, (.string (⟨#[115, 116, 97, 115, 104]⟩ : ByteArray))), (13, (.string (⟨#[116, 97, 112, 101]⟩ : ByteArray))), (14, (.string (⟨#[99, 104, 101, 99, 107]⟩ : ByteArray))), (15, (.string (⟨#[112, 101, 110, 100, 105, 110, 103]⟩ : ByteArray))), (16, (.string (⟨#[100, 111, 119, 110]⟩ : ByteArray))), (17, (.string (⟨#[117, 112]⟩ : ByteArray))), (18, (.string (⟨#[115, 112, 101, 110, 116]⟩ : ByteArray))), (19, (.string (⟨#[107, 101, 121]⟩ : ByteArray)))]) (xs := [(⟨#[111, 107]⟩ : ByteArray), (⟨#[98, 97, 100]⟩ : ByteArray), (⟨#[108, 111, 110, 103]⟩ : ByteArray), (⟨#[102, 111, 114, 109]⟩ : ByteArray), (⟨#[114, 97, 110, 103, 101]⟩ : ByteArray), (⟨#[110, 111, 110, 101]⟩ : ByteArray), (⟨#[109, 97, 110, 121]⟩ : ByteArray), (⟨#[102, 117, 108, 108]⟩ : ByteArray), (⟨#[115, 105, 122, 101]⟩ : ByteArray), (⟨#[116, 97, 103]⟩ : ByteArray), (⟨#[116, 97, 109, 112, 101, 114, 101, 100]⟩ : ByteArray), (⟨#[116, 111, 114, 110]⟩ : ByteArray), (⟨#[115, 116, 97, 115, 104]⟩ : ByteArray), (⟨#[116, 97, 112, 101]⟩ : ByteArray), (⟨#[99, 104, 101, 99, 107]⟩ : ByteArray), (⟨#[112, 101, 110, 100, 105, 110, 103]⟩ : ByteArray), (⟨#[100, 111, 119, 110]⟩ : ByteArray), (⟨#[117, 112]⟩ : ByteArray), (⟨#[115, 112, 101, 110, 116]⟩ : ByteArray), (⟨#[107, 101, 121]⟩ : ByteArray)]) (ess := [[.string (⟨#[111, 107]⟩ : ByteArray)], [.string (⟨#[98, 97, 100]⟩ : ByteArray)], [.string (⟨#[108, 111, 110, 103]⟩ : ByteArray)], [.string (⟨#[102, 111, 114, 109]⟩ : ByteArray)], [.string (⟨#[114, 97, 110, 103, 101]⟩ : ByteArray)], [.string (⟨#[110, 111, 110, 101]⟩ : ByteArray)], [.string (⟨#[109, 97, 110, 121]⟩ : ByteArray)], [.string (⟨#[102, 117, 108, 108]⟩ : ByteArray)], [.string (⟨#[115, 105, 122, 101]⟩ : ByteArray)], [.string (⟨#[116, 97, 103]⟩ : ByteArray)], [.string (⟨#[116, 97, 109, 112, 101, 114, 101, 100]⟩ : ByteArray)], [.string (⟨#[116, 111, 114, 110]⟩ : ByteArray)], [.string (⟨#[115, 116, 97, 115, 104]⟩ : ByteArray)], [.string (⟨#[116, 97, 112, 101]⟩ : ByteArray)], [.string (⟨#[99, 104, 101, 99, 107]⟩ : ByteArray)], [.string (⟨#[112, 101, 110, 100, 105, 110, 103]⟩ : ByteArray)], [.string (⟨#[100, 111, 119, 110]⟩ : ByteArray)], [.string (⟨#[117, 112]⟩ : ByteArray)], [.string (⟨#[115, 112, 101, 110, 116]⟩ : ByteArray)], [.string (⟨#[107, 101, 121]⟩ : ByteArray)]]) 1 hs rfl hk rfl rfl rfl un73 (bs9_1 (⟨#[111, 107]⟩ : ByteArray) (⟨#[98, 97, 100]⟩ : ByteArray) (⟨#[108, 111, 110, 103]⟩ : ByteArray) (⟨#[102, 111, 114, 109]⟩ : ByteArray) (⟨#[114, 97, 110, 103, 101]⟩ : ByteArray) (⟨#[110, 111, 110, 101]⟩ : ByteArray) (⟨#[109, 97, 110, 121]⟩ : ByteArray) (⟨#[102, 117, 108, 108]⟩ : ByteArray) (⟨#[115, 105, 122, 101]⟩ : ByteArray) (⟨#[116, 97, 103]⟩ : ByteArray) (⟨#[116, 97, 109, 112, 101, 114, 101, 100]⟩ : ByteArray) (⟨#[116, 111, 114, 110]⟩ : ByteArray) (⟨#[115, 116, 97, 115, 104]⟩ : ByteArray) (⟨#[116, 97, 112, 101]⟩ : ByteArray) (⟨#[99, 104, 101, 99, 107]⟩ : ByteArray) (⟨#[112, 101, 110, 100, 105, 110, 103]⟩ : ByteArray) (⟨#[100, 111, 119, 110]⟩ : ByteArray) (⟨#[117, 112]⟩ : ByteArray) (⟨#[115, 112, 101, 110, 116]⟩ : ByteArray) (⟨#[107, 101, 121]⟩ : ByteArray)) (AllOwn.cons0 ⟨rfl, rfl⟩ (AllOwn.cons0 ⟨rfl, rfl⟩ (AllOwn.cons0 ⟨rfl, rfl⟩ (AllOwn.cons0 ⟨rfl, rfl⟩ (AllOwn.cons0 ⟨rfl, rfl⟩ (AllOwn.cons0 ⟨rfl, rfl⟩ (AllOwn.cons0 ⟨rfl, rfl⟩ (AllOwn.cons0 ⟨rfl, rfl⟩ (AllOwn.cons0 ⟨rfl, rfl⟩ (AllOwn.cons0 ⟨rfl, rfl⟩ (AllOwn.cons0 ⟨rfl, rfl⟩ (AllOwn.cons0 ⟨rfl, rfl⟩ (AllOwn.cons0 ⟨rfl, rfl⟩ (AllOwn.cons0 ⟨rfl, rfl⟩ (AllOwn.cons0 ⟨rfl, rfl⟩ (AllOwn.cons0 ⟨rfl, rfl⟩ (AllOwn.cons0 ⟨rfl, rfl⟩ (AllOwn.cons0 ⟨rfl, rfl⟩ (AllOwn.cons0 ⟨rfl, rfl⟩ (AllOwn.cons0 ⟨rfl, rfl⟩ AllOwn.nil)))))))))))))))))))) rfl rfl rfl fun b3 k4 w a hk o5 hs => ?_
  refine sa _ rfl hk rfl rfl rfl fun a hk => ?_
  show wpList _ _ _ [] _ _
  refine wpList_nil ?_
  refine hK2 _ _ ?_
  refine wp_ret ?_
  obtain rfl := Option.some.inj H
  exact fin hk _ [(.slice (some ⟨b3, 0, none⟩) 20 20)] rfl ⟨rfl, trivial⟩ ⟨(some ⟨b3, 0, none⟩), 20, _, rfl, o5, (hs.pick [(0, 1)] rfl).dnil⟩

noncomputable def impl_CodeOf.f (x0 : ByteArray) : Option (Int) :=
  ((impl_codeWords.f).bind fun y3 => ((slices_Index_string_string.f y3 x0).bind fun y9 => (some y9)))
set_option maxRecDepth 100000 in
set_option maxHeartbeats 0 in
theorem impl_CodeOf_t (w0 : World) (x0 : ByteArray) (r : Int) (H : impl_CodeOf.f x0 = some r) :
    Calls Tryd.prog 54 #[.string x0] w0 (Ret (fun v w => v = .int .i64 r ∧ Sat [] w0 w [] [])) := by
  have hs : Sat [] w0 w0 [] [] := Sat.init w0 [] [] (by simp) (by simp) List.nodup_nil (by simp [blks])
  unfold impl_CodeOf.f at H
  refine enter Tryd.func54 rfl Tryd.ntmps54 rfl fun a hk => ?_
  apply wp_seq_k; intro K1 hK1
  apply wp_region_lit
  refine sa _ rfl hk rfl rfl rfl fun a hk => ?_
  show wpList _ _ _ [] _ _
  refine wpList_nil ?_
  refine hK1 _ _ ?_
  apply wp_seq_k; intro K2 hK2
  apply wp_region_lit
  obtain ⟨y3, h4, H⟩ := bind_some H
  refine sc rfl en87 hk rfl rfl rfl (impl_codeWords_t _ _ h4) ?_
  rintro _ w ⟨A5, p6, k7, rfl, o8, hG⟩ a hk
  have hs := hs.call0k hG [1] rfl
  refine sm _ rfl hk rfl rfl rfl fun a hk => ?_
  obtain ⟨y9, h10, H⟩ := bind_some H
  refine sc rfl en81 hk rfl rfl rfl (slices_Index_string_string_t _ A5 p6 y3 _ o8.view (hs.hasG (k := 1) rfl) x0 _ h10) ?_
  rintro _ w ⟨rfl, hG⟩ a hk
  have hs := hs.call0 hG
  refine sa _ rfl hk rfl rfl rfl fun a hk => ?_
  show wpList _ _ _ [] _ _
  refine wpList_nil ?_
  refine hK2 _ _ ?_
  refine wp_ret ?_
  obtain rfl := Option.some.inj H
  exact fin hk _ [(.int .i64 y9)] rfl ⟨rfl, trivial⟩ ⟨rfl, (hs.pick [] rfl).dnil⟩

end Go.Proofs.YtfjhdkmdidadiaaDoor
