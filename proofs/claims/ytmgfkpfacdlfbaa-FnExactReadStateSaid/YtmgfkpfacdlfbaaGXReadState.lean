/- The functions that FnExactReadState reaches: for each a model and the walk that shows that the Go code comes to it. -/
import Derived.Test.YtmgfkpfacdlfbaaT
namespace Go.Proofs.Ytmgfkpfacdlfbaa
open Go Go.Z Go.Proofs Go.MuLone Go.ChangeShapes Go.WideShapes Go.ChangeAt Go.RowKit
set_option linter.unusedVariables false
set_option linter.unusedSimpArgs false
noncomputable def laws_eqIntS.s0 (l0 : List Int) (l1 : List Int) (u10 : Int) : Option ((Int) ⊕ Ex (Unit) (Bool)) :=
  (bif (decide (u10 < (l0.length : Int))) then (if 0 ≤ u10 ∧ u10 < (l0.length : Int) then (if 0 ≤ u10 ∧ u10 < (l1.length : Int) then (bif ((l0.getD u10.toNat 0) != (l1.getD u10.toNat 0)) then (some (.inr (.ret false))) else (some (.inl (w64 (u10 + 1))))) else none) else none) else (some (.inr (.out ()))))
noncomputable def laws_eqIntS.f (l0 : List Int) (l1 : List Int) : Option (Bool) :=
  (bif ((l0.length : Int) != (l1.length : Int)) then (some false) else ((loopO (fun s => laws_eqIntS.s0 l0 l1 s) 0).bind fun o => match o with | .out _ => (some true) | .ret r => (some r)))
set_option maxRecDepth 100000 in
set_option maxHeartbeats 0 in
theorem laws_eqIntS_t (w0 : World) (A0_ : Option Addr) (p0_ : Nat) (l0 : List Int) (k0_ : Chunk) (v0_ : View (Lay.int .i64) A0_ p0_ l0 k0_) (w0_ : Has w0 k0_) (A1_ : Option Addr) (p1_ : Nat) (l1 : List Int) (k1_ : Chunk) (v1_ : View (Lay.int .i64) A1_ p1_ l1 k1_) (w1_ : Has w0 k1_) (r : Bool) (H : laws_eqIntS.f l0 l1 = some r) :
    Calls Try.prog 22 #[.slice A0_ l0.length p0_, .slice A1_ l1.length p1_] w0 (Ret (fun v w => v = .bool r ∧ Sat [] w0 w [] [])) := by
  have hs : Sat [] w0 w0 [(1, k0_), (2, k1_)] [] := Sat.init w0 [(1, k0_), (2, k1_)] [] (by simp only [List.mem_cons, List.not_mem_nil, or_false]; rintro x (rfl | rfl) <;> assumption) (by simp) List.nodup_nil (by simp [blks])
  unfold laws_eqIntS.f at H
  refine enter Try.func22 rfl Try.ntmps22 rfl fun a hk => ?_
  apply wp_seq_k; intro K1 hK1
  apply wp_region_lit
  refine sa _ rfl hk rfl rfl rfl fun a hk => ?_
  show wpList _ _ _ [] _ _
  refine wpList_nil ?_
  refine hK1 _ _ ?_
  apply wp_seq_k; intro K2 hK2
  apply wp_seq_k; intro K3 hK3
  apply wp_region_lit
  refine sm _ rfl hk rfl rfl rfl fun a hk => ?_
  refine sle rfl hk rfl rfl rfl un31 fun a hk => ?_
  refine sm _ rfl hk rfl rfl rfl fun a hk => ?_
  refine sle rfl hk rfl rfl rfl un31 fun a hk => ?_
  refine sv (.bool ((l0.length : Int) != (l1.length : Int))) hk rfl rfl rfl fun a hk => ?_
  show wpList _ _ _ [] _ _
  refine wpList_nil ?_
  refine hK3 _ _ ?_
  rcases cond_some H with ⟨c4, H⟩ | ⟨c4, H⟩
  ·have hk := hk.lit 10 c4 rfl
   refine cnd_true hk rfl rfl ?_
   apply wp_seq_k; intro K5 hK5
   apply wp_region_lit
   refine sa _ rfl hk rfl rfl rfl fun a hk => ?_
   show wpList _ _ _ [] _ _
   refine wpList_nil ?_
   refine hK5 _ _ ?_
   refine wp_ret ?_
   obtain rfl := Option.some.inj H
   exact fin hk _ [(.bool false)] rfl ⟨rfl, trivial⟩ ⟨rfl, (hs.pick [] rfl).dnil⟩
  ·have hk := hk.lit 10 c4 rfl
   refine cnd_false hk rfl rfl ?_
   refine wp_skip ?_
   refine hK2 _ _ ?_
   apply wp_seq_k; intro K6 hK6
   apply wp_seq_k; intro K7 hK7
   apply wp_region_lit
   refine sa _ rfl hk rfl rfl rfl fun a hk => ?_
   show wpList _ _ _ [] _ _
   refine wpList_nil ?_
   refine hK7 _ _ ?_
   obtain ⟨o11, h12, HL13⟩ := bind_some H
   clear H
   obtain ⟨R14, hR14⟩ : ∃ R : Act → World → Prop, R = fun a w => o11 = .out () ∧ Kn [] 26 a ∧ Sat [] w0 w [(1, k0_), (2, k1_)] [] := ⟨_, rfl⟩
   refine wp_cutq R14 ?_ ?_
   ·refine wp_block ?_
    obtain ⟨fu16, h12⟩ := loopO_some h12
    obtain ⟨I15, hI15⟩ : ∃ I : Nat → Act → World → Prop, I = fun fu a w => ∃ (u10 : Int), loopN (fun s => laws_eqIntS.s0 l0 l1 s) fu u10 = some o11 ∧ Kn [(0, (.slice A0_ l0.length p0_)), (1, (.slice A1_ l1.length p1_)), (5, (.int .i64 u10))] 26 a ∧ Sat [] w0 w [(1, k0_), (2, k1_)] [] := ⟨_, rfl⟩
    refine wp_loop_ghost I15 fu16 ?_ ?_
    ·rw [hI15]
     exact ⟨0, h12, (hk.c 0 rfl (hk.c 1 rfl (hk.c 5 rfl hk.k))), (hs.pick [] rfl)⟩
    ·clear h12 hk hs
     intro fu16 a w hI0
     rw [hI15] at hI0
     obtain ⟨u10, hi, hk, hs⟩ := hI0
     obtain ⟨x17, H, h18⟩ := loop_round hi
     try dsimp only at H
     unfold laws_eqIntS.s0 at H
     apply wp_seq_k; intro K19 hK19
     apply wp_seq_k; intro K20 hK20
     apply wp_region_lit
     refine sm _ rfl hk rfl rfl rfl fun a hk => ?_
     refine sm _ rfl hk rfl rfl rfl fun a hk => ?_
     refine sle rfl hk rfl rfl rfl un31 fun a hk => ?_
     refine sv (.bool (decide (u10 < (l0.length : Int)))) hk rfl rfl rfl fun a hk => ?_
     show wpList _ _ _ [] _ _
     refine wpList_nil ?_
     refine hK20 _ _ ?_
     rcases cond_some H with ⟨c21, H⟩ | ⟨c21, H⟩
     ·have hk := hk.lit 14 c21 rfl
      refine cnd_true hk rfl rfl ?_
      refine wp_skip ?_
      refine hK19 _ _ ?_
      apply wp_seq_k; intro K22 hK22
      refine wp_block ?_
      apply wp_seq_k; intro K23 hK23
      refine wp_region_tree (.q 0 (.q 1 (.q 2 (.q 3 (.q 4 (.alt 5 (.alt 6 (.alt 7 (.alt 8 .done .stop) .stop) .stop) .stop)))))) mo (by kernel_rfl) (hs.pick [] rfl) fun _ => ?_
      have hs := hs.drew
      refine tqst (.slice A0_ l0.length p0_) hk rfl rfl rfl rfl (fun w hs => sm _ rfl hk rfl rfl rfl fun a hk => qe hk) fun a hk => ?_
      refine tqst (.int .i64 u10) hk rfl rfl rfl rfl (fun w hs => sm _ rfl hk rfl rfl rfl fun a hk => qe hk) fun a hk => ?_
      rcases ite_some H with ⟨c25, H⟩ | ⟨_, H⟩
      rotate_left
      ·cases H
      obtain ⟨b26, q27, hAc25⟩ := (v0_).some_ u10 c25.1 c25.2
      refine tqst (.pointer (some (padd A0_ (u10.toNat * 1)))) hk rfl rfl rfl rfl (fun w hs => si rfl hk rfl rfl rfl rfl un31 sz3 c25.1 c25.2 hAc25 fun a hk => qe hk) fun a hk => ?_
      obtain ⟨_, rfl, e28⟩ := (v0_).at_ 0 u10 c25.1 c25.2
      refine tqst (.int .i64 (l0.getD u10.toNat 0)) hk rfl rfl rfl rfl (fun w hs => sl (v := (.int .i64 (l0.getD u10.toNat 0))) rfl hk rfl rfl rfl ag3 ((e28 0 _ rfl).cell (hs.hasD (k := 1) rfl)) fun a hk => qe hk) fun a hk => ?_
      refine tqst (.slice A1_ l1.length p1_) hk rfl rfl rfl rfl (fun w hs => sm _ rfl hk rfl rfl rfl fun a hk => qe hk) fun a hk => ?_
      refine tsst hk rfl rfl (fun K_r24_5 hK_r24_5 w hF => ?_) wt_stop
      have hs := hs.f hF
      refine sm _ rfl hk rfl rfl rfl fun a hk => ?_
      refine se (hs.pick [] rfl) hk (hK_r24_5 _ _ ?_)
      refine tsst hk rfl rfl (fun K_r24_6 hK_r24_6 w hF => ?_) wt_stop
      have hs := hs.f hF
      rcases ite_some H with ⟨c29, H⟩ | ⟨_, H⟩
      rotate_left
      ·cases H
      obtain ⟨b30, q31, hAc29⟩ := (v1_).some_ u10 c29.1 c29.2
      refine si rfl hk rfl rfl rfl rfl un31 sz3 c29.1 c29.2 hAc29 fun a hk => ?_
      refine se (hs.pick [] rfl) hk (hK_r24_6 _ _ ?_)
      refine tsst hk rfl rfl (fun K_r24_7 hK_r24_7 w hF => ?_) wt_stop
      have hs := hs.f hF
      obtain ⟨_, rfl, e32⟩ := (v1_).at_ 0 u10 c29.1 c29.2
      refine sl (v := (.int .i64 (l1.getD u10.toNat 0))) rfl hk rfl rfl rfl ag3 ((e32 0 _ rfl).cell (hs.hasD (k := 2) rfl)) fun a hk => ?_
      refine se (hs.pick [] rfl) hk (hK_r24_7 _ _ ?_)
      refine tsst hk rfl rfl (fun K_r24_8 hK_r24_8 w hF => ?_) wt_stop
      have hs := hs.f hF
      refine sv (.bool ((l0.getD u10.toNat 0) != (l1.getD u10.toNat 0))) hk rfl rfl rfl fun a hk => ?_
      refine se (hs.pick [] rfl) hk (hK_r24_8 _ _ ?_)
      refine wtl_nil fun w hF _ => ?_
      have hs := hs.f hF
      refine hK23 _ _ ?_
      rcases cond_some H with ⟨c33, H⟩ | ⟨c33, H⟩
      ·have hk := hk.lit 25 c33 rfl
       refine cnd_true hk rfl rfl ?_
       apply wp_seq_k; intro K34 hK34
       apply wp_region_lit
       refine sa _ rfl hk rfl rfl rfl fun a hk => ?_
       show wpList _ _ _ [] _ _
       refine wpList_nil ?_
       refine hK34 _ _ ?_
       refine wp_ret ?_
       obtain rfl := Option.some.inj H
       have ho11 := h18
       try dsimp only at ho11
       subst ho11
       have H := HL13
       try dsimp only at H
       obtain rfl := Option.some.inj H
       exact fin hk _ [(.bool false)] rfl ⟨rfl, trivial⟩ ⟨rfl, (hs.pick [] rfl).dnil⟩
      ·have hk := hk.lit 25 c33 rfl
       refine cnd_false hk rfl rfl ?_
       refine wp_skip ?_
       refine hK22 _ _ ?_
       apply wp_region_lit
       refine sm _ rfl hk rfl rfl rfl fun a hk => ?_
       refine sv (.int .i64 (w64 (u10 + 1))) hk rfl rfl rfl fun a hk => ?_
       refine sa _ rfl hk rfl rfl rfl fun a hk => ?_
       show wpList _ _ _ [] _ _
       refine wpList_nil ?_
       obtain rfl := Option.some.inj H
       obtain ⟨m35, hmm35, h18⟩ := h18
       show ∃ n', n' < _ ∧ I15 n' _ _
       refine ⟨m35, hmm35, ?_⟩
       rw [hI15]
       exact ⟨(w64 (u10 + 1)), h18, (hk.c 0 rfl (hk.c 1 rfl (hk.c 5 rfl hk.k))), (hs.pick [] rfl)⟩
     ·have hk := hk.lit 14 c21 rfl
      refine cnd_false hk rfl rfl ?_
      refine wp_exit ?_
      obtain rfl := Option.some.inj H
      show R14 _ _
      rw [hR14]
      exact ⟨h18.symm, hk.k, (hs.pick [] rfl)⟩
   ·intro a w hR0
    rw [hR14] at hR0
    obtain ⟨rfl, hk, hs⟩ := hR0
    have H := HL13
    try dsimp only at H
    refine hK6 _ _ ?_
    apply wp_seq_k; intro K36 hK36
    apply wp_region_lit
    refine sa _ rfl hk rfl rfl rfl fun a hk => ?_
    show wpList _ _ _ [] _ _
    refine wpList_nil ?_
    refine hK36 _ _ ?_
    refine wp_ret ?_
    obtain rfl := Option.some.inj H
    exact fin hk _ [(.bool true)] rfl ⟨rfl, trivial⟩ ⟨rfl, (hs.pick [] rfl).dnil⟩

noncomputable def laws_eqBlock.f (x0 : S_Block) (x1 : S_Block) : Option (Bool) :=
  (bif (x0.Id != x1.Id) then (some false) else (bif (x0.Leaf != x1.Leaf) then (some false) else (bif (x0.Value != x1.Value) then (some false) else (some true))))
set_option maxRecDepth 100000 in
set_option maxHeartbeats 0 in
theorem laws_eqBlock_t (w0 : World) (x0 : S_Block) (x1 : S_Block) (r : Bool) (H : laws_eqBlock.f x0 x1 = some r) :
    Calls Try.prog 59 #[.agg #[.int .i64 x0.Id, .int .i64 x0.Leaf, .int .i64 x0.Value], .agg #[.int .i64 x1.Id, .int .i64 x1.Leaf, .int .i64 x1.Value]] w0 (Ret (fun v w => v = .bool r ∧ Sat [] w0 w [] [])) := by
  have hs : Sat [] w0 w0 [] [] := Sat.init w0 [] [] (by simp) (by simp) List.nodup_nil (by simp [blks])
  unfold laws_eqBlock.f at H
  refine enter Try.func59 rfl Try.ntmps59 rfl fun a hk => ?_
  apply wp_seq_k; intro K1 hK1
  apply wp_region_lit
  refine sbx 1 hs rfl hk rfl rfl rfl rfl fun b2 w a hk hs => ?_
  refine sbx 2 hs rfl hk rfl rfl rfl rfl fun b3 w a hk hs => ?_
  refine sa _ rfl hk rfl rfl rfl fun a hk => ?_
  show wpList _ _ _ [] _ _
  refine wpList_nil ?_
  refine hK1 _ _ ?_
  apply wp_seq_k; intro K4 hK4
  apply wp_seq_k; intro K5 hK5
  apply wp_region_lit
  refine sf ⟨b2, 0, none⟩ rfl hk rfl rfl rfl fd81_0 rfl fun a hk => ?_
  refine sl rfl hk rfl rfl rfl ag3 (box_cell hs (k := 1) rfl rfl) fun a hk => ?_
  refine sf ⟨b3, 0, none⟩ rfl hk rfl rfl rfl fd81_0 rfl fun a hk => ?_
  refine sl rfl hk rfl rfl rfl ag3 (box_cell hs (k := 2) rfl rfl) fun a hk => ?_
  refine sv (.bool (x0.Id != x1.Id)) hk rfl rfl rfl fun a hk => ?_
  show wpList _ _ _ [] _ _
  refine wpList_nil ?_
  refine hK5 _ _ ?_
  rcases cond_some H with ⟨c6, H⟩ | ⟨c6, H⟩
  ·have hk := hk.lit 9 c6 rfl
   refine cnd_true hk rfl rfl ?_
   apply wp_seq_k; intro K7 hK7
   apply wp_region_lit
   refine sa _ rfl hk rfl rfl rfl fun a hk => ?_
   show wpList _ _ _ [] _ _
   refine wpList_nil ?_
   refine hK7 _ _ ?_
   refine wp_ret ?_
   obtain rfl := Option.some.inj H
   exact fin hk _ [(.bool false)] rfl ⟨rfl, trivial⟩ ⟨rfl, (hs.pick [] rfl).dnil⟩
  ·have hk := hk.lit 9 c6 rfl
   refine cnd_false hk rfl rfl ?_
   refine wp_skip ?_
   refine hK4 _ _ ?_
   apply wp_seq_k; intro K8 hK8
   apply wp_seq_k; intro K9 hK9
   apply wp_region_lit
   refine sf ⟨b2, 1, none⟩ rfl hk rfl rfl rfl fd81_1 rfl fun a hk => ?_
   refine sl rfl hk rfl rfl rfl ag3 (box_cell hs (k := 1) rfl rfl) fun a hk => ?_
   refine sf ⟨b3, 1, none⟩ rfl hk rfl rfl rfl fd81_1 rfl fun a hk => ?_
   refine sl rfl hk rfl rfl rfl ag3 (box_cell hs (k := 2) rfl rfl) fun a hk => ?_
   refine sv (.bool (x0.Leaf != x1.Leaf)) hk rfl rfl rfl fun a hk => ?_
   show wpList _ _ _ [] _ _
   refine wpList_nil ?_
   refine hK9 _ _ ?_
   rcases cond_some H with ⟨c10, H⟩ | ⟨c10, H⟩
   ·have hk := hk.lit 14 c10 rfl
    refine cnd_true hk rfl rfl ?_
    apply wp_seq_k; intro K11 hK11
    apply wp_region_lit
    refine sa _ rfl hk rfl rfl rfl fun a hk => ?_
    show wpList _ _ _ [] _ _
    refine wpList_nil ?_
    refine hK11 _ _ ?_
    refine wp_ret ?_
    obtain rfl := Option.some.inj H
    exact fin hk _ [(.bool false)] rfl ⟨rfl, trivial⟩ ⟨rfl, (hs.pick [] rfl).dnil⟩
   ·have hk := hk.lit 14 c10 rfl
    refine cnd_false hk rfl rfl ?_
    refine wp_skip ?_
    refine hK8 _ _ ?_
    apply wp_seq_k; intro K12 hK12
    apply wp_seq_k; intro K13 hK13
    apply wp_region_lit
    refine sf ⟨b2, 2, none⟩ rfl hk rfl rfl rfl fd81_2 rfl fun a hk => ?_
    refine sl rfl hk rfl rfl rfl ag3 (box_cell hs (k := 1) rfl rfl) fun a hk => ?_
    refine sf ⟨b3, 2, none⟩ rfl hk rfl rfl rfl fd81_2 rfl fun a hk => ?_
    refine sl rfl hk rfl rfl rfl ag3 (box_cell hs (k := 2) rfl rfl) fun a hk => ?_
    refine sv (.bool (x0.Value != x1.Value)) hk rfl rfl rfl fun a hk => ?_
    show wpList _ _ _ [] _ _
    refine wpList_nil ?_
    refine hK13 _ _ ?_
    rcases cond_some H with ⟨c14, H⟩ | ⟨c14, H⟩
    ·have hk := hk.lit 19 c14 rfl
     refine cnd_true hk rfl rfl ?_
     apply wp_seq_k; intro K15 hK15
     apply wp_region_lit
     refine sa _ rfl hk rfl rfl rfl fun a hk => ?_
     show wpList _ _ _ [] _ _
     refine wpList_nil ?_
     refine hK15 _ _ ?_
     refine wp_ret ?_
     obtain rfl := Option.some.inj H
     exact fin hk _ [(.bool false)] rfl ⟨rfl, trivial⟩ ⟨rfl, (hs.pick [] rfl).dnil⟩
    ·have hk := hk.lit 19 c14 rfl
     refine cnd_false hk rfl rfl ?_
     refine wp_skip ?_
     refine hK12 _ _ ?_
     apply wp_seq_k; intro K16 hK16
     apply wp_region_lit
     refine sa _ rfl hk rfl rfl rfl fun a hk => ?_
     show wpList _ _ _ [] _ _
     refine wpList_nil ?_
     refine hK16 _ _ ?_
     refine wp_ret ?_
     obtain rfl := Option.some.inj H
     exact fin hk _ [(.bool true)] rfl ⟨rfl, trivial⟩ ⟨rfl, (hs.pick [] rfl).dnil⟩

noncomputable def laws_eqBlockS.s0 (l0 : List S_Block) (l1 : List S_Block) (u10 : Int) : Option ((Int) ⊕ Ex (Unit) (Bool)) :=
  (bif (decide (u10 < (l0.length : Int))) then (if 0 ≤ u10 ∧ u10 < (l0.length : Int) then (if 0 ≤ u10 ∧ u10 < (l1.length : Int) then ((laws_eqBlock.f (l0.getD u10.toNat z_Block) (l1.getD u10.toNat z_Block)).bind fun y33 => (bif (!y33) then (some (.inr (.ret false))) else (some (.inl (w64 (u10 + 1)))))) else none) else none) else (some (.inr (.out ()))))
noncomputable def laws_eqBlockS.f (l0 : List S_Block) (l1 : List S_Block) : Option (Bool) :=
  (bif ((l0.length : Int) != (l1.length : Int)) then (some false) else ((loopO (fun s => laws_eqBlockS.s0 l0 l1 s) 0).bind fun o => match o with | .out _ => (some true) | .ret r => (some r)))
set_option maxRecDepth 100000 in
set_option maxHeartbeats 0 in
theorem laws_eqBlockS_t (w0 : World) (A0_ : Option Addr) (p0_ : Nat) (l0 : List S_Block) (k0_ : Chunk) (v0_ : View L_Block A0_ p0_ l0 k0_) (w0_ : Has w0 k0_) (A1_ : Option Addr) (p1_ : Nat) (l1 : List S_Block) (k1_ : Chunk) (v1_ : View L_Block A1_ p1_ l1 k1_) (w1_ : Has w0 k1_) (r : Bool) (H : laws_eqBlockS.f l0 l1 = some r) :
    Calls Try.prog 15 #[.slice A0_ l0.length p0_, .slice A1_ l1.length p1_] w0 (Ret (fun v w => v = .bool r ∧ Sat [] w0 w [] [])) := by
  have hs : Sat [] w0 w0 [(1, k0_), (2, k1_)] [] := Sat.init w0 [(1, k0_), (2, k1_)] [] (by simp only [List.mem_cons, List.not_mem_nil, or_false]; rintro x (rfl | rfl) <;> assumption) (by simp) List.nodup_nil (by simp [blks])
  unfold laws_eqBlockS.f at H
  refine enter Try.func15 rfl Try.ntmps15 rfl fun a hk => ?_
  apply wp_seq_k; intro K1 hK1
  apply wp_region_lit
  refine sa _ rfl hk rfl rfl rfl fun a hk => ?_
  show wpList _ _ _ [] _ _
  refine wpList_nil ?_
  refine hK1 _ _ ?_
  apply wp_seq_k; intro K2 hK2
  apply wp_seq_k; intro K3 hK3
  apply wp_region_lit
  refine sm _ rfl hk rfl rfl rfl fun a hk => ?_
  refine sle rfl hk rfl rfl rfl un26 fun a hk => ?_
  refine sm _ rfl hk rfl rfl rfl fun a hk => ?_
  refine sle rfl hk rfl rfl rfl un26 fun a hk => ?_
  refine sv (.bool ((l0.length : Int) != (l1.length : Int))) hk rfl rfl rfl fun a hk => ?_
  show wpList _ _ _ [] _ _
  refine wpList_nil ?_
  refine hK3 _ _ ?_
  rcases cond_some H with ⟨c4, H⟩ | ⟨c4, H⟩
  ·have hk := hk.lit 10 c4 rfl
   refine cnd_true hk rfl rfl ?_
   apply wp_seq_k; intro K5 hK5
   apply wp_region_lit
   refine sa _ rfl hk rfl rfl rfl fun a hk => ?_
   show wpList _ _ _ [] _ _
   refine wpList_nil ?_
   refine hK5 _ _ ?_
   refine wp_ret ?_
   obtain rfl := Option.some.inj H
   exact fin hk _ [(.bool false)] rfl ⟨rfl, trivial⟩ ⟨rfl, (hs.pick [] rfl).dnil⟩
  ·have hk := hk.lit 10 c4 rfl
   refine cnd_false hk rfl rfl ?_
   refine wp_skip ?_
   refine hK2 _ _ ?_
   apply wp_seq_k; intro K6 hK6
   apply wp_seq_k; intro K7 hK7
   apply wp_region_lit
   refine sa _ rfl hk rfl rfl rfl fun a hk => ?_
   show wpList _ _ _ [] _ _
   refine wpList_nil ?_
   refine hK7 _ _ ?_
   obtain ⟨o11, h12, HL13⟩ := bind_some H
   clear H
   obtain ⟨R14, hR14⟩ : ∃ R : Act → World → Prop, R = fun a w => o11 = .out () ∧ Kn [] 27 a ∧ Sat [] w0 w [(1, k0_), (2, k1_)] [] := ⟨_, rfl⟩
   refine wp_cutq R14 ?_ ?_
   ·refine wp_block ?_
    obtain ⟨fu16, h12⟩ := loopO_some h12
    obtain ⟨I15, hI15⟩ : ∃ I : Nat → Act → World → Prop, I = fun fu a w => ∃ (u10 : Int), loopN (fun s => laws_eqBlockS.s0 l0 l1 s) fu u10 = some o11 ∧ Kn [(0, (.slice A0_ l0.length p0_)), (1, (.slice A1_ l1.length p1_)), (5, (.int .i64 u10))] 27 a ∧ Sat [] w0 w [(1, k0_), (2, k1_)] [] := ⟨_, rfl⟩
    refine wp_loop_ghost I15 fu16 ?_ ?_
    ·rw [hI15]
     exact ⟨0, h12, (hk.c 0 rfl (hk.c 1 rfl (hk.c 5 rfl hk.k))), (hs.pick [] rfl)⟩
    ·clear h12 hk hs
     intro fu16 a w hI0
     rw [hI15] at hI0
     obtain ⟨u10, hi, hk, hs⟩ := hI0
     obtain ⟨x17, H, h18⟩ := loop_round hi
     try dsimp only at H
     unfold laws_eqBlockS.s0 at H
     apply wp_seq_k; intro K19 hK19
     apply wp_seq_k; intro K20 hK20
     apply wp_region_lit
     refine sm _ rfl hk rfl rfl rfl fun a hk => ?_
     refine sm _ rfl hk rfl rfl rfl fun a hk => ?_
     refine sle rfl hk rfl rfl rfl un26 fun a hk => ?_
     refine sv (.bool (decide (u10 < (l0.length : Int)))) hk rfl rfl rfl fun a hk => ?_
     show wpList _ _ _ [] _ _
     refine wpList_nil ?_
     refine hK20 _ _ ?_
     rcases cond_some H with ⟨c21, H⟩ | ⟨c21, H⟩
     ·have hk := hk.lit 14 c21 rfl
      refine cnd_true hk rfl rfl ?_
      refine wp_skip ?_
      refine hK19 _ _ ?_
      apply wp_seq_k; intro K22 hK22
      refine wp_block ?_
      apply wp_seq_k; intro K23 hK23
      refine wp_region_tree (.q 0 (.q 1 (.q 2 (.q 3 (.q 4 (.alt 5 (.alt 6 (.alt 7 (.alt 8 (.alt 9 .done .stop) .stop) .stop) .stop) .stop)))))) mo (by kernel_rfl) (hs.pick [] rfl) fun _ => ?_
      have hs := hs.drew
      refine tqst (.slice A0_ l0.length p0_) hk rfl rfl rfl rfl (fun w hs => sm _ rfl hk rfl rfl rfl fun a hk => qe hk) fun a hk => ?_
      refine tqst (.int .i64 u10) hk rfl rfl rfl rfl (fun w hs => sm _ rfl hk rfl rfl rfl fun a hk => qe hk) fun a hk => ?_
      rcases ite_some H with ⟨c25, H⟩ | ⟨_, H⟩
      rotate_left
      ·cases H
      obtain ⟨b26, q27, hAc25⟩ := (v0_).some_ u10 c25.1 c25.2
      refine tqst (.pointer (some (padd A0_ (u10.toNat * 3)))) hk rfl rfl rfl rfl (fun w hs => si rfl hk rfl rfl rfl rfl un26 sz81 c25.1 c25.2 hAc25 fun a hk => qe hk) fun a hk => ?_
      obtain ⟨_, rfl, e28⟩ := (v0_).at_ z_Block u10 c25.1 c25.2
      refine tqst (.agg #[.int .i64 ((l0.getD u10.toNat z_Block).Id), .int .i64 ((l0.getD u10.toNat z_Block).Leaf), .int .i64 ((l0.getD u10.toNat z_Block).Value)]) hk rfl rfl rfl rfl (fun w hs => sln [.int .i64 ((l0.getD u10.toNat z_Block).Id), .int .i64 ((l0.getD u10.toNat z_Block).Leaf), .int .i64 ((l0.getD u10.toNat z_Block).Value)] rfl hk rfl rfl rfl ag81 sz81 (cells_at e28 (hs.hasD (k := 1) rfl)) fun a hk => qe hk) fun a hk => ?_
      refine tqst (.slice A1_ l1.length p1_) hk rfl rfl rfl rfl (fun w hs => sm _ rfl hk rfl rfl rfl fun a hk => qe hk) fun a hk => ?_
      refine tsst hk rfl rfl (fun K_r24_5 hK_r24_5 w hF => ?_) wt_stop
      have hs := hs.f hF
      refine sm _ rfl hk rfl rfl rfl fun a hk => ?_
      refine se (hs.pick [] rfl) hk (hK_r24_5 _ _ ?_)
      refine tsst hk rfl rfl (fun K_r24_6 hK_r24_6 w hF => ?_) wt_stop
      have hs := hs.f hF
      rcases ite_some H with ⟨c29, H⟩ | ⟨_, H⟩
      rotate_left
      ·cases H
      obtain ⟨b30, q31, hAc29⟩ := (v1_).some_ u10 c29.1 c29.2
      refine si rfl hk rfl rfl rfl rfl un26 sz81 c29.1 c29.2 hAc29 fun a hk => ?_
      refine se (hs.pick [] rfl) hk (hK_r24_6 _ _ ?_)
      refine tsst hk rfl rfl (fun K_r24_7 hK_r24_7 w hF => ?_) wt_stop
      have hs := hs.f hF
      obtain ⟨_, rfl, e32⟩ := (v1_).at_ z_Block u10 c29.1 c29.2
      refine sln [.int .i64 ((l1.getD u10.toNat z_Block).Id), .int .i64 ((l1.getD u10.toNat z_Block).Leaf), .int .i64 ((l1.getD u10.toNat z_Block).Value)] rfl hk rfl rfl rfl ag81 sz81 (cells_at e32 (hs.hasD (k := 2) rfl)) fun a hk => ?_
      refine se (hs.pick [] rfl) hk (hK_r24_7 _ _ ?_)
      refine tsst hk rfl rfl (fun K_r24_8 hK_r24_8 w hF => ?_) wt_stop
      have hs := hs.f hF
      obtain ⟨y33, h34, H⟩ := bind_some H
      refine sc rfl en59 hk rfl rfl rfl (laws_eqBlock_t _ (l0.getD u10.toNat z_Block) (l1.getD u10.toNat z_Block) _ h34) ?_
      rintro _ w ⟨rfl, hG⟩ a hk
      have hs := hs.call0 hG
      refine se (hs.pick [] rfl) hk (hK_r24_8 _ _ ?_)
      refine tsst hk rfl rfl (fun K_r24_9 hK_r24_9 w hF => ?_) wt_stop
      have hs := hs.f hF
      refine sv (.bool (!y33)) hk rfl rfl rfl fun a hk => ?_
      refine se (hs.pick [] rfl) hk (hK_r24_9 _ _ ?_)
      refine wtl_nil fun w hF _ => ?_
      have hs := hs.f hF
      refine hK23 _ _ ?_
      rcases cond_some H with ⟨c35, H⟩ | ⟨c35, H⟩
      ·have hk := hk.lit 26 c35 rfl
       refine cnd_true hk rfl rfl ?_
       apply wp_seq_k; intro K36 hK36
       apply wp_region_lit
       refine sa _ rfl hk rfl rfl rfl fun a hk => ?_
       show wpList _ _ _ [] _ _
       refine wpList_nil ?_
       refine hK36 _ _ ?_
       refine wp_ret ?_
       obtain rfl := Option.some.inj H
       have ho11 := h18
       try dsimp only at ho11
       subst ho11
       have H := HL13
       try dsimp only at H
       obtain rfl := Option.some.inj H
       exact fin hk _ [(.bool false)] rfl ⟨rfl, trivial⟩ ⟨rfl, (hs.pick [] rfl).dnil⟩
      ·have hk := hk.lit 26 c35 rfl
       refine cnd_false hk rfl rfl ?_
       refine wp_skip ?_
       refine hK22 _ _ ?_
       apply wp_region_lit
       refine sm _ rfl hk rfl rfl rfl fun a hk => ?_
       refine sv (.int .i64 (w64 (u10 + 1))) hk rfl rfl rfl fun a hk => ?_
       refine sa _ rfl hk rfl rfl rfl fun a hk => ?_
       show wpList _ _ _ [] _ _
       refine wpList_nil ?_
       obtain rfl := Option.some.inj H
       obtain ⟨m37, hmm37, h18⟩ := h18
       show ∃ n', n' < _ ∧ I15 n' _ _
       refine ⟨m37, hmm37, ?_⟩
       rw [hI15]
       exact ⟨(w64 (u10 + 1)), h18, (hk.c 0 rfl (hk.c 1 rfl (hk.c 5 rfl hk.k))), (hs.pick [] rfl)⟩
     ·have hk := hk.lit 14 c21 rfl
      refine cnd_false hk rfl rfl ?_
      refine wp_exit ?_
      obtain rfl := Option.some.inj H
      show R14 _ _
      rw [hR14]
      exact ⟨h18.symm, hk.k, (hs.pick [] rfl)⟩
   ·intro a w hR0
    rw [hR14] at hR0
    obtain ⟨rfl, hk, hs⟩ := hR0
    have H := HL13
    try dsimp only at H
    refine hK6 _ _ ?_
    apply wp_seq_k; intro K38 hK38
    apply wp_region_lit
    refine sa _ rfl hk rfl rfl rfl fun a hk => ?_
    show wpList _ _ _ [] _ _
    refine wpList_nil ?_
    refine hK38 _ _ ?_
    refine wp_ret ?_
    obtain rfl := Option.some.inj H
    exact fin hk _ [(.bool true)] rfl ⟨rfl, trivial⟩ ⟨rfl, (hs.pick [] rfl).dnil⟩

noncomputable def laws_eqBlockSS.s0 (l0 : List (List S_Block)) (l1 : List (List S_Block)) (u10 : Int) : Option ((Int) ⊕ Ex (Unit) (Bool)) :=
  (bif (decide (u10 < (l0.length : Int))) then (if 0 ≤ u10 ∧ u10 < (l0.length : Int) then (if 0 ≤ u10 ∧ u10 < (l1.length : Int) then ((laws_eqBlockS.f (l0.getD u10.toNat []) (l1.getD u10.toNat [])).bind fun y39 => (bif (!y39) then (some (.inr (.ret false))) else (some (.inl (w64 (u10 + 1)))))) else none) else none) else (some (.inr (.out ()))))
noncomputable def laws_eqBlockSS.f (l0 : List (List S_Block)) (l1 : List (List S_Block)) : Option (Bool) :=
  (bif ((l0.length : Int) != (l1.length : Int)) then (some false) else ((loopO (fun s => laws_eqBlockSS.s0 l0 l1 s) 0).bind fun o => match o with | .out _ => (some true) | .ret r => (some r)))
set_option maxRecDepth 100000 in
set_option maxHeartbeats 0 in
theorem laws_eqBlockSS_t (w0 : World) (A0_ : Option Addr) (p0_ : Nat) (l0 : List (List S_Block)) (k0_ : Chunk) (v0_ : View (Lay.sl L_Block 81) A0_ p0_ l0 k0_) (w0_ : Has w0 k0_) (A1_ : Option Addr) (p1_ : Nat) (l1 : List (List S_Block)) (k1_ : Chunk) (v1_ : View (Lay.sl L_Block 81) A1_ p1_ l1 k1_) (w1_ : Has w0 k1_) (r : Bool) (H : laws_eqBlockSS.f l0 l1 = some r) :
    Calls Try.prog 125 #[.slice A0_ l0.length p0_, .slice A1_ l1.length p1_] w0 (Ret (fun v w => v = .bool r ∧ Sat [] w0 w [] [])) := by
  have hs : Sat [] w0 w0 [(1, k0_), (2, k1_)] [] := Sat.init w0 [(1, k0_), (2, k1_)] [] (by simp only [List.mem_cons, List.not_mem_nil, or_false]; rintro x (rfl | rfl) <;> assumption) (by simp) List.nodup_nil (by simp [blks])
  unfold laws_eqBlockSS.f at H
  refine enter Try.func125 rfl Try.ntmps125 rfl fun a hk => ?_
  apply wp_seq_k; intro K1 hK1
  apply wp_region_lit
  refine sa _ rfl hk rfl rfl rfl fun a hk => ?_
  show wpList _ _ _ [] _ _
  refine wpList_nil ?_
  refine hK1 _ _ ?_
  apply wp_seq_k; intro K2 hK2
  apply wp_seq_k; intro K3 hK3
  apply wp_region_lit
  refine sm _ rfl hk rfl rfl rfl fun a hk => ?_
  refine sle rfl hk rfl rfl rfl un49 fun a hk => ?_
  refine sm _ rfl hk rfl rfl rfl fun a hk => ?_
  refine sle rfl hk rfl rfl rfl un49 fun a hk => ?_
  refine sv (.bool ((l0.length : Int) != (l1.length : Int))) hk rfl rfl rfl fun a hk => ?_
  show wpList _ _ _ [] _ _
  refine wpList_nil ?_
  refine hK3 _ _ ?_
  rcases cond_some H with ⟨c4, H⟩ | ⟨c4, H⟩
  ·have hk := hk.lit 10 c4 rfl
   refine cnd_true hk rfl rfl ?_
   apply wp_seq_k; intro K5 hK5
   apply wp_region_lit
   refine sa _ rfl hk rfl rfl rfl fun a hk => ?_
   show wpList _ _ _ [] _ _
   refine wpList_nil ?_
   refine hK5 _ _ ?_
   refine wp_ret ?_
   obtain rfl := Option.some.inj H
   exact fin hk _ [(.bool false)] rfl ⟨rfl, trivial⟩ ⟨rfl, (hs.pick [] rfl).dnil⟩
  ·have hk := hk.lit 10 c4 rfl
   refine cnd_false hk rfl rfl ?_
   refine wp_skip ?_
   refine hK2 _ _ ?_
   apply wp_seq_k; intro K6 hK6
   apply wp_seq_k; intro K7 hK7
   apply wp_region_lit
   refine sa _ rfl hk rfl rfl rfl fun a hk => ?_
   show wpList _ _ _ [] _ _
   refine wpList_nil ?_
   refine hK7 _ _ ?_
   obtain ⟨o11, h12, HL13⟩ := bind_some H
   clear H
   obtain ⟨R14, hR14⟩ : ∃ R : Act → World → Prop, R = fun a w => o11 = .out () ∧ Kn [] 27 a ∧ Sat [] w0 w [(1, k0_), (2, k1_)] [] := ⟨_, rfl⟩
   refine wp_cutq R14 ?_ ?_
   ·refine wp_block ?_
    obtain ⟨fu16, h12⟩ := loopO_some h12
    obtain ⟨I15, hI15⟩ : ∃ I : Nat → Act → World → Prop, I = fun fu a w => ∃ (u10 : Int), loopN (fun s => laws_eqBlockSS.s0 l0 l1 s) fu u10 = some o11 ∧ Kn [(0, (.slice A0_ l0.length p0_)), (1, (.slice A1_ l1.length p1_)), (5, (.int .i64 u10))] 27 a ∧ Sat [] w0 w [(1, k0_), (2, k1_)] [] := ⟨_, rfl⟩
    refine wp_loop_ghost I15 fu16 ?_ ?_
    ·rw [hI15]
     exact ⟨0, h12, (hk.c 0 rfl (hk.c 1 rfl (hk.c 5 rfl hk.k))), (hs.pick [] rfl)⟩
    ·clear h12 hk hs
     intro fu16 a w hI0
     rw [hI15] at hI0
     obtain ⟨u10, hi, hk, hs⟩ := hI0
     obtain ⟨x17, H, h18⟩ := loop_round hi
     try dsimp only at H
     unfold laws_eqBlockSS.s0 at H
     apply wp_seq_k; intro K19 hK19
     apply wp_seq_k; intro K20 hK20
     apply wp_region_lit
     refine sm _ rfl hk rfl rfl rfl fun a hk => ?_
     refine sm _ rfl hk rfl rfl rfl fun a hk => ?_
     refine sle rfl hk rfl rfl rfl un49 fun a hk => ?_
     refine sv (.bool (decide (u10 < (l0.length : Int)))) hk rfl rfl rfl fun a hk => ?_
     show wpList _ _ _ [] _ _
     refine wpList_nil ?_
     refine hK20 _ _ ?_
     rcases cond_some H with ⟨c21, H⟩ | ⟨c21, H⟩
     ·have hk := hk.lit 14 c21 rfl
      refine cnd_true hk rfl rfl ?_
      refine wp_skip ?_
      refine hK19 _ _ ?_
      apply wp_seq_k; intro K22 hK22
      refine wp_block ?_
      apply wp_seq_k; intro K23 hK23
      refine wp_region_tree (.q 0 (.q 1 (.q 2 (.q 3 (.q 4 (.alt 5 (.alt 6 (.alt 7 (.alt 8 (.alt 9 .done .stop) .stop) .stop) .stop) .stop)))))) mo (by kernel_rfl) (hs.pick [] rfl) fun _ => ?_
      have hs := hs.drew
      refine tqst (.slice A0_ l0.length p0_) hk rfl rfl rfl rfl (fun w hs => sm _ rfl hk rfl rfl rfl fun a hk => qe hk) fun a hk => ?_
      refine tqst (.int .i64 u10) hk rfl rfl rfl rfl (fun w hs => sm _ rfl hk rfl rfl rfl fun a hk => qe hk) fun a hk => ?_
      rcases ite_some H with ⟨c25, H⟩ | ⟨_, H⟩
      rotate_left
      ·cases H
      obtain ⟨b26, q27, hAc25⟩ := (v0_).some_ u10 c25.1 c25.2
      refine tqst (.pointer (some (padd A0_ (u10.toNat * 1)))) hk rfl rfl rfl rfl (fun w hs => si rfl hk rfl rfl rfl rfl un49 sz26 c25.1 c25.2 hAc25 fun a hk => qe hk) fun a hk => ?_
      obtain ⟨_, ⟨_, rfl, A29, p30, rfl, v31⟩, e28⟩ := (v0_).at_ [] u10 c25.1 c25.2
      refine tqst (.slice A29 (l0.getD u10.toNat []).length p30) hk rfl rfl rfl rfl (fun w hs => sl (v := (.slice A29 (l0.getD u10.toNat []).length p30)) rfl hk rfl rfl rfl ag26 ((e28 0 _ rfl).cell (hs.hasD (k := 1) rfl)) fun a hk => qe hk) fun a hk => ?_
      refine tqst (.slice A1_ l1.length p1_) hk rfl rfl rfl rfl (fun w hs => sm _ rfl hk rfl rfl rfl fun a hk => qe hk) fun a hk => ?_
      refine tsst hk rfl rfl (fun K_r24_5 hK_r24_5 w hF => ?_) wt_stop
      have hs := hs.f hF
      refine sm _ rfl hk rfl rfl rfl fun a hk => ?_
      refine se (hs.pick [] rfl) hk (hK_r24_5 _ _ ?_)
      refine tsst hk rfl rfl (fun K_r24_6 hK_r24_6 w hF => ?_) wt_stop
      have hs := hs.f hF
      rcases ite_some H with ⟨c32, H⟩ | ⟨_, H⟩
      rotate_left
      ·cases H
      obtain ⟨b33, q34, hAc32⟩ := (v1_).some_ u10 c32.1 c32.2
      refine si rfl hk rfl rfl rfl rfl un49 sz26 c32.1 c32.2 hAc32 fun a hk => ?_
      refine se (hs.pick [] rfl) hk (hK_r24_6 _ _ ?_)
      refine tsst hk rfl rfl (fun K_r24_7 hK_r24_7 w hF => ?_) wt_stop
      have hs := hs.f hF
      obtain ⟨_, ⟨_, rfl, A36, p37, rfl, v38⟩, e35⟩ := (v1_).at_ [] u10 c32.1 c32.2
      refine sl (v := (.slice A36 (l1.getD u10.toNat []).length p37)) rfl hk rfl rfl rfl ag26 ((e35 0 _ rfl).cell (hs.hasD (k := 2) rfl)) fun a hk => ?_
      refine se (hs.pick [] rfl) hk (hK_r24_7 _ _ ?_)
      refine tsst hk rfl rfl (fun K_r24_8 hK_r24_8 w hF => ?_) wt_stop
      have hs := hs.f hF
      obtain ⟨y39, h40, H⟩ := bind_some H
      refine sc rfl en15 hk rfl rfl rfl (laws_eqBlockS_t _ A29 p30 (l0.getD u10.toNat []) _ v31 (hs.hasD (k := 1) rfl) A36 p37 (l1.getD u10.toNat []) _ v38 (hs.hasD (k := 2) rfl) _ h40) ?_
      rintro _ w ⟨rfl, hG⟩ a hk
      have hs := hs.call0 hG
      refine se (hs.pick [] rfl) hk (hK_r24_8 _ _ ?_)
      refine tsst hk rfl rfl (fun K_r24_9 hK_r24_9 w hF => ?_) wt_stop
      have hs := hs.f hF
      refine sv (.bool (!y39)) hk rfl rfl rfl fun a hk => ?_
      refine se (hs.pick [] rfl) hk (hK_r24_9 _ _ ?_)
      refine wtl_nil fun w hF _ => ?_
      have hs := hs.f hF
      refine hK23 _ _ ?_
      rcases cond_some H with ⟨c41, H⟩ | ⟨c41, H⟩
      ·have hk := hk.lit 26 c41 rfl
       refine cnd_true hk rfl rfl ?_
       apply wp_seq_k; intro K42 hK42
       apply wp_region_lit
       refine sa _ rfl hk rfl rfl rfl fun a hk => ?_
       show wpList _ _ _ [] _ _
       refine wpList_nil ?_
       refine hK42 _ _ ?_
       refine wp_ret ?_
       obtain rfl := Option.some.inj H
       have ho11 := h18
       try dsimp only at ho11
       subst ho11
       have H := HL13
       try dsimp only at H
       obtain rfl := Option.some.inj H
       exact fin hk _ [(.bool false)] rfl ⟨rfl, trivial⟩ ⟨rfl, (hs.pick [] rfl).dnil⟩
      ·have hk := hk.lit 26 c41 rfl
       refine cnd_false hk rfl rfl ?_
       refine wp_skip ?_
       refine hK22 _ _ ?_
       apply wp_region_lit
       refine sm _ rfl hk rfl rfl rfl fun a hk => ?_
       refine sv (.int .i64 (w64 (u10 + 1))) hk rfl rfl rfl fun a hk => ?_
       refine sa _ rfl hk rfl rfl rfl fun a hk => ?_
       show wpList _ _ _ [] _ _
       refine wpList_nil ?_
       obtain rfl := Option.some.inj H
       obtain ⟨m43, hmm43, h18⟩ := h18
       show ∃ n', n' < _ ∧ I15 n' _ _
       refine ⟨m43, hmm43, ?_⟩
       rw [hI15]
       exact ⟨(w64 (u10 + 1)), h18, (hk.c 0 rfl (hk.c 1 rfl (hk.c 5 rfl hk.k))), (hs.pick [] rfl)⟩
     ·have hk := hk.lit 14 c21 rfl
      refine cnd_false hk rfl rfl ?_
      refine wp_exit ?_
      obtain rfl := Option.some.inj H
      show R14 _ _
      rw [hR14]
      exact ⟨h18.symm, hk.k, (hs.pick [] rfl)⟩
   ·intro a w hR0
    rw [hR14] at hR0
    obtain ⟨rfl, hk, hs⟩ := hR0
    have H := HL13
    try dsimp only at H
    refine hK6 _ _ ?_
    apply wp_seq_k; intro K44 hK44
    apply wp_region_lit
    refine sa _ rfl hk rfl rfl rfl fun a hk => ?_
    show wpList _ _ _ [] _ _
    refine wpList_nil ?_
    refine hK44 _ _ ?_
    refine wp_ret ?_
    obtain rfl := Option.some.inj H
    exact fin hk _ [(.bool true)] rfl ⟨rfl, trivial⟩ ⟨rfl, (hs.pick [] rfl).dnil⟩

noncomputable def laws_eqOram.f (x0 : S_Oram) (x1 : S_Oram) : Option (Bool) :=
  ((laws_eqIntS.f x0.Pos x1.Pos).bind fun y6 => (bif (!y6) then (some false) else ((laws_eqBlockS.f x0.Stash x1.Stash).bind fun y12 => (bif (!y12) then (some false) else ((laws_eqBlockSS.f x0.Buckets x1.Buckets).bind fun y18 => (bif (!y18) then (some false) else (some true)))))))
set_option maxRecDepth 100000 in
set_option maxHeartbeats 0 in
theorem laws_eqOram_t (w0 : World) (x0 : S_Oram) (A0_0 : Option Addr) (p0_0 : Nat) (k0_0 : Chunk) (v0_0 : View (Lay.int .i64) A0_0 p0_0 x0.Pos k0_0) (w0_0 : Has w0 k0_0) (A0_1 : Option Addr) (p0_1 : Nat) (k0_1 : Chunk) (v0_1 : View L_Block A0_1 p0_1 x0.Stash k0_1) (w0_1 : Has w0 k0_1) (A0_2 : Option Addr) (p0_2 : Nat) (k0_2 : Chunk) (v0_2 : View (Lay.sl L_Block 81) A0_2 p0_2 x0.Buckets k0_2) (w0_2 : Has w0 k0_2) (x1 : S_Oram) (A1_0 : Option Addr) (p1_0 : Nat) (k1_0 : Chunk) (v1_0 : View (Lay.int .i64) A1_0 p1_0 x1.Pos k1_0) (w1_0 : Has w0 k1_0) (A1_1 : Option Addr) (p1_1 : Nat) (k1_1 : Chunk) (v1_1 : View L_Block A1_1 p1_1 x1.Stash k1_1) (w1_1 : Has w0 k1_1) (A1_2 : Option Addr) (p1_2 : Nat) (k1_2 : Chunk) (v1_2 : View (Lay.sl L_Block 81) A1_2 p1_2 x1.Buckets k1_2) (w1_2 : Has w0 k1_2) (r : Bool) (H : laws_eqOram.f x0 x1 = some r) :
    Calls Try.prog 78 #[.agg #[.slice A0_0 x0.Pos.length p0_0, .slice A0_1 x0.Stash.length p0_1, .slice A0_2 x0.Buckets.length p0_2], .agg #[.slice A1_0 x1.Pos.length p1_0, .slice A1_1 x1.Stash.length p1_1, .slice A1_2 x1.Buckets.length p1_2]] w0 (Ret (fun v w => v = .bool r ∧ Sat [] w0 w [] [])) := by
  have hs : Sat [] w0 w0 [(1, k0_0), (2, k0_1), (3, k0_2), (4, k1_0), (5, k1_1), (6, k1_2)] [] := Sat.init w0 [(1, k0_0), (2, k0_1), (3, k0_2), (4, k1_0), (5, k1_1), (6, k1_2)] [] (by simp only [List.mem_cons, List.not_mem_nil, or_false]; rintro x (rfl | rfl | rfl | rfl | rfl | rfl) <;> assumption) (by simp) List.nodup_nil (by simp [blks])
  unfold laws_eqOram.f at H
  refine enter Try.func78 rfl Try.ntmps78 rfl fun a hk => ?_
  apply wp_seq_k; intro K1 hK1
  apply wp_region_lit
  refine sbx 7 hs rfl hk rfl rfl rfl rfl fun b2 w a hk hs => ?_
  refine sbx 8 hs rfl hk rfl rfl rfl rfl fun b3 w a hk hs => ?_
  refine sa _ rfl hk rfl rfl rfl fun a hk => ?_
  show wpList _ _ _ [] _ _
  refine wpList_nil ?_
  refine hK1 _ _ ?_
  apply wp_seq_k; intro K4 hK4
  apply wp_seq_k; intro K5 hK5
  apply wp_region_lit
  refine sf ⟨b2, 0, none⟩ rfl hk rfl rfl rfl fd51_0 rfl fun a hk => ?_
  refine sl rfl hk rfl rfl rfl ag31 (box_cell hs (k := 7) rfl rfl) fun a hk => ?_
  refine sf ⟨b3, 0, none⟩ rfl hk rfl rfl rfl fd51_0 rfl fun a hk => ?_
  refine sl rfl hk rfl rfl rfl ag31 (box_cell hs (k := 8) rfl rfl) fun a hk => ?_
  obtain ⟨y6, h7, H⟩ := bind_some H
  refine sc rfl en22 hk rfl rfl rfl (laws_eqIntS_t _ A0_0 p0_0 x0.Pos _ v0_0 (hs.hasD (k := 1) rfl) A1_0 p1_0 x1.Pos _ v1_0 (hs.hasD (k := 4) rfl) _ h7) ?_
  rintro _ w ⟨rfl, hG⟩ a hk
  have hs := hs.call0 hG
  refine sv (.bool (!y6)) hk rfl rfl rfl fun a hk => ?_
  show wpList _ _ _ [] _ _
  refine wpList_nil ?_
  refine hK5 _ _ ?_
  rcases cond_some H with ⟨c8, H⟩ | ⟨c8, H⟩
  ·have hk := hk.lit 10 c8 rfl
   refine cnd_true hk rfl rfl ?_
   apply wp_seq_k; intro K9 hK9
   apply wp_region_lit
   refine sa _ rfl hk rfl rfl rfl fun a hk => ?_
   show wpList _ _ _ [] _ _
   refine wpList_nil ?_
   refine hK9 _ _ ?_
   refine wp_ret ?_
   obtain rfl := Option.some.inj H
   exact fin hk _ [(.bool false)] rfl ⟨rfl, trivial⟩ ⟨rfl, (hs.pick [] rfl).dnil⟩
  ·have hk := hk.lit 10 c8 rfl
   refine cnd_false hk rfl rfl ?_
   refine wp_skip ?_
   refine hK4 _ _ ?_
   apply wp_seq_k; intro K10 hK10
   apply wp_seq_k; intro K11 hK11
   apply wp_region_lit
   refine sf ⟨b2, 1, none⟩ rfl hk rfl rfl rfl fd51_1 rfl fun a hk => ?_
   refine sl rfl hk rfl rfl rfl ag26 (box_cell hs (k := 7) rfl rfl) fun a hk => ?_
   refine sf ⟨b3, 1, none⟩ rfl hk rfl rfl rfl fd51_1 rfl fun a hk => ?_
   refine sl rfl hk rfl rfl rfl ag26 (box_cell hs (k := 8) rfl rfl) fun a hk => ?_
   obtain ⟨y12, h13, H⟩ := bind_some H
   refine sc rfl en15 hk rfl rfl rfl (laws_eqBlockS_t _ A0_1 p0_1 x0.Stash _ v0_1 (hs.hasD (k := 2) rfl) A1_1 p1_1 x1.Stash _ v1_1 (hs.hasD (k := 5) rfl) _ h13) ?_
   rintro _ w ⟨rfl, hG⟩ a hk
   have hs := hs.call0 hG
   refine sv (.bool (!y12)) hk rfl rfl rfl fun a hk => ?_
   show wpList _ _ _ [] _ _
   refine wpList_nil ?_
   refine hK11 _ _ ?_
   rcases cond_some H with ⟨c14, H⟩ | ⟨c14, H⟩
   ·have hk := hk.lit 16 c14 rfl
    refine cnd_true hk rfl rfl ?_
    apply wp_seq_k; intro K15 hK15
    apply wp_region_lit
    refine sa _ rfl hk rfl rfl rfl fun a hk => ?_
    show wpList _ _ _ [] _ _
    refine wpList_nil ?_
    refine hK15 _ _ ?_
    refine wp_ret ?_
    obtain rfl := Option.some.inj H
    exact fin hk _ [(.bool false)] rfl ⟨rfl, trivial⟩ ⟨rfl, (hs.pick [] rfl).dnil⟩
   ·have hk := hk.lit 16 c14 rfl
    refine cnd_false hk rfl rfl ?_
    refine wp_skip ?_
    refine hK10 _ _ ?_
    apply wp_seq_k; intro K16 hK16
    apply wp_seq_k; intro K17 hK17
    apply wp_region_lit
    refine sf ⟨b2, 2, none⟩ rfl hk rfl rfl rfl fd51_2 rfl fun a hk => ?_
    refine sl rfl hk rfl rfl rfl ag49 (box_cell hs (k := 7) rfl rfl) fun a hk => ?_
    refine sf ⟨b3, 2, none⟩ rfl hk rfl rfl rfl fd51_2 rfl fun a hk => ?_
    refine sl rfl hk rfl rfl rfl ag49 (box_cell hs (k := 8) rfl rfl) fun a hk => ?_
    obtain ⟨y18, h19, H⟩ := bind_some H
    refine sc rfl en125 hk rfl rfl rfl (laws_eqBlockSS_t _ A0_2 p0_2 x0.Buckets _ v0_2 (hs.hasD (k := 3) rfl) A1_2 p1_2 x1.Buckets _ v1_2 (hs.hasD (k := 6) rfl) _ h19) ?_
    rintro _ w ⟨rfl, hG⟩ a hk
    have hs := hs.call0 hG
    refine sv (.bool (!y18)) hk rfl rfl rfl fun a hk => ?_
    show wpList _ _ _ [] _ _
    refine wpList_nil ?_
    refine hK17 _ _ ?_
    rcases cond_some H with ⟨c20, H⟩ | ⟨c20, H⟩
    ·have hk := hk.lit 22 c20 rfl
     refine cnd_true hk rfl rfl ?_
     apply wp_seq_k; intro K21 hK21
     apply wp_region_lit
     refine sa _ rfl hk rfl rfl rfl fun a hk => ?_
     show wpList _ _ _ [] _ _
     refine wpList_nil ?_
     refine hK21 _ _ ?_
     refine wp_ret ?_
     obtain rfl := Option.some.inj H
     exact fin hk _ [(.bool false)] rfl ⟨rfl, trivial⟩ ⟨rfl, (hs.pick [] rfl).dnil⟩
    ·have hk := hk.lit 22 c20 rfl
     refine cnd_false hk rfl rfl ?_
     refine wp_skip ?_
     refine hK16 _ _ ?_
     apply wp_seq_k; intro K22 hK22
     apply wp_region_lit
     refine sa _ rfl hk rfl rfl rfl fun a hk => ?_
     show wpList _ _ _ [] _ _
     refine wpList_nil ?_
     refine hK22 _ _ ?_
     refine wp_ret ?_
     obtain rfl := Option.some.inj H
     exact fin hk _ [(.bool true)] rfl ⟨rfl, trivial⟩ ⟨rfl, (hs.pick [] rfl).dnil⟩

noncomputable def laws_eqEnc.f (x0 : S_Enc) (x1 : S_Enc) : Option (Bool) :=
  ((laws_eqIntS.f x0.Keys x1.Keys).bind fun y6 => (bif (!y6) then (some false) else ((laws_eqOram.f x0.Oram x1.Oram).bind fun y12 => (bif (!y12) then (some false) else (some true)))))
set_option maxRecDepth 100000 in
set_option maxHeartbeats 0 in
theorem laws_eqEnc_t (w0 : World) (x0 : S_Enc) (A0_0 : Option Addr) (p0_0 : Nat) (k0_0 : Chunk) (v0_0 : View (Lay.int .i64) A0_0 p0_0 x0.Keys k0_0) (w0_0 : Has w0 k0_0) (A0_1 : Option Addr) (p0_1 : Nat) (k0_1 : Chunk) (v0_1 : View (Lay.int .i64) A0_1 p0_1 x0.Oram.Pos k0_1) (w0_1 : Has w0 k0_1) (A0_2 : Option Addr) (p0_2 : Nat) (k0_2 : Chunk) (v0_2 : View L_Block A0_2 p0_2 x0.Oram.Stash k0_2) (w0_2 : Has w0 k0_2) (A0_3 : Option Addr) (p0_3 : Nat) (k0_3 : Chunk) (v0_3 : View (Lay.sl L_Block 81) A0_3 p0_3 x0.Oram.Buckets k0_3) (w0_3 : Has w0 k0_3) (x1 : S_Enc) (A1_0 : Option Addr) (p1_0 : Nat) (k1_0 : Chunk) (v1_0 : View (Lay.int .i64) A1_0 p1_0 x1.Keys k1_0) (w1_0 : Has w0 k1_0) (A1_1 : Option Addr) (p1_1 : Nat) (k1_1 : Chunk) (v1_1 : View (Lay.int .i64) A1_1 p1_1 x1.Oram.Pos k1_1) (w1_1 : Has w0 k1_1) (A1_2 : Option Addr) (p1_2 : Nat) (k1_2 : Chunk) (v1_2 : View L_Block A1_2 p1_2 x1.Oram.Stash k1_2) (w1_2 : Has w0 k1_2) (A1_3 : Option Addr) (p1_3 : Nat) (k1_3 : Chunk) (v1_3 : View (Lay.sl L_Block 81) A1_3 p1_3 x1.Oram.Buckets k1_3) (w1_3 : Has w0 k1_3) (r : Bool) (H : laws_eqEnc.f x0 x1 = some r) :
    Calls Try.prog 29 #[.agg #[.slice A0_0 x0.Keys.length p0_0, .slice A0_1 x0.Oram.Pos.length p0_1, .slice A0_2 x0.Oram.Stash.length p0_2, .slice A0_3 x0.Oram.Buckets.length p0_3], .agg #[.slice A1_0 x1.Keys.length p1_0, .slice A1_1 x1.Oram.Pos.length p1_1, .slice A1_2 x1.Oram.Stash.length p1_2, .slice A1_3 x1.Oram.Buckets.length p1_3]] w0 (Ret (fun v w => v = .bool r ∧ Sat [] w0 w [] [])) := by
  have hs : Sat [] w0 w0 [(1, k0_0), (2, k0_1), (3, k0_2), (4, k0_3), (5, k1_0), (6, k1_1), (7, k1_2), (8, k1_3)] [] := Sat.init w0 [(1, k0_0), (2, k0_1), (3, k0_2), (4, k0_3), (5, k1_0), (6, k1_1), (7, k1_2), (8, k1_3)] [] (by simp only [List.mem_cons, List.not_mem_nil, or_false]; rintro x (rfl | rfl | rfl | rfl | rfl | rfl | rfl | rfl) <;> assumption) (by simp) List.nodup_nil (by simp [blks])
  unfold laws_eqEnc.f at H
  refine enter Try.func29 rfl Try.ntmps29 rfl fun a hk => ?_
  apply wp_seq_k; intro K1 hK1
  apply wp_region_lit
  refine sbx 9 hs rfl hk rfl rfl rfl rfl fun b2 w a hk hs => ?_
  refine sbx 10 hs rfl hk rfl rfl rfl rfl fun b3 w a hk hs => ?_
  refine sa _ rfl hk rfl rfl rfl fun a hk => ?_
  show wpList _ _ _ [] _ _
  refine wpList_nil ?_
  refine hK1 _ _ ?_
  apply wp_seq_k; intro K4 hK4
  apply wp_seq_k; intro K5 hK5
  apply wp_region_lit
  refine sf ⟨b2, 0, none⟩ rfl hk rfl rfl rfl fd53_0 rfl fun a hk => ?_
  refine sl rfl hk rfl rfl rfl ag31 (box_cell hs (k := 9) rfl rfl) fun a hk => ?_
  refine sf ⟨b3, 0, none⟩ rfl hk rfl rfl rfl fd53_0 rfl fun a hk => ?_
  refine sl rfl hk rfl rfl rfl ag31 (box_cell hs (k := 10) rfl rfl) fun a hk => ?_
  obtain ⟨y6, h7, H⟩ := bind_some H
  refine sc rfl en22 hk rfl rfl rfl (laws_eqIntS_t _ A0_0 p0_0 x0.Keys _ v0_0 (hs.hasD (k := 1) rfl) A1_0 p1_0 x1.Keys _ v1_0 (hs.hasD (k := 5) rfl) _ h7) ?_
  rintro _ w ⟨rfl, hG⟩ a hk
  have hs := hs.call0 hG
  refine sv (.bool (!y6)) hk rfl rfl rfl fun a hk => ?_
  show wpList _ _ _ [] _ _
  refine wpList_nil ?_
  refine hK5 _ _ ?_
  rcases cond_some H with ⟨c8, H⟩ | ⟨c8, H⟩
  ·have hk := hk.lit 10 c8 rfl
   refine cnd_true hk rfl rfl ?_
   apply wp_seq_k; intro K9 hK9
   apply wp_region_lit
   refine sa _ rfl hk rfl rfl rfl fun a hk => ?_
   show wpList _ _ _ [] _ _
   refine wpList_nil ?_
   refine hK9 _ _ ?_
   refine wp_ret ?_
   obtain rfl := Option.some.inj H
   exact fin hk _ [(.bool false)] rfl ⟨rfl, trivial⟩ ⟨rfl, (hs.pick [] rfl).dnil⟩
  ·have hk := hk.lit 10 c8 rfl
   refine cnd_false hk rfl rfl ?_
   refine wp_skip ?_
   refine hK4 _ _ ?_
   apply wp_seq_k; intro K10 hK10
   apply wp_seq_k; intro K11 hK11
   apply wp_region_lit
   refine sf ⟨b2, 1, none⟩ rfl hk rfl rfl rfl fd53_1 rfl fun a hk => ?_
   refine sln [.slice A0_1 x0.Oram.Pos.length p0_1, .slice A0_2 x0.Oram.Stash.length p0_2, .slice A0_3 x0.Oram.Buckets.length p0_3] rfl hk rfl rfl rfl ag51 sz51 (box_part hs (k := 9) rfl rfl) fun a hk => ?_
   refine sf ⟨b3, 1, none⟩ rfl hk rfl rfl rfl fd53_1 rfl fun a hk => ?_
   refine sln [.slice A1_1 x1.Oram.Pos.length p1_1, .slice A1_2 x1.Oram.Stash.length p1_2, .slice A1_3 x1.Oram.Buckets.length p1_3] rfl hk rfl rfl rfl ag51 sz51 (box_part hs (k := 10) rfl rfl) fun a hk => ?_
   obtain ⟨y12, h13, H⟩ := bind_some H
   refine sc rfl en78 hk rfl rfl rfl (laws_eqOram_t _ x0.Oram A0_1 p0_1 _ v0_1 (hs.hasD (k := 2) rfl) A0_2 p0_2 _ v0_2 (hs.hasD (k := 3) rfl) A0_3 p0_3 _ v0_3 (hs.hasD (k := 4) rfl) x1.Oram A1_1 p1_1 _ v1_1 (hs.hasD (k := 6) rfl) A1_2 p1_2 _ v1_2 (hs.hasD (k := 7) rfl) A1_3 p1_3 _ v1_3 (hs.hasD (k := 8) rfl) _ h13) ?_
   rintro _ w ⟨rfl, hG⟩ a hk
   have hs := hs.call0 hG
   refine sv (.bool (!y12)) hk rfl rfl rfl fun a hk => ?_
   show wpList _ _ _ [] _ _
   refine wpList_nil ?_
   refine hK11 _ _ ?_
   rcases cond_some H with ⟨c14, H⟩ | ⟨c14, H⟩
   ·have hk := hk.lit 16 c14 rfl
    refine cnd_true hk rfl rfl ?_
    apply wp_seq_k; intro K15 hK15
    apply wp_region_lit
    refine sa _ rfl hk rfl rfl rfl fun a hk => ?_
    show wpList _ _ _ [] _ _
    refine wpList_nil ?_
    refine hK15 _ _ ?_
    refine wp_ret ?_
    obtain rfl := Option.some.inj H
    exact fin hk _ [(.bool false)] rfl ⟨rfl, trivial⟩ ⟨rfl, (hs.pick [] rfl).dnil⟩
   ·have hk := hk.lit 16 c14 rfl
    refine cnd_false hk rfl rfl ?_
    refine wp_skip ?_
    refine hK10 _ _ ?_
    apply wp_seq_k; intro K16 hK16
    apply wp_region_lit
    refine sa _ rfl hk rfl rfl rfl fun a hk => ?_
    show wpList _ _ _ [] _ _
    refine wpList_nil ?_
    refine hK16 _ _ ?_
    refine wp_ret ?_
    obtain rfl := Option.some.inj H
    exact fin hk _ [(.bool true)] rfl ⟨rfl, trivial⟩ ⟨rfl, (hs.pick [] rfl).dnil⟩

noncomputable def laws_eqResult.f (x0 : S_Result) (x1 : S_Result) : Option (Bool) :=
  (bif (x0.Code != x1.Code) then (some false) else ((laws_eqIntS.f x0.Values x1.Values).bind fun y10 => (bif (!y10) then (some false) else (some true))))
set_option maxRecDepth 100000 in
set_option maxHeartbeats 0 in
theorem laws_eqResult_t (w0 : World) (x0 : S_Result) (A0_0 : Option Addr) (p0_0 : Nat) (k0_0 : Chunk) (v0_0 : View (Lay.int .i64) A0_0 p0_0 x0.Values k0_0) (w0_0 : Has w0 k0_0) (x1 : S_Result) (A1_0 : Option Addr) (p1_0 : Nat) (k1_0 : Chunk) (v1_0 : View (Lay.int .i64) A1_0 p1_0 x1.Values k1_0) (w1_0 : Has w0 k1_0) (r : Bool) (H : laws_eqResult.f x0 x1 = some r) :
    Calls Try.prog 79 #[.agg #[.int .i64 x0.Code, .slice A0_0 x0.Values.length p0_0], .agg #[.int .i64 x1.Code, .slice A1_0 x1.Values.length p1_0]] w0 (Ret (fun v w => v = .bool r ∧ Sat [] w0 w [] [])) := by
  have hs : Sat [] w0 w0 [(1, k0_0), (2, k1_0)] [] := Sat.init w0 [(1, k0_0), (2, k1_0)] [] (by simp only [List.mem_cons, List.not_mem_nil, or_false]; rintro x (rfl | rfl) <;> assumption) (by simp) List.nodup_nil (by simp [blks])
  unfold laws_eqResult.f at H
  refine enter Try.func79 rfl Try.ntmps79 rfl fun a hk => ?_
  apply wp_seq_k; intro K1 hK1
  apply wp_region_lit
  refine sbx 3 hs rfl hk rfl rfl rfl rfl fun b2 w a hk hs => ?_
  refine sbx 4 hs rfl hk rfl rfl rfl rfl fun b3 w a hk hs => ?_
  refine sa _ rfl hk rfl rfl rfl fun a hk => ?_
  show wpList _ _ _ [] _ _
  refine wpList_nil ?_
  refine hK1 _ _ ?_
  apply wp_seq_k; intro K4 hK4
  apply wp_seq_k; intro K5 hK5
  apply wp_region_lit
  refine sf ⟨b2, 0, none⟩ rfl hk rfl rfl rfl fd105_0 rfl fun a hk => ?_
  refine sl rfl hk rfl rfl rfl ag3 (box_cell hs (k := 3) rfl rfl) fun a hk => ?_
  refine sf ⟨b3, 0, none⟩ rfl hk rfl rfl rfl fd105_0 rfl fun a hk => ?_
  refine sl rfl hk rfl rfl rfl ag3 (box_cell hs (k := 4) rfl rfl) fun a hk => ?_
  refine sv (.bool (x0.Code != x1.Code)) hk rfl rfl rfl fun a hk => ?_
  show wpList _ _ _ [] _ _
  refine wpList_nil ?_
  refine hK5 _ _ ?_
  rcases cond_some H with ⟨c6, H⟩ | ⟨c6, H⟩
  ·have hk := hk.lit 9 c6 rfl
   refine cnd_true hk rfl rfl ?_
   apply wp_seq_k; intro K7 hK7
   apply wp_region_lit
   refine sa _ rfl hk rfl rfl rfl fun a hk => ?_
   show wpList _ _ _ [] _ _
   refine wpList_nil ?_
   refine hK7 _ _ ?_
   refine wp_ret ?_
   obtain rfl := Option.some.inj H
   exact fin hk _ [(.bool false)] rfl ⟨rfl, trivial⟩ ⟨rfl, (hs.pick [] rfl).dnil⟩
  ·have hk := hk.lit 9 c6 rfl
   refine cnd_false hk rfl rfl ?_
   refine wp_skip ?_
   refine hK4 _ _ ?_
   apply wp_seq_k; intro K8 hK8
   apply wp_seq_k; intro K9 hK9
   apply wp_region_lit
   refine sf ⟨b2, 1, none⟩ rfl hk rfl rfl rfl fd105_1 rfl fun a hk => ?_
   refine sl rfl hk rfl rfl rfl ag31 (box_cell hs (k := 3) rfl rfl) fun a hk => ?_
   refine sf ⟨b3, 1, none⟩ rfl hk rfl rfl rfl fd105_1 rfl fun a hk => ?_
   refine sl rfl hk rfl rfl rfl ag31 (box_cell hs (k := 4) rfl rfl) fun a hk => ?_
   obtain ⟨y10, h11, H⟩ := bind_some H
   refine sc rfl en22 hk rfl rfl rfl (laws_eqIntS_t _ A0_0 p0_0 x0.Values _ v0_0 (hs.hasD (k := 1) rfl) A1_0 p1_0 x1.Values _ v1_0 (hs.hasD (k := 2) rfl) _ h11) ?_
   rintro _ w ⟨rfl, hG⟩ a hk
   have hs := hs.call0 hG
   refine sv (.bool (!y10)) hk rfl rfl rfl fun a hk => ?_
   show wpList _ _ _ [] _ _
   refine wpList_nil ?_
   refine hK9 _ _ ?_
   rcases cond_some H with ⟨c12, H⟩ | ⟨c12, H⟩
   ·have hk := hk.lit 15 c12 rfl
    refine cnd_true hk rfl rfl ?_
    apply wp_seq_k; intro K13 hK13
    apply wp_region_lit
    refine sa _ rfl hk rfl rfl rfl fun a hk => ?_
    show wpList _ _ _ [] _ _
    refine wpList_nil ?_
    refine hK13 _ _ ?_
    refine wp_ret ?_
    obtain rfl := Option.some.inj H
    exact fin hk _ [(.bool false)] rfl ⟨rfl, trivial⟩ ⟨rfl, (hs.pick [] rfl).dnil⟩
   ·have hk := hk.lit 15 c12 rfl
    refine cnd_false hk rfl rfl ?_
    refine wp_skip ?_
    refine hK8 _ _ ?_
    apply wp_seq_k; intro K14 hK14
    apply wp_region_lit
    refine sa _ rfl hk rfl rfl rfl fun a hk => ?_
    show wpList _ _ _ [] _ _
    refine wpList_nil ?_
    refine hK14 _ _ ?_
    refine wp_ret ?_
    obtain rfl := Option.some.inj H
    exact fin hk _ [(.bool true)] rfl ⟨rfl, trivial⟩ ⟨rfl, (hs.pick [] rfl).dnil⟩

noncomputable def laws_eqResultS.s0 (l0 : List S_Result) (l1 : List S_Result) (u10 : Int) : Option ((Int) ⊕ Ex (Unit) (Bool)) :=
  (bif (decide (u10 < (l0.length : Int))) then (if 0 ≤ u10 ∧ u10 < (l0.length : Int) then (if 0 ≤ u10 ∧ u10 < (l1.length : Int) then ((laws_eqResult.f (l0.getD u10.toNat z_Result) (l1.getD u10.toNat z_Result)).bind fun y39 => (bif (!y39) then (some (.inr (.ret false))) else (some (.inl (w64 (u10 + 1)))))) else none) else none) else (some (.inr (.out ()))))
noncomputable def laws_eqResultS.f (l0 : List S_Result) (l1 : List S_Result) : Option (Bool) :=
  (bif ((l0.length : Int) != (l1.length : Int)) then (some false) else ((loopO (fun s => laws_eqResultS.s0 l0 l1 s) 0).bind fun o => match o with | .out _ => (some true) | .ret r => (some r)))
set_option maxRecDepth 100000 in
set_option maxHeartbeats 0 in
theorem laws_eqResultS_t (w0 : World) (A0_ : Option Addr) (p0_ : Nat) (l0 : List S_Result) (k0_ : Chunk) (v0_ : View L_impl_Result A0_ p0_ l0 k0_) (w0_ : Has w0 k0_) (A1_ : Option Addr) (p1_ : Nat) (l1 : List S_Result) (k1_ : Chunk) (v1_ : View L_impl_Result A1_ p1_ l1 k1_) (w1_ : Has w0 k1_) (r : Bool) (H : laws_eqResultS.f l0 l1 = some r) :
    Calls Try.prog 30 #[.slice A0_ l0.length p0_, .slice A1_ l1.length p1_] w0 (Ret (fun v w => v = .bool r ∧ Sat [] w0 w [] [])) := by
  have hs : Sat [] w0 w0 [(1, k0_), (2, k1_)] [] := Sat.init w0 [(1, k0_), (2, k1_)] [] (by simp only [List.mem_cons, List.not_mem_nil, or_false]; rintro x (rfl | rfl) <;> assumption) (by simp) List.nodup_nil (by simp [blks])
  unfold laws_eqResultS.f at H
  refine enter Try.func30 rfl Try.ntmps30 rfl fun a hk => ?_
  apply wp_seq_k; intro K1 hK1
  apply wp_region_lit
  refine sa _ rfl hk rfl rfl rfl fun a hk => ?_
  show wpList _ _ _ [] _ _
  refine wpList_nil ?_
  refine hK1 _ _ ?_
  apply wp_seq_k; intro K2 hK2
  apply wp_seq_k; intro K3 hK3
  apply wp_region_lit
  refine sm _ rfl hk rfl rfl rfl fun a hk => ?_
  refine sle rfl hk rfl rfl rfl un55 fun a hk => ?_
  refine sm _ rfl hk rfl rfl rfl fun a hk => ?_
  refine sle rfl hk rfl rfl rfl un55 fun a hk => ?_
  refine sv (.bool ((l0.length : Int) != (l1.length : Int))) hk rfl rfl rfl fun a hk => ?_
  show wpList _ _ _ [] _ _
  refine wpList_nil ?_
  refine hK3 _ _ ?_
  rcases cond_some H with ⟨c4, H⟩ | ⟨c4, H⟩
  ·have hk := hk.lit 10 c4 rfl
   refine cnd_true hk rfl rfl ?_
   apply wp_seq_k; intro K5 hK5
   apply wp_region_lit
   refine sa _ rfl hk rfl rfl rfl fun a hk => ?_
   show wpList _ _ _ [] _ _
   refine wpList_nil ?_
   refine hK5 _ _ ?_
   refine wp_ret ?_
   obtain rfl := Option.some.inj H
   exact fin hk _ [(.bool false)] rfl ⟨rfl, trivial⟩ ⟨rfl, (hs.pick [] rfl).dnil⟩
  ·have hk := hk.lit 10 c4 rfl
   refine cnd_false hk rfl rfl ?_
   refine wp_skip ?_
   refine hK2 _ _ ?_
   apply wp_seq_k; intro K6 hK6
   apply wp_seq_k; intro K7 hK7
   apply wp_region_lit
   refine sa _ rfl hk rfl rfl rfl fun a hk => ?_
   show wpList _ _ _ [] _ _
   refine wpList_nil ?_
   refine hK7 _ _ ?_
   obtain ⟨o11, h12, HL13⟩ := bind_some H
   clear H
   obtain ⟨R14, hR14⟩ : ∃ R : Act → World → Prop, R = fun a w => o11 = .out () ∧ Kn [] 27 a ∧ Sat [] w0 w [(1, k0_), (2, k1_)] [] := ⟨_, rfl⟩
   refine wp_cutq R14 ?_ ?_
   ·refine wp_block ?_
    obtain ⟨fu16, h12⟩ := loopO_some h12
    obtain ⟨I15, hI15⟩ : ∃ I : Nat → Act → World → Prop, I = fun fu a w => ∃ (u10 : Int), loopN (fun s => laws_eqResultS.s0 l0 l1 s) fu u10 = some o11 ∧ Kn [(0, (.slice A0_ l0.length p0_)), (1, (.slice A1_ l1.length p1_)), (5, (.int .i64 u10))] 27 a ∧ Sat [] w0 w [(1, k0_), (2, k1_)] [] := ⟨_, rfl⟩
    refine wp_loop_ghost I15 fu16 ?_ ?_
    ·rw [hI15]
     exact ⟨0, h12, (hk.c 0 rfl (hk.c 1 rfl (hk.c 5 rfl hk.k))), (hs.pick [] rfl)⟩
    ·clear h12 hk hs
     intro fu16 a w hI0
     rw [hI15] at hI0
     obtain ⟨u10, hi, hk, hs⟩ := hI0
     obtain ⟨x17, H, h18⟩ := loop_round hi
     try dsimp only at H
     unfold laws_eqResultS.s0 at H
     apply wp_seq_k; intro K19 hK19
     apply wp_seq_k; intro K20 hK20
     apply wp_region_lit
     refine sm _ rfl hk rfl rfl rfl fun a hk => ?_
     refine sm _ rfl hk rfl rfl rfl fun a hk => ?_
     refine sle rfl hk rfl rfl rfl un55 fun a hk => ?_
     refine sv (.bool (decide (u10 < (l0.length : Int)))) hk rfl rfl rfl fun a hk => ?_
     show wpList _ _ _ [] _ _
     refine wpList_nil ?_
     refine hK20 _ _ ?_
     rcases cond_some H with ⟨c21, H⟩ | ⟨c21, H⟩
     ·have hk := hk.lit 14 c21 rfl
      refine cnd_true hk rfl rfl ?_
      refine wp_skip ?_
      refine hK19 _ _ ?_
      apply wp_seq_k; intro K22 hK22
      refine wp_block ?_
      apply wp_seq_k; intro K23 hK23
      refine wp_region_tree (.q 0 (.q 1 (.q 2 (.q 3 (.q 4 (.alt 5 (.alt 6 (.alt 7 (.alt 8 (.alt 9 .done .stop) .stop) .stop) .stop) .stop)))))) mo (by kernel_rfl) (hs.pick [] rfl) fun _ => ?_
      have hs := hs.drew
      refine tqst (.slice A0_ l0.length p0_) hk rfl rfl rfl rfl (fun w hs => sm _ rfl hk rfl rfl rfl fun a hk => qe hk) fun a hk => ?_
      refine tqst (.int .i64 u10) hk rfl rfl rfl rfl (fun w hs => sm _ rfl hk rfl rfl rfl fun a hk => qe hk) fun a hk => ?_
      rcases ite_some H with ⟨c25, H⟩ | ⟨_, H⟩
      rotate_left
      ·cases H
      obtain ⟨b26, q27, hAc25⟩ := (v0_).some_ u10 c25.1 c25.2
      refine tqst (.pointer (some (padd A0_ (u10.toNat * 2)))) hk rfl rfl rfl rfl (fun w hs => si rfl hk rfl rfl rfl rfl un55 sz105 c25.1 c25.2 hAc25 fun a hk => qe hk) fun a hk => ?_
      obtain ⟨_, ⟨_, _, rfl, rfl, ⟨_, rfl, A29, p30, rfl, v31⟩⟩, e28⟩ := (v0_).at_ z_Result u10 c25.1 c25.2
      refine tqst (.agg #[.int .i64 ((l0.getD u10.toNat z_Result).Code), .slice A29 ((l0.getD u10.toNat z_Result).Values).length p30]) hk rfl rfl rfl rfl (fun w hs => sln [.int .i64 ((l0.getD u10.toNat z_Result).Code), .slice A29 ((l0.getD u10.toNat z_Result).Values).length p30] rfl hk rfl rfl rfl ag105 sz105 (cells_at e28 (hs.hasD (k := 1) rfl)) fun a hk => qe hk) fun a hk => ?_
      refine tqst (.slice A1_ l1.length p1_) hk rfl rfl rfl rfl (fun w hs => sm _ rfl hk rfl rfl rfl fun a hk => qe hk) fun a hk => ?_
      refine tsst hk rfl rfl (fun K_r24_5 hK_r24_5 w hF => ?_) wt_stop
      have hs := hs.f hF
      refine sm _ rfl hk rfl rfl rfl fun a hk => ?_
      refine se (hs.pick [] rfl) hk (hK_r24_5 _ _ ?_)
      refine tsst hk rfl rfl (fun K_r24_6 hK_r24_6 w hF => ?_) wt_stop
      have hs := hs.f hF
      rcases ite_some H with ⟨c32, H⟩ | ⟨_, H⟩
      rotate_left
      ·cases H
      obtain ⟨b33, q34, hAc32⟩ := (v1_).some_ u10 c32.1 c32.2
      refine si rfl hk rfl rfl rfl rfl un55 sz105 c32.1 c32.2 hAc32 fun a hk => ?_
      refine se (hs.pick [] rfl) hk (hK_r24_6 _ _ ?_)
      refine tsst hk rfl rfl (fun K_r24_7 hK_r24_7 w hF => ?_) wt_stop
      have hs := hs.f hF
      obtain ⟨_, ⟨_, _, rfl, rfl, ⟨_, rfl, A36, p37, rfl, v38⟩⟩, e35⟩ := (v1_).at_ z_Result u10 c32.1 c32.2
      refine sln [.int .i64 ((l1.getD u10.toNat z_Result).Code), .slice A36 ((l1.getD u10.toNat z_Result).Values).length p37] rfl hk rfl rfl rfl ag105 sz105 (cells_at e35 (hs.hasD (k := 2) rfl)) fun a hk => ?_
      refine se (hs.pick [] rfl) hk (hK_r24_7 _ _ ?_)
      refine tsst hk rfl rfl (fun K_r24_8 hK_r24_8 w hF => ?_) wt_stop
      have hs := hs.f hF
      obtain ⟨y39, h40, H⟩ := bind_some H
      refine sc rfl en79 hk rfl rfl rfl (laws_eqResult_t _ (l0.getD u10.toNat z_Result) A29 p30 _ v31 (hs.hasD (k := 1) rfl) (l1.getD u10.toNat z_Result) A36 p37 _ v38 (hs.hasD (k := 2) rfl) _ h40) ?_
      rintro _ w ⟨rfl, hG⟩ a hk
      have hs := hs.call0 hG
      refine se (hs.pick [] rfl) hk (hK_r24_8 _ _ ?_)
      refine tsst hk rfl rfl (fun K_r24_9 hK_r24_9 w hF => ?_) wt_stop
      have hs := hs.f hF
      refine sv (.bool (!y39)) hk rfl rfl rfl fun a hk => ?_
      refine se (hs.pick [] rfl) hk (hK_r24_9 _ _ ?_)
      refine wtl_nil fun w hF _ => ?_
      have hs := hs.f hF
      refine hK23 _ _ ?_
      rcases cond_some H with ⟨c41, H⟩ | ⟨c41, H⟩
      ·have hk := hk.lit 26 c41 rfl
       refine cnd_true hk rfl rfl ?_
       apply wp_seq_k; intro K42 hK42
       apply wp_region_lit
       refine sa _ rfl hk rfl rfl rfl fun a hk => ?_
       show wpList _ _ _ [] _ _
       refine wpList_nil ?_
       refine hK42 _ _ ?_
       refine wp_ret ?_
       obtain rfl := Option.some.inj H
       have ho11 := h18
       try dsimp only at ho11
       subst ho11
       have H := HL13
       try dsimp only at H
       obtain rfl := Option.some.inj H
       exact fin hk _ [(.bool false)] rfl ⟨rfl, trivial⟩ ⟨rfl, (hs.pick [] rfl).dnil⟩
      ·have hk := hk.lit 26 c41 rfl
       refine cnd_false hk rfl rfl ?_
       refine wp_skip ?_
       refine hK22 _ _ ?_
       apply wp_region_lit
       refine sm _ rfl hk rfl rfl rfl fun a hk => ?_
       refine sv (.int .i64 (w64 (u10 + 1))) hk rfl rfl rfl fun a hk => ?_
       refine sa _ rfl hk rfl rfl rfl fun a hk => ?_
       show wpList _ _ _ [] _ _
       refine wpList_nil ?_
       obtain rfl := Option.some.inj H
       obtain ⟨m43, hmm43, h18⟩ := h18
       show ∃ n', n' < _ ∧ I15 n' _ _
       refine ⟨m43, hmm43, ?_⟩
       rw [hI15]
       exact ⟨(w64 (u10 + 1)), h18, (hk.c 0 rfl (hk.c 1 rfl (hk.c 5 rfl hk.k))), (hs.pick [] rfl)⟩
     ·have hk := hk.lit 14 c21 rfl
      refine cnd_false hk rfl rfl ?_
      refine wp_exit ?_
      obtain rfl := Option.some.inj H
      show R14 _ _
      rw [hR14]
      exact ⟨h18.symm, hk.k, (hs.pick [] rfl)⟩
   ·intro a w hR0
    rw [hR14] at hR0
    obtain ⟨rfl, hk, hs⟩ := hR0
    have H := HL13
    try dsimp only at H
    refine hK6 _ _ ?_
    apply wp_seq_k; intro K44 hK44
    apply wp_region_lit
    refine sa _ rfl hk rfl rfl rfl fun a hk => ?_
    show wpList _ _ _ [] _ _
    refine wpList_nil ?_
    refine hK44 _ _ ?_
    refine wp_ret ?_
    obtain rfl := Option.some.inj H
    exact fin hk _ [(.bool true)] rfl ⟨rfl, trivial⟩ ⟨rfl, (hs.pick [] rfl).dnil⟩

noncomputable def spec_l01In.f (x0 : Int) (x1 : Int) (x2 : Int) : Option (Bool) :=
  (((bif (decide (x1 ≤ x0)) then (some (decide (x0 ≤ x2))) else (some false)) : Option (Bool)).bind fun u4 => (some u4))
set_option maxRecDepth 100000 in
set_option maxHeartbeats 0 in
theorem spec_l01In_t (w0 : World) (x0 : Int) (x1 : Int) (x2 : Int) (r : Bool) (H : spec_l01In.f x0 x1 x2 = some r) :
    Calls Try.prog 81 #[.int .i64 x0, .int .i64 x1, .int .i64 x2] w0 (Ret (fun v w => v = .bool r ∧ Sat [] w0 w [] [])) := by
  have hs : Sat [] w0 w0 [] [] := Sat.init w0 [] [] (by simp) (by simp) List.nodup_nil (by simp [blks])
  unfold spec_l01In.f at H
  refine enter Try.func81 rfl Try.ntmps81 rfl fun a hk => ?_
  apply wp_seq_k; intro K1 hK1
  apply wp_region_lit
  refine sa _ rfl hk rfl rfl rfl fun a hk => ?_
  show wpList _ _ _ [] _ _
  refine wpList_nil ?_
  refine hK1 _ _ ?_
  apply wp_seq_k; intro K2 hK2
  obtain ⟨o5, h6, HL7⟩ := bind_some H
  clear H
  obtain ⟨R8, hR8⟩ : ∃ R : Act → World → Prop, R = fun a w => ∃ (u4 : Bool), u4 = o5 ∧ Kn [(6, (.bool u4))] 15 a ∧ Sat [] w0 w [] [] := ⟨_, rfl⟩
  refine wp_cutq R8 ?_ ?_
  ·have H := h6
   apply wp_region_lit
   refine sm _ rfl hk rfl rfl rfl fun a hk => ?_
   refine sm _ rfl hk rfl rfl rfl fun a hk => ?_
   refine sv (.bool (decide (x1 ≤ x0))) hk rfl rfl rfl fun a hk => ?_
   refine sm _ rfl hk rfl rfl rfl fun a hk => ?_
   rcases cond_some H with ⟨c9, H⟩ | ⟨c9, H⟩
   ·have hk := hk.lit 10 c9 rfl
    refine sm _ rfl hk rfl rfl rfl fun a hk => ?_
    refine sm _ rfl hk rfl rfl rfl fun a hk => ?_
    refine sv (.bool (decide (x0 ≤ x2))) hk rfl rfl rfl fun a hk => ?_
    refine sv (.bool (decide (x0 ≤ x2))) hk rfl rfl rfl fun a hk => ?_
    refine sa _ rfl hk rfl rfl rfl fun a hk => ?_
    show wpList _ _ _ [] _ _
    refine wpList_nil ?_
    obtain rfl := Option.some.inj H
    show R8 _ _
    rw [hR8]
    exact ⟨(decide (x0 ≤ x2)), rfl, (hk.c 6 rfl hk.k), (hs.pick [] rfl)⟩
   ·have hk := hk.lit 10 c9 rfl
    refine sk hk rfl rfl rfl fun a hk => ?_
    refine sk hk rfl rfl rfl fun a hk => ?_
    refine sk hk rfl rfl rfl fun a hk => ?_
    refine sv (.bool false) hk rfl rfl rfl fun a hk => ?_
    refine sa _ rfl hk rfl rfl rfl fun a hk => ?_
    show wpList _ _ _ [] _ _
    refine wpList_nil ?_
    obtain rfl := Option.some.inj H
    show R8 _ _
    rw [hR8]
    exact ⟨false, rfl, (hk.c 6 rfl hk.k), (hs.pick [] rfl)⟩
  ·intro a w hR0
   rw [hR8] at hR0
   obtain ⟨u4, rfl, hk, hs⟩ := hR0
   have H := HL7
   try dsimp only at H
   refine hK2 _ _ ?_
   refine wp_ret ?_
   obtain rfl := Option.some.inj H
   exact fin hk _ [(.bool u4)] rfl ⟨rfl, trivial⟩ ⟨rfl, (hs.pick [] rfl).dnil⟩

noncomputable def spec_l08Leaves.s0 (l0 : List Int) (u6 : Int) : Option ((Int) ⊕ Ex (Unit) (Bool)) :=
  (bif (decide (u6 < (l0.length : Int))) then (if 0 ≤ u6 ∧ u6 < (l0.length : Int) then ((spec_l01In.f (l0.getD u6.toNat 0) 0 7).bind fun y24 => (bif (!y24) then (some (.inr (.ret false))) else (some (.inl (w64 (u6 + 1)))))) else none) else (some (.inr (.out ()))))
noncomputable def spec_l08Leaves.f (l0 : List Int) : Option (Bool) :=
  ((loopO (fun s => spec_l08Leaves.s0 l0 s) 0).bind fun o => match o with | .out _ => (some true) | .ret r => (some r))
set_option maxRecDepth 100000 in
set_option maxHeartbeats 0 in
theorem spec_l08Leaves_t (w0 : World) (A0_ : Option Addr) (p0_ : Nat) (l0 : List Int) (k0_ : Chunk) (v0_ : View (Lay.int .i64) A0_ p0_ l0 k0_) (w0_ : Has w0 k0_) (r : Bool) (H : spec_l08Leaves.f l0 = some r) :
    Calls Try.prog 111 #[.slice A0_ l0.length p0_] w0 (Ret (fun v w => v = .bool r ∧ Sat [] w0 w [] [])) := by
  have hs : Sat [] w0 w0 [(1, k0_)] [] := Sat.init w0 [(1, k0_)] [] (by simp only [List.mem_cons, List.not_mem_nil, or_false]; rintro x (rfl) <;> assumption) (by simp) List.nodup_nil (by simp [blks])
  unfold spec_l08Leaves.f at H
  refine enter Try.func111 rfl Try.ntmps111 rfl fun a hk => ?_
  apply wp_seq_k; intro K1 hK1
  apply wp_region_lit
  refine sa _ rfl hk rfl rfl rfl fun a hk => ?_
  show wpList _ _ _ [] _ _
  refine wpList_nil ?_
  refine hK1 _ _ ?_
  apply wp_seq_k; intro K2 hK2
  apply wp_seq_k; intro K3 hK3
  apply wp_region_lit
  refine sa _ rfl hk rfl rfl rfl fun a hk => ?_
  show wpList _ _ _ [] _ _
  refine wpList_nil ?_
  refine hK3 _ _ ?_
  obtain ⟨o7, h8, HL9⟩ := bind_some H
  clear H
  obtain ⟨R10, hR10⟩ : ∃ R : Act → World → Prop, R = fun a w => o7 = .out () ∧ Kn [] 16 a ∧ Sat [] w0 w [(1, k0_)] [] := ⟨_, rfl⟩
  refine wp_cutq R10 ?_ ?_
  ·refine wp_block ?_
   obtain ⟨fu12, h8⟩ := loopO_some h8
   obtain ⟨I11, hI11⟩ : ∃ I : Nat → Act → World → Prop, I = fun fu a w => ∃ (u6 : Int), loopN (fun s => spec_l08Leaves.s0 l0 s) fu u6 = some o7 ∧ Kn [(0, (.slice A0_ l0.length p0_)), (3, (.int .i64 u6))] 16 a ∧ Sat [] w0 w [(1, k0_)] [] := ⟨_, rfl⟩
   refine wp_loop_ghost I11 fu12 ?_ ?_
   ·rw [hI11]
    exact ⟨0, h8, (hk.c 0 rfl (hk.c 3 rfl hk.k)), (hs.pick [] rfl)⟩
   ·clear h8 hk hs
    intro fu12 a w hI0
    rw [hI11] at hI0
    obtain ⟨u6, hi, hk, hs⟩ := hI0
    obtain ⟨x13, H, h14⟩ := loop_round hi
    try dsimp only at H
    unfold spec_l08Leaves.s0 at H
    apply wp_seq_k; intro K15 hK15
    apply wp_seq_k; intro K16 hK16
    apply wp_region_lit
    refine sm _ rfl hk rfl rfl rfl fun a hk => ?_
    refine sm _ rfl hk rfl rfl rfl fun a hk => ?_
    refine sle rfl hk rfl rfl rfl un31 fun a hk => ?_
    refine sv (.bool (decide (u6 < (l0.length : Int)))) hk rfl rfl rfl fun a hk => ?_
    show wpList _ _ _ [] _ _
    refine wpList_nil ?_
    refine hK16 _ _ ?_
    rcases cond_some H with ⟨c17, H⟩ | ⟨c17, H⟩
    ·have hk := hk.lit 7 c17 rfl
     refine cnd_true hk rfl rfl ?_
     refine wp_skip ?_
     refine hK15 _ _ ?_
     apply wp_seq_k; intro K18 hK18
     refine wp_block ?_
     apply wp_seq_k; intro K19 hK19
     apply wp_region_lit
     refine sm _ rfl hk rfl rfl rfl fun a hk => ?_
     refine sm _ rfl hk rfl rfl rfl fun a hk => ?_
     rcases ite_some H with ⟨c20, H⟩ | ⟨_, H⟩
     rotate_left
     ·cases H
     obtain ⟨b21, q22, hAc20⟩ := (v0_).some_ u6 c20.1 c20.2
     refine si rfl hk rfl rfl rfl rfl un31 sz3 c20.1 c20.2 hAc20 fun a hk => ?_
     obtain ⟨_, rfl, e23⟩ := (v0_).at_ 0 u6 c20.1 c20.2
     refine sl (v := (.int .i64 (l0.getD u6.toNat 0))) rfl hk rfl rfl rfl ag3 ((e23 0 _ rfl).cell (hs.hasD (k := 1) rfl)) fun a hk => ?_
     obtain ⟨y24, h25, H⟩ := bind_some H
     refine sc rfl en81 hk rfl rfl rfl (spec_l01In_t _ (l0.getD u6.toNat 0) 0 7 _ h25) ?_
     rintro _ w ⟨rfl, hG⟩ a hk
     have hs := hs.call0 hG
     refine sv (.bool (!y24)) hk rfl rfl rfl fun a hk => ?_
     show wpList _ _ _ [] _ _
     refine wpList_nil ?_
     refine hK19 _ _ ?_
     rcases cond_some H with ⟨c26, H⟩ | ⟨c26, H⟩
     ·have hk := hk.lit 15 c26 rfl
      refine cnd_true hk rfl rfl ?_
      apply wp_seq_k; intro K27 hK27
      apply wp_region_lit
      refine sa _ rfl hk rfl rfl rfl fun a hk => ?_
      show wpList _ _ _ [] _ _
      refine wpList_nil ?_
      refine hK27 _ _ ?_
      refine wp_ret ?_
      obtain rfl := Option.some.inj H
      have ho7 := h14
      try dsimp only at ho7
      subst ho7
      have H := HL9
      try dsimp only at H
      obtain rfl := Option.some.inj H
      exact fin hk _ [(.bool false)] rfl ⟨rfl, trivial⟩ ⟨rfl, (hs.pick [] rfl).dnil⟩
     ·have hk := hk.lit 15 c26 rfl
      refine cnd_false hk rfl rfl ?_
      refine wp_skip ?_
      refine hK18 _ _ ?_
      apply wp_region_lit
      refine sm _ rfl hk rfl rfl rfl fun a hk => ?_
      refine sv (.int .i64 (w64 (u6 + 1))) hk rfl rfl rfl fun a hk => ?_
      refine sa _ rfl hk rfl rfl rfl fun a hk => ?_
      show wpList _ _ _ [] _ _
      refine wpList_nil ?_
      obtain rfl := Option.some.inj H
      obtain ⟨m28, hmm28, h14⟩ := h14
      show ∃ n', n' < _ ∧ I11 n' _ _
      refine ⟨m28, hmm28, ?_⟩
      rw [hI11]
      exact ⟨(w64 (u6 + 1)), h14, (hk.c 0 rfl (hk.c 3 rfl hk.k)), (hs.pick [] rfl)⟩
    ·have hk := hk.lit 7 c17 rfl
     refine cnd_false hk rfl rfl ?_
     refine wp_exit ?_
     obtain rfl := Option.some.inj H
     show R10 _ _
     rw [hR10]
     exact ⟨h14.symm, hk.k, (hs.pick [] rfl)⟩
  ·intro a w hR0
   rw [hR10] at hR0
   obtain ⟨rfl, hk, hs⟩ := hR0
   have H := HL9
   try dsimp only at H
   refine hK2 _ _ ?_
   apply wp_seq_k; intro K29 hK29
   apply wp_region_lit
   refine sa _ rfl hk rfl rfl rfl fun a hk => ?_
   show wpList _ _ _ [] _ _
   refine wpList_nil ?_
   refine hK29 _ _ ?_
   refine wp_ret ?_
   obtain rfl := Option.some.inj H
   exact fin hk _ [(.bool true)] rfl ⟨rfl, trivial⟩ ⟨rfl, (hs.pick [] rfl).dnil⟩

noncomputable def spec_l08In.s0 (l0 : List Int) (x1 : Int) (u6 : Int) : Option ((Int) ⊕ Ex (Unit) (Bool)) :=
  (bif (decide (u6 < (l0.length : Int))) then (if 0 ≤ u6 ∧ u6 < (l0.length : Int) then (bif ((l0.getD u6.toNat 0) == x1) then (some (.inr (.ret true))) else (some (.inl (w64 (u6 + 1))))) else none) else (some (.inr (.out ()))))
noncomputable def spec_l08In.f (l0 : List Int) (x1 : Int) : Option (Bool) :=
  ((loopO (fun s => spec_l08In.s0 l0 x1 s) 0).bind fun o => match o with | .out _ => (some false) | .ret r => (some r))
set_option maxRecDepth 100000 in
set_option maxHeartbeats 0 in
theorem spec_l08In_t (w0 : World) (A0_ : Option Addr) (p0_ : Nat) (l0 : List Int) (k0_ : Chunk) (v0_ : View (Lay.int .i64) A0_ p0_ l0 k0_) (w0_ : Has w0 k0_) (x1 : Int) (r : Bool) (H : spec_l08In.f l0 x1 = some r) :
    Calls Try.prog 82 #[.slice A0_ l0.length p0_, .int .i64 x1] w0 (Ret (fun v w => v = .bool r ∧ Sat [] w0 w [] [])) := by
  have hs : Sat [] w0 w0 [(1, k0_)] [] := Sat.init w0 [(1, k0_)] [] (by simp only [List.mem_cons, List.not_mem_nil, or_false]; rintro x (rfl) <;> assumption) (by simp) List.nodup_nil (by simp [blks])
  unfold spec_l08In.f at H
  refine enter Try.func82 rfl Try.ntmps82 rfl fun a hk => ?_
  apply wp_seq_k; intro K1 hK1
  apply wp_region_lit
  refine sa _ rfl hk rfl rfl rfl fun a hk => ?_
  show wpList _ _ _ [] _ _
  refine wpList_nil ?_
  refine hK1 _ _ ?_
  apply wp_seq_k; intro K2 hK2
  apply wp_seq_k; intro K3 hK3
  apply wp_region_lit
  refine sa _ rfl hk rfl rfl rfl fun a hk => ?_
  show wpList _ _ _ [] _ _
  refine wpList_nil ?_
  refine hK3 _ _ ?_
  obtain ⟨o7, h8, HL9⟩ := bind_some H
  clear H
  obtain ⟨R10, hR10⟩ : ∃ R : Act → World → Prop, R = fun a w => o7 = .out () ∧ Kn [] 18 a ∧ Sat [] w0 w [(1, k0_)] [] := ⟨_, rfl⟩
  refine wp_cutq R10 ?_ ?_
  ·refine wp_block ?_
   obtain ⟨fu12, h8⟩ := loopO_some h8
   obtain ⟨I11, hI11⟩ : ∃ I : Nat → Act → World → Prop, I = fun fu a w => ∃ (u6 : Int), loopN (fun s => spec_l08In.s0 l0 x1 s) fu u6 = some o7 ∧ Kn [(0, (.slice A0_ l0.length p0_)), (1, (.int .i64 x1)), (5, (.int .i64 u6))] 18 a ∧ Sat [] w0 w [(1, k0_)] [] := ⟨_, rfl⟩
   refine wp_loop_ghost I11 fu12 ?_ ?_
   ·rw [hI11]
    exact ⟨0, h8, (hk.c 0 rfl (hk.c 1 rfl (hk.c 5 rfl hk.k))), (hs.pick [] rfl)⟩
   ·clear h8 hk hs
    intro fu12 a w hI0
    rw [hI11] at hI0
    obtain ⟨u6, hi, hk, hs⟩ := hI0
    obtain ⟨x13, H, h14⟩ := loop_round hi
    try dsimp only at H
    unfold spec_l08In.s0 at H
    apply wp_seq_k; intro K15 hK15
    apply wp_seq_k; intro K16 hK16
    apply wp_region_lit
    refine sm _ rfl hk rfl rfl rfl fun a hk => ?_
    refine sm _ rfl hk rfl rfl rfl fun a hk => ?_
    refine sle rfl hk rfl rfl rfl un31 fun a hk => ?_
    refine sv (.bool (decide (u6 < (l0.length : Int)))) hk rfl rfl rfl fun a hk => ?_
    show wpList _ _ _ [] _ _
    refine wpList_nil ?_
    refine hK16 _ _ ?_
    rcases cond_some H with ⟨c17, H⟩ | ⟨c17, H⟩
    ·have hk := hk.lit 9 c17 rfl
     refine cnd_true hk rfl rfl ?_
     refine wp_skip ?_
     refine hK15 _ _ ?_
     apply wp_seq_k; intro K18 hK18
     refine wp_block ?_
     apply wp_seq_k; intro K19 hK19
     apply wp_region_lit
     refine sm _ rfl hk rfl rfl rfl fun a hk => ?_
     refine sm _ rfl hk rfl rfl rfl fun a hk => ?_
     rcases ite_some H with ⟨c20, H⟩ | ⟨_, H⟩
     rotate_left
     ·cases H
     obtain ⟨b21, q22, hAc20⟩ := (v0_).some_ u6 c20.1 c20.2
     refine si rfl hk rfl rfl rfl rfl un31 sz3 c20.1 c20.2 hAc20 fun a hk => ?_
     obtain ⟨_, rfl, e23⟩ := (v0_).at_ 0 u6 c20.1 c20.2
     refine sl (v := (.int .i64 (l0.getD u6.toNat 0))) rfl hk rfl rfl rfl ag3 ((e23 0 _ rfl).cell (hs.hasD (k := 1) rfl)) fun a hk => ?_
     refine sm _ rfl hk rfl rfl rfl fun a hk => ?_
     refine sv (.bool ((l0.getD u6.toNat 0) == x1)) hk rfl rfl rfl fun a hk => ?_
     show wpList _ _ _ [] _ _
     refine wpList_nil ?_
     refine hK19 _ _ ?_
     rcases cond_some H with ⟨c24, H⟩ | ⟨c24, H⟩
     ·have hk := hk.lit 17 c24 rfl
      refine cnd_true hk rfl rfl ?_
      apply wp_seq_k; intro K25 hK25
      apply wp_region_lit
      refine sa _ rfl hk rfl rfl rfl fun a hk => ?_
      show wpList _ _ _ [] _ _
      refine wpList_nil ?_
      refine hK25 _ _ ?_
      refine wp_ret ?_
      obtain rfl := Option.some.inj H
      have ho7 := h14
      try dsimp only at ho7
      subst ho7
      have H := HL9
      try dsimp only at H
      obtain rfl := Option.some.inj H
      exact fin hk _ [(.bool true)] rfl ⟨rfl, trivial⟩ ⟨rfl, (hs.pick [] rfl).dnil⟩
     ·have hk := hk.lit 17 c24 rfl
      refine cnd_false hk rfl rfl ?_
      refine wp_skip ?_
      refine hK18 _ _ ?_
      apply wp_region_lit
      refine sm _ rfl hk rfl rfl rfl fun a hk => ?_
      refine sv (.int .i64 (w64 (u6 + 1))) hk rfl rfl rfl fun a hk => ?_
      refine sa _ rfl hk rfl rfl rfl fun a hk => ?_
      show wpList _ _ _ [] _ _
      refine wpList_nil ?_
      obtain rfl := Option.some.inj H
      obtain ⟨m26, hmm26, h14⟩ := h14
      show ∃ n', n' < _ ∧ I11 n' _ _
      refine ⟨m26, hmm26, ?_⟩
      rw [hI11]
      exact ⟨(w64 (u6 + 1)), h14, (hk.c 0 rfl (hk.c 1 rfl (hk.c 5 rfl hk.k))), (hs.pick [] rfl)⟩
    ·have hk := hk.lit 9 c17 rfl
     refine cnd_false hk rfl rfl ?_
     refine wp_exit ?_
     obtain rfl := Option.some.inj H
     show R10 _ _
     rw [hR10]
     exact ⟨h14.symm, hk.k, (hs.pick [] rfl)⟩
  ·intro a w hR0
   rw [hR10] at hR0
   obtain ⟨rfl, hk, hs⟩ := hR0
   have H := HL9
   try dsimp only at H
   refine hK2 _ _ ?_
   apply wp_seq_k; intro K27 hK27
   apply wp_region_lit
   refine sa _ rfl hk rfl rfl rfl fun a hk => ?_
   show wpList _ _ _ [] _ _
   refine wpList_nil ?_
   refine hK27 _ _ ?_
   refine wp_ret ?_
   obtain rfl := Option.some.inj H
   exact fin hk _ [(.bool false)] rfl ⟨rfl, trivial⟩ ⟨rfl, (hs.pick [] rfl).dnil⟩

noncomputable def spec_l08Block.f (x0 : S_Oram) (x1 : S_Block) (l2 : List Int) : Option (Bool) :=
  ((((spec_l01In.f x1.Id 0 11).bind fun y11 => (bif y11 then (if 0 ≤ x1.Id ∧ x1.Id < (x0.Pos.length : Int) then (bif ((x0.Pos.getD (x1.Id).toNat 0) == x1.Leaf) then ((spec_l01In.f x1.Value 0 999999).bind fun y19 => (bif y19 then ((spec_l08In.f l2 x1.Id).bind fun y22 => (some (!y22))) else (some false))) else (some false)) else none) else (some false))) : Option (Bool)).bind fun u6 => (some u6))
set_option maxRecDepth 100000 in
set_option maxHeartbeats 0 in
theorem spec_l08Block_t (w0 : World) (x0 : S_Oram) (A0_0 : Option Addr) (p0_0 : Nat) (k0_0 : Chunk) (v0_0 : View (Lay.int .i64) A0_0 p0_0 x0.Pos k0_0) (w0_0 : Has w0 k0_0) (A0_1 : Option Addr) (p0_1 : Nat) (k0_1 : Chunk) (v0_1 : View L_Block A0_1 p0_1 x0.Stash k0_1) (w0_1 : Has w0 k0_1) (A0_2 : Option Addr) (p0_2 : Nat) (k0_2 : Chunk) (v0_2 : View (Lay.sl L_Block 81) A0_2 p0_2 x0.Buckets k0_2) (w0_2 : Has w0 k0_2) (x1 : S_Block) (A2_ : Option Addr) (p2_ : Nat) (l2 : List Int) (k2_ : Chunk) (v2_ : View (Lay.int .i64) A2_ p2_ l2 k2_) (w2_ : Has w0 k2_) (r : Bool) (H : spec_l08Block.f x0 x1 l2 = some r) :
    Calls Try.prog 126 #[.agg #[.slice A0_0 x0.Pos.length p0_0, .slice A0_1 x0.Stash.length p0_1, .slice A0_2 x0.Buckets.length p0_2], .agg #[.int .i64 x1.Id, .int .i64 x1.Leaf, .int .i64 x1.Value], .slice A2_ l2.length p2_] w0 (Ret (fun v w => v = .bool r ∧ Sat [] w0 w [] [])) := by
  have hs : Sat [] w0 w0 [(1, k0_0), (2, k0_1), (3, k0_2), (4, k2_)] [] := Sat.init w0 [(1, k0_0), (2, k0_1), (3, k0_2), (4, k2_)] [] (by simp only [List.mem_cons, List.not_mem_nil, or_false]; rintro x (rfl | rfl | rfl | rfl) <;> assumption) (by simp) List.nodup_nil (by simp [blks])
  unfold spec_l08Block.f at H
  refine enter Try.func126 rfl Try.ntmps126 rfl fun a hk => ?_
  apply wp_seq_k; intro K1 hK1
  apply wp_region_lit
  refine sbx 5 hs rfl hk rfl rfl rfl rfl fun b2 w a hk hs => ?_
  refine sbx 6 hs rfl hk rfl rfl rfl rfl fun b3 w a hk hs => ?_
  refine sa _ rfl hk rfl rfl rfl fun a hk => ?_
  show wpList _ _ _ [] _ _
  refine wpList_nil ?_
  refine hK1 _ _ ?_
  apply wp_seq_k; intro K4 hK4
  obtain ⟨o7, h8, HL9⟩ := bind_some H
  clear H
  obtain ⟨R10, hR10⟩ : ∃ R : Act → World → Prop, R = fun a w => ∃ (u6 : Bool), u6 = o7 ∧ Kn [(6, (.bool u6))] 33 a ∧ Sat [] w0 w [(1, k0_0), (2, k0_1), (3, k0_2), (4, k2_)] [] := ⟨_, rfl⟩
  refine wp_cutq R10 ?_ ?_
  ·have H := h8
   refine wp_region_mix [(0, true), (1, true), (2, true), (3, true), (4, true), (5, true), (6, true), (7, true), (8, true), (9, true), (10, true), (11, true), (12, true), (13, true), (14, true), (15, true), (16, true), (17, true), (18, true), (19, true), (20, true), (21, true), (22, true), (23, true), (24, true), (25, true), (26, true)] mo (by kernel_rfl) hs fun _ => ?_
   have hs := hs.drew
   refine qst (.pointer (some ⟨b3, 0, none⟩)) hk rfl rfl rfl rfl (fun w hs => sf ⟨b3, 0, none⟩ rfl hk rfl rfl rfl fd81_0 rfl fun a hk => qe hk) fun a hk => ?_
   refine qst (.int .i64 x1.Id) hk rfl rfl rfl rfl (fun w hs => sl rfl hk rfl rfl rfl ag3 (box_cell hs (k := 6) rfl rfl) fun a hk => qe hk) fun a hk => ?_
   obtain ⟨y11, h12, H⟩ := bind_some H
   refine qst (.bool y11) hk rfl rfl rfl rfl (fun w hs => sc rfl en81 hk rfl rfl rfl (spec_l01In_t _ x1.Id 0 11 _ h12) fun _ w hR a hk => qc hR hk) fun a hk => ?_
   refine qst (.bool y11) hk rfl rfl rfl rfl (fun w hs => sm _ rfl hk rfl rfl rfl fun a hk => qe hk) fun a hk => ?_
   rcases cond_some H with ⟨c13, H⟩ | ⟨c13, H⟩
   ·have hk := hk.lit 10 c13 rfl
    refine qst (.pointer (some ⟨b2, 0, none⟩)) hk rfl rfl rfl rfl (fun w hs => sf ⟨b2, 0, none⟩ rfl hk rfl rfl rfl fd51_0 rfl fun a hk => qe hk) fun a hk => ?_
    refine qst (.slice A0_0 x0.Pos.length p0_0) hk rfl rfl rfl rfl (fun w hs => sl rfl hk rfl rfl rfl ag31 (box_cell hs (k := 5) rfl rfl) fun a hk => qe hk) fun a hk => ?_
    refine qst (.pointer (some ⟨b3, 0, none⟩)) hk rfl rfl rfl rfl (fun w hs => sf ⟨b3, 0, none⟩ rfl hk rfl rfl rfl fd81_0 rfl fun a hk => qe hk) fun a hk => ?_
    refine qst (.int .i64 x1.Id) hk rfl rfl rfl rfl (fun w hs => sl rfl hk rfl rfl rfl ag3 (box_cell hs (k := 6) rfl rfl) fun a hk => qe hk) fun a hk => ?_
    rcases ite_some H with ⟨c14, H⟩ | ⟨_, H⟩
    rotate_left
    ·cases H
    obtain ⟨b15, q16, hAc14⟩ := (v0_0).some_ x1.Id c14.1 c14.2
    refine qst (.pointer (some (padd A0_0 ((x1.Id).toNat * 1)))) hk rfl rfl rfl rfl (fun w hs => si rfl hk rfl rfl rfl rfl un31 sz3 c14.1 c14.2 hAc14 fun a hk => qe hk) fun a hk => ?_
    obtain ⟨_, rfl, e17⟩ := (v0_0).at_ 0 x1.Id c14.1 c14.2
    refine qst (.int .i64 (x0.Pos.getD (x1.Id).toNat 0)) hk rfl rfl rfl rfl (fun w hs => sl (v := (.int .i64 (x0.Pos.getD (x1.Id).toNat 0))) rfl hk rfl rfl rfl ag3 ((e17 0 _ rfl).cell (hs.hasD (k := 1) rfl)) fun a hk => qe hk) fun a hk => ?_
    refine qst (.pointer (some ⟨b3, 1, none⟩)) hk rfl rfl rfl rfl (fun w hs => sf ⟨b3, 1, none⟩ rfl hk rfl rfl rfl fd81_1 rfl fun a hk => qe hk) fun a hk => ?_
    refine qst (.int .i64 x1.Leaf) hk rfl rfl rfl rfl (fun w hs => sl rfl hk rfl rfl rfl ag3 (box_cell hs (k := 6) rfl rfl) fun a hk => qe hk) fun a hk => ?_
    refine qst (.bool ((x0.Pos.getD (x1.Id).toNat 0) == x1.Leaf)) hk rfl rfl rfl rfl (fun w hs => sv (.bool ((x0.Pos.getD (x1.Id).toNat 0) == x1.Leaf)) hk rfl rfl rfl fun a hk => qe hk) fun a hk => ?_
    refine qst (.bool ((x0.Pos.getD (x1.Id).toNat 0) == x1.Leaf)) hk rfl rfl rfl rfl (fun w hs => sv (.bool ((x0.Pos.getD (x1.Id).toNat 0) == x1.Leaf)) hk rfl rfl rfl fun a hk => qe hk) fun a hk => ?_
    refine qst (.bool ((x0.Pos.getD (x1.Id).toNat 0) == x1.Leaf)) hk rfl rfl rfl rfl (fun w hs => sm _ rfl hk rfl rfl rfl fun a hk => qe hk) fun a hk => ?_
    rcases cond_some H with ⟨c18, H⟩ | ⟨c18, H⟩
    ·have hk := hk.lit 21 c18 rfl
     refine qst (.pointer (some ⟨b3, 2, none⟩)) hk rfl rfl rfl rfl (fun w hs => sf ⟨b3, 2, none⟩ rfl hk rfl rfl rfl fd81_2 rfl fun a hk => qe hk) fun a hk => ?_
     refine qst (.int .i64 x1.Value) hk rfl rfl rfl rfl (fun w hs => sl rfl hk rfl rfl rfl ag3 (box_cell hs (k := 6) rfl rfl) fun a hk => qe hk) fun a hk => ?_
     obtain ⟨y19, h20, H⟩ := bind_some H
     refine qst (.bool y19) hk rfl rfl rfl rfl (fun w hs => sc rfl en81 hk rfl rfl rfl (spec_l01In_t _ x1.Value 0 999999 _ h20) fun _ w hR a hk => qc hR hk) fun a hk => ?_
     refine qst (.bool y19) hk rfl rfl rfl rfl (fun w hs => sv (.bool y19) hk rfl rfl rfl fun a hk => qe hk) fun a hk => ?_
     refine qst (.bool y19) hk rfl rfl rfl rfl (fun w hs => sm _ rfl hk rfl rfl rfl fun a hk => qe hk) fun a hk => ?_
     rcases cond_some H with ⟨c21, H⟩ | ⟨c21, H⟩
     ·have hk := hk.lit 26 c21 rfl
      refine qst (.slice A2_ l2.length p2_) hk rfl rfl rfl rfl (fun w hs => sm _ rfl hk rfl rfl rfl fun a hk => qe hk) fun a hk => ?_
      refine qst (.pointer (some ⟨b3, 0, none⟩)) hk rfl rfl rfl rfl (fun w hs => sf ⟨b3, 0, none⟩ rfl hk rfl rfl rfl fd81_0 rfl fun a hk => qe hk) fun a hk => ?_
      refine qst (.int .i64 x1.Id) hk rfl rfl rfl rfl (fun w hs => sl rfl hk rfl rfl rfl ag3 (box_cell hs (k := 6) rfl rfl) fun a hk => qe hk) fun a hk => ?_
      obtain ⟨y22, h23, H⟩ := bind_some H
      refine qst (.bool y22) hk rfl rfl rfl rfl (fun w hs => sc rfl en82 hk rfl rfl rfl (spec_l08In_t _ A2_ p2_ l2 _ v2_ (hs.hasD (k := 4) rfl) x1.Id _ h23) fun _ w hR a hk => qc hR hk) fun a hk => ?_
      refine qst (.bool (!y22)) hk rfl rfl rfl rfl (fun w hs => sv (.bool (!y22)) hk rfl rfl rfl fun a hk => qe hk) fun a hk => ?_
      refine qst (.bool (!y22)) hk rfl rfl rfl rfl (fun w hs => sv (.bool (!y22)) hk rfl rfl rfl fun a hk => qe hk) fun a hk => ?_
      refine qst (.bool (!y22)) hk rfl rfl rfl rfl (fun w hs => sa _ rfl hk rfl rfl rfl fun a hk => qe hk) fun a hk => ?_
      refine wml_nil fun w hF _ => ?_
      have hs := hs.f hF
      obtain rfl := Option.some.inj H
      show R10 _ _
      rw [hR10]
      exact ⟨(!y22), rfl, (hk.c 6 rfl hk.k), (hs.pick [] rfl)⟩
     ·have hk := hk.lit 26 c21 rfl
      refine qsk hk rfl rfl rfl rfl fun a hk => ?_
      refine qsk hk rfl rfl rfl rfl fun a hk => ?_
      refine qsk hk rfl rfl rfl rfl fun a hk => ?_
      refine qsk hk rfl rfl rfl rfl fun a hk => ?_
      refine qsk hk rfl rfl rfl rfl fun a hk => ?_
      refine qst (.bool false) hk rfl rfl rfl rfl (fun w hs => sv (.bool false) hk rfl rfl rfl fun a hk => qe hk) fun a hk => ?_
      refine qst (.bool false) hk rfl rfl rfl rfl (fun w hs => sa _ rfl hk rfl rfl rfl fun a hk => qe hk) fun a hk => ?_
      refine wml_nil fun w hF _ => ?_
      have hs := hs.f hF
      obtain rfl := Option.some.inj H
      show R10 _ _
      rw [hR10]
      exact ⟨false, rfl, (hk.c 6 rfl hk.k), (hs.pick [] rfl)⟩
    ·have hk := hk.lit 21 c18 rfl
     refine qsk hk rfl rfl rfl rfl fun a hk => ?_
     refine qsk hk rfl rfl rfl rfl fun a hk => ?_
     refine qsk hk rfl rfl rfl rfl fun a hk => ?_
     refine qst (.bool false) hk rfl rfl rfl rfl (fun w hs => sv (.bool false) hk rfl rfl rfl fun a hk => qe hk) fun a hk => ?_
     refine qst (.bool false) hk rfl rfl rfl rfl (fun w hs => sm _ rfl hk rfl rfl rfl fun a hk => qe hk) fun a hk => ?_
     refine qsk hk rfl rfl rfl rfl fun a hk => ?_
     refine qsk hk rfl rfl rfl rfl fun a hk => ?_
     refine qsk hk rfl rfl rfl rfl fun a hk => ?_
     refine qsk hk rfl rfl rfl rfl fun a hk => ?_
     refine qsk hk rfl rfl rfl rfl fun a hk => ?_
     refine qst (.bool false) hk rfl rfl rfl rfl (fun w hs => sv (.bool false) hk rfl rfl rfl fun a hk => qe hk) fun a hk => ?_
     refine qst (.bool false) hk rfl rfl rfl rfl (fun w hs => sa _ rfl hk rfl rfl rfl fun a hk => qe hk) fun a hk => ?_
     refine wml_nil fun w hF _ => ?_
     have hs := hs.f hF
     obtain rfl := Option.some.inj H
     show R10 _ _
     rw [hR10]
     exact ⟨false, rfl, (hk.c 6 rfl hk.k), (hs.pick [] rfl)⟩
   ·have hk := hk.lit 10 c13 rfl
    refine qsk hk rfl rfl rfl rfl fun a hk => ?_
    refine qsk hk rfl rfl rfl rfl fun a hk => ?_
    refine qsk hk rfl rfl rfl rfl fun a hk => ?_
    refine qsk hk rfl rfl rfl rfl fun a hk => ?_
    refine qsk hk rfl rfl rfl rfl fun a hk => ?_
    refine qsk hk rfl rfl rfl rfl fun a hk => ?_
    refine qsk hk rfl rfl rfl rfl fun a hk => ?_
    refine qsk hk rfl rfl rfl rfl fun a hk => ?_
    refine qsk hk rfl rfl rfl rfl fun a hk => ?_
    refine qst (.bool false) hk rfl rfl rfl rfl (fun w hs => sv (.bool false) hk rfl rfl rfl fun a hk => qe hk) fun a hk => ?_
    refine qst (.bool false) hk rfl rfl rfl rfl (fun w hs => sm _ rfl hk rfl rfl rfl fun a hk => qe hk) fun a hk => ?_
    refine qsk hk rfl rfl rfl rfl fun a hk => ?_
    refine qsk hk rfl rfl rfl rfl fun a hk => ?_
    refine qsk hk rfl rfl rfl rfl fun a hk => ?_
    refine qst (.bool false) hk rfl rfl rfl rfl (fun w hs => sv (.bool false) hk rfl rfl rfl fun a hk => qe hk) fun a hk => ?_
    refine qst (.bool false) hk rfl rfl rfl rfl (fun w hs => sm _ rfl hk rfl rfl rfl fun a hk => qe hk) fun a hk => ?_
    refine qsk hk rfl rfl rfl rfl fun a hk => ?_
    refine qsk hk rfl rfl rfl rfl fun a hk => ?_
    refine qsk hk rfl rfl rfl rfl fun a hk => ?_
    refine qsk hk rfl rfl rfl rfl fun a hk => ?_
    refine qsk hk rfl rfl rfl rfl fun a hk => ?_
    refine qst (.bool false) hk rfl rfl rfl rfl (fun w hs => sv (.bool false) hk rfl rfl rfl fun a hk => qe hk) fun a hk => ?_
    refine qst (.bool false) hk rfl rfl rfl rfl (fun w hs => sa _ rfl hk rfl rfl rfl fun a hk => qe hk) fun a hk => ?_
    refine wml_nil fun w hF _ => ?_
    have hs := hs.f hF
    obtain rfl := Option.some.inj H
    show R10 _ _
    rw [hR10]
    exact ⟨false, rfl, (hk.c 6 rfl hk.k), (hs.pick [] rfl)⟩
  ·intro a w hR0
   rw [hR10] at hR0
   obtain ⟨u6, rfl, hk, hs⟩ := hR0
   have H := HL9
   try dsimp only at H
   refine hK4 _ _ ?_
   refine wp_ret ?_
   obtain rfl := Option.some.inj H
   exact fin hk _ [(.bool u6)] rfl ⟨rfl, trivial⟩ ⟨rfl, (hs.pick [] rfl).dnil⟩

noncomputable def spec_l08Path.s0  (u14 : List Int) (u13 : Int) : Option (((List Int) × Int) ⊕ Ex (Unit) ((List Int))) :=
  (if ([u13]).length + u14.length ≤ 1073741824 then (bif (u13 == 0) then (some (.inr (.ret (([u13]) ++ u14)))) else (some (.inl ((([u13]) ++ u14), (IntKind.wrap .i64 (Int.tdiv (w64 (u13 - 1)) 2)))))) else none)
noncomputable def spec_l08Path.f (x0 : Int) : Option ((List Int)) :=
  ((loopO (fun s => spec_l08Path.s0  s.1 s.2) (([] : List Int), (w64 (7 + x0)))).bind fun o => match o with | .out _ => none | .ret r => (some r))
set_option maxRecDepth 100000 in
set_option maxHeartbeats 0 in
theorem spec_l08Path_t (w0 : World) (x0 : Int) (r : (List Int)) (H : spec_l08Path.f x0 = some r) :
    Calls Try.prog 164 #[.int .i64 x0] w0 (Ret (fun v w => ∃ (A0 : Option Addr) (p0 : Nat) (k0 : Chunk), v = .slice A0 r.length p0 ∧ Own (Lay.int .i64) 3 A0 p0 r k0 ∧ Sat [] w0 w [] [(0, k0)])) := by
  have hs : Sat [] w0 w0 [] [] := Sat.init w0 [] [] (by simp) (by simp) List.nodup_nil (by simp [blks])
  unfold spec_l08Path.f at H
  refine enter Try.func164 rfl Try.ntmps164 rfl fun a hk => ?_
  apply wp_seq_k; intro K1 hK1
  apply wp_region_lit
  refine sa _ rfl hk rfl rfl rfl fun a hk => ?_
  show wpList _ _ _ [] _ _
  refine wpList_nil ?_
  refine hK1 _ _ ?_
  apply wp_seq_k; intro K2 hK2
  apply wp_region_lit
  refine sbs0 1 (Lay.int .i64) hs rfl hk rfl rfl un31 sz3 fun b3 k4 w a hk o5 hs => ?_
  refine sa _ rfl hk rfl rfl rfl fun a hk => ?_
  show wpList _ _ _ [] _ _
  refine wpList_nil ?_
  refine hK2 _ _ ?_
  apply wp_seq_k; intro K6 hK6
  apply wp_region_lit
  refine sm _ rfl hk rfl rfl rfl fun a hk => ?_
  refine sv (.int .i64 (w64 (7 + x0))) hk rfl rfl rfl fun a hk => ?_
  refine sa _ rfl hk rfl rfl rfl fun a hk => ?_
  show wpList _ _ _ [] _ _
  refine wpList_nil ?_
  refine hK6 _ _ ?_
  obtain ⟨o19, h20, HL21⟩ := bind_some H
  clear H
  obtain ⟨R22, hR22⟩ : ∃ R : Act → World → Prop, R = fun a w => o19 = .out () ∧ Kn [] 18 a ∧ Sat [] w0 w [] [] := ⟨_, rfl⟩
  refine wp_cutq R22 ?_ ?_
  ·refine wp_block ?_
   obtain ⟨fu24, h20⟩ := loopO_some h20
   obtain ⟨I23, hI23⟩ : ∃ I : Nat → Act → World → Prop, I = fun fu a w => ∃ (u14 : List Int) (u13 : Int) (A17 : Option Addr) (p18 : Nat) (k15 : Chunk), loopN (fun s => spec_l08Path.s0  s.1 s.2) fu (u14, u13) = some o19 ∧ Kn [(3, (.slice A17 u14.length p18)), (4, (.int .i64 u13))] 18 a ∧ Sat [] w0 w [] [(1, k15)] ∧ Own (Lay.int .i64) 3 A17 p18 u14 k15 := ⟨_, rfl⟩
   refine wp_loop_ghost I23 fu24 ?_ ?_
   ·rw [hI23]
    exact ⟨([] : List Int), (w64 (7 + x0)), (some ⟨b3, 0, none⟩), 0, _, h20, (hk.c 3 rfl (hk.c 4 rfl hk.k)), (hs.pick [(1, 1)] rfl), o5⟩
   ·clear h20 hk hs
    intro fu24 a w hI0
    rw [hI23] at hI0
    obtain ⟨u14, u13, A17, p18, k15, hi, hk, hs, o16⟩ := hI0
    obtain ⟨x25, H, h26⟩ := loop_round hi
    try dsimp only at H
    unfold spec_l08Path.s0 at H
    apply wp_seq_k; intro K27 hK27
    refine wp_block ?_
    apply wp_seq_k; intro K28 hK28
    apply wp_region_lit
    refine sm _ rfl hk rfl rfl rfl fun a hk => ?_
    refine sbs (L := (Lay.int .i64)) (pv := [(0, (.int .i64 u13))]) (xs := [u13]) (ess := [[.int .i64 u13]]) 3 hs rfl hk rfl rfl rfl un31 (bs3_0 u13) (AllOwn.cons0 ⟨rfl, rfl⟩ AllOwn.nil) rfl rfl rfl fun b29 k30 w a hk o31 hs => ?_
    refine sm _ rfl hk rfl rfl rfl fun a hk => ?_
    rcases ite_some H with ⟨c32, H⟩ | ⟨_, H⟩
    rotate_left
    ·cases H
    refine sap 3 (xs := [u13]) (ys := u14) (flat_flat : ((Lay.int .i64)).Flat) hs rfl o31 o16.view (hs.hasG (k := 1) rfl) rfl hk rfl rfl rfl rfl rfl rfl un31 mk3 rfl rfl rfl c32 fun A33 p34 k35 w a hk o36 hs => ?_
    refine sa _ rfl hk rfl rfl rfl fun a hk => ?_
    show wpList _ _ _ [] _ _
    refine wpList_nil ?_
    refine hK28 _ _ ?_
    apply wp_seq_k; intro K37 hK37
    apply wp_region_lit
    refine sm _ rfl hk rfl rfl rfl fun a hk => ?_
    refine sv (.bool (u13 == 0)) hk rfl rfl rfl fun a hk => ?_
    show wpList _ _ _ [] _ _
    refine wpList_nil ?_
    refine hK37 _ _ ?_
    rcases cond_some H with ⟨c38, H⟩ | ⟨c38, H⟩
    ·have hk := hk.lit 16 c38 rfl
     refine cnd_true hk rfl rfl ?_
     apply wp_seq_k; intro K39 hK39
     apply wp_region_lit
     refine sm _ rfl hk rfl rfl rfl fun a hk => ?_
     refine sa _ rfl hk rfl rfl rfl fun a hk => ?_
     show wpList _ _ _ [] _ _
     refine wpList_nil ?_
     refine hK39 _ _ ?_
     refine wp_ret ?_
     obtain rfl := Option.some.inj H
     have ho19 := h26
     try dsimp only at ho19
     subst ho19
     have H := HL21
     try dsimp only at H
     obtain rfl := Option.some.inj H
     exact fin hk _ [(.slice A33 (([u13]) ++ u14).length p34)] rfl ⟨rfl, trivial⟩ ⟨A33, p34, _, rfl, o36, (hs.pick [(0, 3)] rfl).dnil⟩
    ·have hk := hk.lit 16 c38 rfl
     refine cnd_false hk rfl rfl ?_
     refine wp_skip ?_
     refine hK27 _ _ ?_
     apply wp_region_lit
     refine sm _ rfl hk rfl rfl rfl fun a hk => ?_
     refine sv (.int .i64 (w64 (u13 - 1))) hk rfl rfl rfl fun a hk => ?_
     refine sv (.int .i64 (IntKind.wrap .i64 (Int.tdiv (w64 (u13 - 1)) 2))) hk rfl rfl rfl fun a hk => ?_
     refine sa _ rfl hk rfl rfl rfl fun a hk => ?_
     show wpList _ _ _ [] _ _
     refine wpList_nil ?_
     obtain rfl := Option.some.inj H
     obtain ⟨m40, hmm40, h26⟩ := h26
     show ∃ n', n' < _ ∧ I23 n' _ _
     refine ⟨m40, hmm40, ?_⟩
     rw [hI23]
     exact ⟨(([u13]) ++ u14), (IntKind.wrap .i64 (Int.tdiv (w64 (u13 - 1)) 2)), A33, p34, _, h26, (hk.c 3 rfl (hk.c 4 rfl hk.k)), (hs.pick [(1, 3)] rfl), o36⟩
  ·intro a w hR0
   rw [hR22] at hR0
   obtain ⟨rfl, hk, hs⟩ := hR0
   have H := HL21
   try dsimp only at H
   cases H

noncomputable def spec_l08On.s0 (x0 : Int) (y3 : (List Int)) (u13 : Int) : Option ((Int) ⊕ Ex (Unit) (Bool)) :=
  (bif (decide (u13 < (y3.length : Int))) then (if 0 ≤ u13 ∧ u13 < (y3.length : Int) then (bif ((y3.getD u13.toNat 0) == x0) then (some (.inr (.ret true))) else (some (.inl (w64 (u13 + 1))))) else none) else (some (.inr (.out ()))))
noncomputable def spec_l08On.f (x0 : Int) (x1 : Int) : Option (Bool) :=
  ((spec_l08Path.f x1).bind fun y3 => ((loopO (fun s => spec_l08On.s0 x0 y3 s) 0).bind fun o => match o with | .out _ => (some false) | .ret r => (some r)))
set_option maxRecDepth 100000 in
set_option maxHeartbeats 0 in
theorem spec_l08On_t (w0 : World) (x0 : Int) (x1 : Int) (r : Bool) (H : spec_l08On.f x0 x1 = some r) :
    Calls Try.prog 127 #[.int .i64 x0, .int .i64 x1] w0 (Ret (fun v w => v = .bool r ∧ Sat [] w0 w [] [])) := by
  have hs : Sat [] w0 w0 [] [] := Sat.init w0 [] [] (by simp) (by simp) List.nodup_nil (by simp [blks])
  unfold spec_l08On.f at H
  refine enter Try.func127 rfl Try.ntmps127 rfl fun a hk => ?_
  apply wp_seq_k; intro K1 hK1
  apply wp_region_lit
  refine sa _ rfl hk rfl rfl rfl fun a hk => ?_
  show wpList _ _ _ [] _ _
  refine wpList_nil ?_
  refine hK1 _ _ ?_
  apply wp_seq_k; intro K2 hK2
  apply wp_region_lit
  refine sm _ rfl hk rfl rfl rfl fun a hk => ?_
  obtain ⟨y3, h4, H⟩ := bind_some H
  refine sc rfl en164 hk rfl rfl rfl (spec_l08Path_t _ x1 _ h4) ?_
  rintro _ w ⟨A5, p6, k7, rfl, o8, hG⟩ a hk
  have hs := hs.call0k hG [1] rfl
  refine sa _ rfl hk rfl rfl rfl fun a hk => ?_
  show wpList _ _ _ [] _ _
  refine wpList_nil ?_
  refine hK2 _ _ ?_
  apply wp_seq_k; intro K9 hK9
  apply wp_seq_k; intro K10 hK10
  apply wp_region_lit
  refine sa _ rfl hk rfl rfl rfl fun a hk => ?_
  show wpList _ _ _ [] _ _
  refine wpList_nil ?_
  refine hK10 _ _ ?_
  obtain ⟨o14, h15, HL16⟩ := bind_some H
  clear H
  obtain ⟨R17, hR17⟩ : ∃ R : Act → World → Prop, R = fun a w => o14 = .out () ∧ Kn [] 21 a ∧ Sat [] w0 w [] [] := ⟨_, rfl⟩
  refine wp_cutq R17 ?_ ?_
  ·refine wp_block ?_
   obtain ⟨fu19, h15⟩ := loopO_some h15
   obtain ⟨I18, hI18⟩ : ∃ I : Nat → Act → World → Prop, I = fun fu a w => ∃ (u13 : Int), loopN (fun s => spec_l08On.s0 x0 y3 s) fu u13 = some o14 ∧ Kn [(0, (.int .i64 x0)), (5, (.slice A5 y3.length p6)), (6, (.int .i64 u13))] 21 a ∧ Sat [] w0 w [] [(1, k7)] := ⟨_, rfl⟩
   refine wp_loop_ghost I18 fu19 ?_ ?_
   ·rw [hI18]
    exact ⟨0, h15, (hk.c 0 rfl (hk.c 5 rfl (hk.c 6 rfl hk.k))), (hs.pick [(1, 1)] rfl)⟩
   ·clear h15 hk hs
    intro fu19 a w hI0
    rw [hI18] at hI0
    obtain ⟨u13, hi, hk, hs⟩ := hI0
    obtain ⟨x20, H, h21⟩ := loop_round hi
    try dsimp only at H
    unfold spec_l08On.s0 at H
    apply wp_seq_k; intro K22 hK22
    apply wp_seq_k; intro K23 hK23
    apply wp_region_lit
    refine sm _ rfl hk rfl rfl rfl fun a hk => ?_
    refine sm _ rfl hk rfl rfl rfl fun a hk => ?_
    refine sle rfl hk rfl rfl rfl un31 fun a hk => ?_
    refine sv (.bool (decide (u13 < (y3.length : Int)))) hk rfl rfl rfl fun a hk => ?_
    show wpList _ _ _ [] _ _
    refine wpList_nil ?_
    refine hK23 _ _ ?_
    rcases cond_some H with ⟨c24, H⟩ | ⟨c24, H⟩
    ·have hk := hk.lit 12 c24 rfl
     refine cnd_true hk rfl rfl ?_
     refine wp_skip ?_
     refine hK22 _ _ ?_
     apply wp_seq_k; intro K25 hK25
     refine wp_block ?_
     apply wp_seq_k; intro K26 hK26
     apply wp_region_lit
     refine sm _ rfl hk rfl rfl rfl fun a hk => ?_
     refine sm _ rfl hk rfl rfl rfl fun a hk => ?_
     rcases ite_some H with ⟨c27, H⟩ | ⟨_, H⟩
     rotate_left
     ·cases H
     obtain ⟨b28, q29, hAc27⟩ := (o8.view).some_ u13 c27.1 c27.2
     refine si rfl hk rfl rfl rfl rfl un31 sz3 c27.1 c27.2 hAc27 fun a hk => ?_
     obtain ⟨_, rfl, e30⟩ := (o8.view).at_ 0 u13 c27.1 c27.2
     refine sl (v := (.int .i64 (y3.getD u13.toNat 0))) rfl hk rfl rfl rfl ag3 ((e30 0 _ rfl).cell (hs.hasG (k := 1) rfl)) fun a hk => ?_
     refine sm _ rfl hk rfl rfl rfl fun a hk => ?_
     refine sv (.bool ((y3.getD u13.toNat 0) == x0)) hk rfl rfl rfl fun a hk => ?_
     show wpList _ _ _ [] _ _
     refine wpList_nil ?_
     refine hK26 _ _ ?_
     rcases cond_some H with ⟨c31, H⟩ | ⟨c31, H⟩
     ·have hk := hk.lit 20 c31 rfl
      refine cnd_true hk rfl rfl ?_
      apply wp_seq_k; intro K32 hK32
      apply wp_region_lit
      refine sa _ rfl hk rfl rfl rfl fun a hk => ?_
      show wpList _ _ _ [] _ _
      refine wpList_nil ?_
      refine hK32 _ _ ?_
      refine wp_ret ?_
      obtain rfl := Option.some.inj H
      have ho14 := h21
      try dsimp only at ho14
      subst ho14
      have H := HL16
      try dsimp only at H
      obtain rfl := Option.some.inj H
      exact fin hk _ [(.bool true)] rfl ⟨rfl, trivial⟩ ⟨rfl, (hs.pick [] rfl).dnil⟩
     ·have hk := hk.lit 20 c31 rfl
      refine cnd_false hk rfl rfl ?_
      refine wp_skip ?_
      refine hK25 _ _ ?_
      apply wp_region_lit
      refine sm _ rfl hk rfl rfl rfl fun a hk => ?_
      refine sv (.int .i64 (w64 (u13 + 1))) hk rfl rfl rfl fun a hk => ?_
      refine sa _ rfl hk rfl rfl rfl fun a hk => ?_
      show wpList _ _ _ [] _ _
      refine wpList_nil ?_
      obtain rfl := Option.some.inj H
      obtain ⟨m33, hmm33, h21⟩ := h21
      show ∃ n', n' < _ ∧ I18 n' _ _
      refine ⟨m33, hmm33, ?_⟩
      rw [hI18]
      exact ⟨(w64 (u13 + 1)), h21, (hk.c 0 rfl (hk.c 5 rfl (hk.c 6 rfl hk.k))), (hs.pick [(1, 1)] rfl)⟩
    ·have hk := hk.lit 12 c24 rfl
     refine cnd_false hk rfl rfl ?_
     refine wp_exit ?_
     obtain rfl := Option.some.inj H
     show R17 _ _
     rw [hR17]
     exact ⟨h21.symm, hk.k, (hs.pick [] rfl)⟩
  ·intro a w hR0
   rw [hR17] at hR0
   obtain ⟨rfl, hk, hs⟩ := hR0
   have H := HL16
   try dsimp only at H
   refine hK9 _ _ ?_
   apply wp_seq_k; intro K34 hK34
   apply wp_region_lit
   refine sa _ rfl hk rfl rfl rfl fun a hk => ?_
   show wpList _ _ _ [] _ _
   refine wpList_nil ?_
   refine hK34 _ _ ?_
   refine wp_ret ?_
   obtain rfl := Option.some.inj H
   exact fin hk _ [(.bool false)] rfl ⟨rfl, trivial⟩ ⟨rfl, (hs.pick [] rfl).dnil⟩

noncomputable def spec_OramOK.s0 (x0 : S_Oram) (u31 : List Int) (u30 : Int) : Option (((List Int) × Int) ⊕ Ex ((List Int)) (Bool)) :=
  (bif (decide (u30 < (x0.Stash.length : Int))) then (if 0 ≤ u30 ∧ u30 < (x0.Stash.length : Int) then ((spec_l08Block.f x0 (x0.Stash.getD u30.toNat z_Block) u31).bind fun y60 => (bif (!y60) then (some (.inr (.ret false))) else (if 0 ≤ u30 ∧ u30 < (x0.Stash.length : Int) then (if u31.length + ([(x0.Stash.getD u30.toNat z_Block).Id]).length ≤ 1073741824 then (some (.inl ((u31 ++ ([(x0.Stash.getD u30.toNat z_Block).Id])), (w64 (u30 + 1))))) else none) else none))) else none) else (some (.inr (.out u31))))
noncomputable def spec_OramOK.s2 (x0 : S_Oram) (u85 : Int) (u122 : List Int) (u121 : Int) : Option (((List Int) × Int) ⊕ Ex ((List Int)) (Bool)) :=
  (if 0 ≤ u85 ∧ u85 < (x0.Buckets.length : Int) then (bif (decide (u121 < ((x0.Buckets.getD u85.toNat []).length : Int))) then (if 0 ≤ u85 ∧ u85 < (x0.Buckets.length : Int) then (if 0 ≤ u121 ∧ u121 < ((x0.Buckets.getD u85.toNat []).length : Int) then ((((spec_l08Block.f x0 ((x0.Buckets.getD u85.toNat []).getD u121.toNat z_Block) u122).bind fun y172 => (bif (!y172) then (some true) else ((spec_l08On.f u85 (((x0.Buckets.getD u85.toNat []).getD u121.toNat z_Block).Leaf)).bind fun y175 => (some (!y175))))) : Option (Bool)).bind fun u167 => (bif u167 then (some (.inr (.ret false))) else (if u122.length + ([((x0.Buckets.getD u85.toNat []).getD u121.toNat z_Block).Id]).length ≤ 1073741824 then (some (.inl ((u122 ++ ([((x0.Buckets.getD u85.toNat []).getD u121.toNat z_Block).Id])), (w64 (u121 + 1))))) else none))) else none) else none) else (some (.inr (.out u122)))) else none)
noncomputable def spec_OramOK.s1 (x0 : S_Oram) (u86 : List Int) (u85 : Int) : Option (((List Int) × Int) ⊕ Ex (Unit) (Bool)) :=
  (bif (decide (u85 < 15)) then (if 0 ≤ u85 ∧ u85 < (x0.Buckets.length : Int) then (bif (decide (((x0.Buckets.getD u85.toNat []).length : Int) > 2)) then (some (.inr (.ret false))) else ((loopO (fun s => spec_OramOK.s2 x0 u85 s.1 s.2) (u86, 0)).bind fun o => match o with | .out u127 => (some (.inl (u127, (w64 (u85 + 1))))) | .ret r => (some (.inr (.ret r))))) else none) else (some (.inr (.out ()))))
noncomputable def spec_OramOK.f (x0 : S_Oram) : Option (Bool) :=
  (((bif ((x0.Pos.length : Int) != 12) then (some true) else ((spec_l08Leaves.f x0.Pos).bind fun y12 => (bif (!y12) then (some true) else (bif (decide ((x0.Stash.length : Int) > 12)) then (some true) else (some ((x0.Buckets.length : Int) != 15)))))) : Option (Bool)).bind fun u6 => (bif u6 then (some false) else ((loopO (fun s => spec_OramOK.s0 x0 s.1 s.2) (([] : List Int), 0)).bind fun o => match o with | .out u36 => ((loopO (fun s => spec_OramOK.s1 x0 s.1 s.2) (u36, 0)).bind fun o => match o with | .out _ => (some true) | .ret r => (some r)) | .ret r => (some r))))
set_option maxRecDepth 100000 in
set_option maxHeartbeats 0 in
theorem spec_OramOK_t (w0 : World) (x0 : S_Oram) (A0_0 : Option Addr) (p0_0 : Nat) (k0_0 : Chunk) (v0_0 : View (Lay.int .i64) A0_0 p0_0 x0.Pos k0_0) (w0_0 : Has w0 k0_0) (A0_1 : Option Addr) (p0_1 : Nat) (k0_1 : Chunk) (v0_1 : View L_Block A0_1 p0_1 x0.Stash k0_1) (w0_1 : Has w0 k0_1) (A0_2 : Option Addr) (p0_2 : Nat) (k0_2 : Chunk) (v0_2 : View (Lay.sl L_Block 81) A0_2 p0_2 x0.Buckets k0_2) (w0_2 : Has w0 k0_2) (r : Bool) (H : spec_OramOK.f x0 = some r) :
    Calls Try.prog 80 #[.agg #[.slice A0_0 x0.Pos.length p0_0, .slice A0_1 x0.Stash.length p0_1, .slice A0_2 x0.Buckets.length p0_2]] w0 (Ret (fun v w => v = .bool r ∧ Sat [] w0 w [] [])) := by
  have hs : Sat [] w0 w0 [(1, k0_0), (2, k0_1), (3, k0_2)] [] := Sat.init w0 [(1, k0_0), (2, k0_1), (3, k0_2)] [] (by simp only [List.mem_cons, List.not_mem_nil, or_false]; rintro x (rfl | rfl | rfl) <;> assumption) (by simp) List.nodup_nil (by simp [blks])
  unfold spec_OramOK.f at H
  refine enter Try.func80 rfl Try.ntmps80 rfl fun a hk => ?_
  apply wp_seq_k; intro K1 hK1
  apply wp_region_lit
  refine sbx 4 hs rfl hk rfl rfl rfl rfl fun b2 w a hk hs => ?_
  refine sa _ rfl hk rfl rfl rfl fun a hk => ?_
  show wpList _ _ _ [] _ _
  refine wpList_nil ?_
  refine hK1 _ _ ?_
  apply wp_seq_k; intro K3 hK3
  apply wp_seq_k; intro K4 hK4
  obtain ⟨o7, h8, HL9⟩ := bind_some H
  clear H
  obtain ⟨R10, hR10⟩ : ∃ R : Act → World → Prop, R = fun a w => ∃ (u6 : Bool), u6 = o7 ∧ Kn [(1, (.pointer (some ⟨b2, 0, none⟩))), (29, (.bool u6))] 102 a ∧ Sat [] w0 w [(1, k0_0), (2, k0_1), (3, k0_2)] [(4, [(b2, .cells #[.slice A0_0 x0.Pos.length p0_0, .slice A0_1 x0.Stash.length p0_1, .slice A0_2 x0.Buckets.length p0_2] 51 (0, 0))])] := ⟨_, rfl⟩
  refine wp_cutq R10 ?_ ?_
  ·have H := h8
   apply wp_region_lit
   refine sf ⟨b2, 0, none⟩ rfl hk rfl rfl rfl fd51_0 rfl fun a hk => ?_
   refine sl rfl hk rfl rfl rfl ag31 (box_cell hs (k := 4) rfl rfl) fun a hk => ?_
   refine sle rfl hk rfl rfl rfl un31 fun a hk => ?_
   refine sv (.bool ((x0.Pos.length : Int) != 12)) hk rfl rfl rfl fun a hk => ?_
   refine sm _ rfl hk rfl rfl rfl fun a hk => ?_
   rcases cond_some H with ⟨c11, H⟩ | ⟨c11, H⟩
   ·have hk := hk.lit 12 c11 rfl
    refine sk hk rfl rfl rfl fun a hk => ?_
    refine sk hk rfl rfl rfl fun a hk => ?_
    refine sk hk rfl rfl rfl fun a hk => ?_
    refine sk hk rfl rfl rfl fun a hk => ?_
    refine sv (.bool true) hk rfl rfl rfl fun a hk => ?_
    refine sm _ rfl hk rfl rfl rfl fun a hk => ?_
    refine sk hk rfl rfl rfl fun a hk => ?_
    refine sk hk rfl rfl rfl fun a hk => ?_
    refine sk hk rfl rfl rfl fun a hk => ?_
    refine sk hk rfl rfl rfl fun a hk => ?_
    refine sv (.bool true) hk rfl rfl rfl fun a hk => ?_
    refine sm _ rfl hk rfl rfl rfl fun a hk => ?_
    refine sk hk rfl rfl rfl fun a hk => ?_
    refine sk hk rfl rfl rfl fun a hk => ?_
    refine sk hk rfl rfl rfl fun a hk => ?_
    refine sk hk rfl rfl rfl fun a hk => ?_
    refine sv (.bool true) hk rfl rfl rfl fun a hk => ?_
    show wpList _ _ _ [] _ _
    refine wpList_nil ?_
    obtain rfl := Option.some.inj H
    show R10 _ _
    rw [hR10]
    exact ⟨true, rfl, (hk.c 1 rfl (hk.c 29 rfl hk.k)), (hs.pick [(4, 4)] rfl)⟩
   ·have hk := hk.lit 12 c11 rfl
    refine sf ⟨b2, 0, none⟩ rfl hk rfl rfl rfl fd51_0 rfl fun a hk => ?_
    refine sl rfl hk rfl rfl rfl ag31 (box_cell hs (k := 4) rfl rfl) fun a hk => ?_
    obtain ⟨y12, h13, H⟩ := bind_some H
    refine sc rfl en111 hk rfl rfl rfl (spec_l08Leaves_t _ A0_0 p0_0 x0.Pos _ v0_0 (hs.hasD (k := 1) rfl) _ h13) ?_
    rintro _ w ⟨rfl, hG⟩ a hk
    have hs := hs.call0 hG
    refine sv (.bool (!y12)) hk rfl rfl rfl fun a hk => ?_
    refine sv (.bool (!y12)) hk rfl rfl rfl fun a hk => ?_
    refine sm _ rfl hk rfl rfl rfl fun a hk => ?_
    rcases cond_some H with ⟨c14, H⟩ | ⟨c14, H⟩
    ·have hk := hk.lit 18 c14 rfl
     refine sk hk rfl rfl rfl fun a hk => ?_
     refine sk hk rfl rfl rfl fun a hk => ?_
     refine sk hk rfl rfl rfl fun a hk => ?_
     refine sk hk rfl rfl rfl fun a hk => ?_
     refine sv (.bool true) hk rfl rfl rfl fun a hk => ?_
     refine sm _ rfl hk rfl rfl rfl fun a hk => ?_
     refine sk hk rfl rfl rfl fun a hk => ?_
     refine sk hk rfl rfl rfl fun a hk => ?_
     refine sk hk rfl rfl rfl fun a hk => ?_
     refine sk hk rfl rfl rfl fun a hk => ?_
     refine sv (.bool true) hk rfl rfl rfl fun a hk => ?_
     show wpList _ _ _ [] _ _
     refine wpList_nil ?_
     obtain rfl := Option.some.inj H
     show R10 _ _
     rw [hR10]
     exact ⟨true, rfl, (hk.c 1 rfl (hk.c 29 rfl hk.k)), (hs.pick [(4, 4)] rfl)⟩
    ·have hk := hk.lit 18 c14 rfl
     refine sf ⟨b2, 1, none⟩ rfl hk rfl rfl rfl fd51_1 rfl fun a hk => ?_
     refine sl rfl hk rfl rfl rfl ag26 (box_cell hs (k := 4) rfl rfl) fun a hk => ?_
     refine sle rfl hk rfl rfl rfl un26 fun a hk => ?_
     refine sv (.bool (decide ((x0.Stash.length : Int) > 12))) hk rfl rfl rfl fun a hk => ?_
     refine sv (.bool (decide ((x0.Stash.length : Int) > 12))) hk rfl rfl rfl fun a hk => ?_
     refine sm _ rfl hk rfl rfl rfl fun a hk => ?_
     rcases cond_some H with ⟨c15, H⟩ | ⟨c15, H⟩
     ·have hk := hk.lit 24 c15 rfl
      refine sk hk rfl rfl rfl fun a hk => ?_
      refine sk hk rfl rfl rfl fun a hk => ?_
      refine sk hk rfl rfl rfl fun a hk => ?_
      refine sk hk rfl rfl rfl fun a hk => ?_
      refine sv (.bool true) hk rfl rfl rfl fun a hk => ?_
      show wpList _ _ _ [] _ _
      refine wpList_nil ?_
      obtain rfl := Option.some.inj H
      show R10 _ _
      rw [hR10]
      exact ⟨true, rfl, (hk.c 1 rfl (hk.c 29 rfl hk.k)), (hs.pick [(4, 4)] rfl)⟩
     ·have hk := hk.lit 24 c15 rfl
      refine sf ⟨b2, 2, none⟩ rfl hk rfl rfl rfl fd51_2 rfl fun a hk => ?_
      refine sl rfl hk rfl rfl rfl ag49 (box_cell hs (k := 4) rfl rfl) fun a hk => ?_
      refine sle rfl hk rfl rfl rfl un49 fun a hk => ?_
      refine sv (.bool ((x0.Buckets.length : Int) != 15)) hk rfl rfl rfl fun a hk => ?_
      refine sv (.bool ((x0.Buckets.length : Int) != 15)) hk rfl rfl rfl fun a hk => ?_
      show wpList _ _ _ [] _ _
      refine wpList_nil ?_
      obtain rfl := Option.some.inj H
      show R10 _ _
      rw [hR10]
      exact ⟨((x0.Buckets.length : Int) != 15), rfl, (hk.c 1 rfl (hk.c 29 rfl hk.k)), (hs.pick [(4, 4)] rfl)⟩
  ·intro a w hR0
   rw [hR10] at hR0
   obtain ⟨u6, rfl, hk, hs⟩ := hR0
   have H := HL9
   try dsimp only at H
   refine hK4 _ _ ?_
   rcases cond_some H with ⟨c16, H⟩ | ⟨c16, H⟩
   ·have hk := hk.lit 29 c16 rfl
    refine cnd_true hk rfl rfl ?_
    apply wp_seq_k; intro K17 hK17
    apply wp_region_lit
    refine sa _ rfl hk rfl rfl rfl fun a hk => ?_
    show wpList _ _ _ [] _ _
    refine wpList_nil ?_
    refine hK17 _ _ ?_
    refine wp_ret ?_
    obtain rfl := Option.some.inj H
    exact fin hk _ [(.bool false)] rfl ⟨rfl, trivial⟩ ⟨rfl, (hs.pick [] rfl).dnil⟩
   ·have hk := hk.lit 29 c16 rfl
    refine cnd_false hk rfl rfl ?_
    refine wp_skip ?_
    refine hK3 _ _ ?_
    apply wp_seq_k; intro K18 hK18
    apply wp_region_lit
    refine sbs0 6 (Lay.int .i64) hs rfl hk rfl rfl un31 sz3 fun b19 k20 w a hk o21 hs => ?_
    refine sa _ rfl hk rfl rfl rfl fun a hk => ?_
    show wpList _ _ _ [] _ _
    refine wpList_nil ?_
    refine hK18 _ _ ?_
    apply wp_seq_k; intro K22 hK22
    apply wp_seq_k; intro K23 hK23
    apply wp_region_lit
    refine sa _ rfl hk rfl rfl rfl fun a hk => ?_
    show wpList _ _ _ [] _ _
    refine wpList_nil ?_
    refine hK23 _ _ ?_
    obtain ⟨o41, h42, HL43⟩ := bind_some H
    clear H
    obtain ⟨R44, hR44⟩ : ∃ R : Act → World → Prop, R = fun a w => ∃ (u36 : List Int) (A39 : Option Addr) (p40 : Nat) (k37 : Chunk), o41 = .out u36 ∧ Kn [(1, (.pointer (some ⟨b2, 0, none⟩))), (3, (.slice A39 u36.length p40))] 102 a ∧ Sat [] w0 w [(1, k0_0), (2, k0_1), (3, k0_2)] [(6, k37), (4, [(b2, .cells #[.slice A0_0 x0.Pos.length p0_0, .slice A0_1 x0.Stash.length p0_1, .slice A0_2 x0.Buckets.length p0_2] 51 (0, 0))])] ∧ Own (Lay.int .i64) 3 A39 p40 u36 k37 := ⟨_, rfl⟩
    refine wp_cutq R44 ?_ ?_
    ·refine wp_block ?_
     obtain ⟨fu46, h42⟩ := loopO_some h42
     obtain ⟨I45, hI45⟩ : ∃ I : Nat → Act → World → Prop, I = fun fu a w => ∃ (u31 : List Int) (u30 : Int) (A34 : Option Addr) (p35 : Nat) (k32 : Chunk), loopN (fun s => spec_OramOK.s0 x0 s.1 s.2) fu (u31, u30) = some o41 ∧ Kn [(1, (.pointer (some ⟨b2, 0, none⟩))), (3, (.slice A34 u31.length p35)), (4, (.int .i64 u30))] 102 a ∧ Sat [] w0 w [(1, k0_0), (2, k0_1), (3, k0_2)] [(6, k32), (4, [(b2, .cells #[.slice A0_0 x0.Pos.length p0_0, .slice A0_1 x0.Stash.length p0_1, .slice A0_2 x0.Buckets.length p0_2] 51 (0, 0))])] ∧ Own (Lay.int .i64) 3 A34 p35 u31 k32 := ⟨_, rfl⟩
     refine wp_loop_ghost I45 fu46 ?_ ?_
     ·rw [hI45]
      exact ⟨([] : List Int), 0, (some ⟨b19, 0, none⟩), 0, _, h42, (hk.c 1 rfl (hk.c 3 rfl (hk.c 4 rfl hk.k))), (hs.pick [(6, 6), (4, 4)] rfl), o21⟩
     ·clear h42 hk hs
      intro fu46 a w hI0
      rw [hI45] at hI0
      obtain ⟨u31, u30, A34, p35, k32, hi, hk, hs, o33⟩ := hI0
      obtain ⟨x47, H, h48⟩ := loop_round hi
      try dsimp only at H
      unfold spec_OramOK.s0 at H
      apply wp_seq_k; intro K49 hK49
      apply wp_seq_k; intro K50 hK50
      apply wp_region_lit
      refine sm _ rfl hk rfl rfl rfl fun a hk => ?_
      refine sf ⟨b2, 1, none⟩ rfl hk rfl rfl rfl fd51_1 rfl fun a hk => ?_
      refine sl rfl hk rfl rfl rfl ag26 (box_cell hs (k := 4) rfl rfl) fun a hk => ?_
      refine sle rfl hk rfl rfl rfl un26 fun a hk => ?_
      refine sv (.bool (decide (u30 < (x0.Stash.length : Int)))) hk rfl rfl rfl fun a hk => ?_
      show wpList _ _ _ [] _ _
      refine wpList_nil ?_
      refine hK50 _ _ ?_
      rcases cond_some H with ⟨c51, H⟩ | ⟨c51, H⟩
      ·have hk := hk.lit 35 c51 rfl
       refine cnd_true hk rfl rfl ?_
       refine wp_skip ?_
       refine hK49 _ _ ?_
       apply wp_seq_k; intro K52 hK52
       refine wp_block ?_
       apply wp_seq_k; intro K53 hK53
       apply wp_seq_k; intro K54 hK54
       refine wp_region_tree (.q 0 (.q 1 (.q 2 (.q 3 (.q 4 (.q 5 (.alt 6 (.alt 7 (.alt 8 .done .stop) .stop) .stop))))))) mo (by kernel_rfl) (hs.pick [(6, 6), (4, 4)] rfl) fun _ => ?_
       have hs := hs.drew
       refine tqst (.agg #[.slice A0_0 x0.Pos.length p0_0, .slice A0_1 x0.Stash.length p0_1, .slice A0_2 x0.Buckets.length p0_2]) hk rfl rfl rfl rfl (fun w hs => sln [.slice A0_0 x0.Pos.length p0_0, .slice A0_1 x0.Stash.length p0_1, .slice A0_2 x0.Buckets.length p0_2] rfl hk rfl rfl rfl ag51 sz51 (box_cells hs (k := 4) rfl) fun a hk => qe hk) fun a hk => ?_
       refine tqst (.pointer (some ⟨b2, 1, none⟩)) hk rfl rfl rfl rfl (fun w hs => sf ⟨b2, 1, none⟩ rfl hk rfl rfl rfl fd51_1 rfl fun a hk => qe hk) fun a hk => ?_
       refine tqst (.slice A0_1 x0.Stash.length p0_1) hk rfl rfl rfl rfl (fun w hs => sl rfl hk rfl rfl rfl ag26 (box_cell hs (k := 4) rfl rfl) fun a hk => qe hk) fun a hk => ?_
       refine tqst (.int .i64 u30) hk rfl rfl rfl rfl (fun w hs => sm _ rfl hk rfl rfl rfl fun a hk => qe hk) fun a hk => ?_
       rcases ite_some H with ⟨c56, H⟩ | ⟨_, H⟩
       rotate_left
       ·cases H
       obtain ⟨b57, q58, hAc56⟩ := (v0_1).some_ u30 c56.1 c56.2
       refine tqst (.pointer (some (padd A0_1 (u30.toNat * 3)))) hk rfl rfl rfl rfl (fun w hs => si rfl hk rfl rfl rfl rfl un26 sz81 c56.1 c56.2 hAc56 fun a hk => qe hk) fun a hk => ?_
       obtain ⟨_, rfl, e59⟩ := (v0_1).at_ z_Block u30 c56.1 c56.2
       refine tqst (.agg #[.int .i64 ((x0.Stash.getD u30.toNat z_Block).Id), .int .i64 ((x0.Stash.getD u30.toNat z_Block).Leaf), .int .i64 ((x0.Stash.getD u30.toNat z_Block).Value)]) hk rfl rfl rfl rfl (fun w hs => sln [.int .i64 ((x0.Stash.getD u30.toNat z_Block).Id), .int .i64 ((x0.Stash.getD u30.toNat z_Block).Leaf), .int .i64 ((x0.Stash.getD u30.toNat z_Block).Value)] rfl hk rfl rfl rfl ag81 sz81 (cells_at e59 (hs.hasD (k := 2) rfl)) fun a hk => qe hk) fun a hk => ?_
       refine tsst hk rfl rfl (fun K_r55_6 hK_r55_6 w hF => ?_) wt_stop
       have hs := hs.f hF
       refine sm _ rfl hk rfl rfl rfl fun a hk => ?_
       refine se (hs.pick [(6, 6), (4, 4)] rfl) hk (hK_r55_6 _ _ ?_)
       refine tsst hk rfl rfl (fun K_r55_7 hK_r55_7 w hF => ?_) wt_stop
       have hs := hs.f hF
       obtain ⟨y60, h61, H⟩ := bind_some H
       refine sc rfl en126 hk rfl rfl rfl (spec_l08Block_t _ x0 A0_0 p0_0 _ v0_0 (hs.hasD (k := 1) rfl) A0_1 p0_1 _ v0_1 (hs.hasD (k := 2) rfl) A0_2 p0_2 _ v0_2 (hs.hasD (k := 3) rfl) (x0.Stash.getD u30.toNat z_Block) A34 p35 u31 _ o33.view (hs.hasG (k := 6) rfl) _ h61) ?_
       rintro _ w ⟨rfl, hG⟩ a hk
       have hs := hs.call0 hG
       refine se (hs.pick [(6, 6), (4, 4)] rfl) hk (hK_r55_7 _ _ ?_)
       refine tsst hk rfl rfl (fun K_r55_8 hK_r55_8 w hF => ?_) wt_stop
       have hs := hs.f hF
       refine sv (.bool (!y60)) hk rfl rfl rfl fun a hk => ?_
       refine se (hs.pick [(6, 6), (4, 4)] rfl) hk (hK_r55_8 _ _ ?_)
       refine wtl_nil fun w hF _ => ?_
       have hs := hs.f hF
       refine hK54 _ _ ?_
       rcases cond_some H with ⟨c62, H⟩ | ⟨c62, H⟩
       ·have hk := hk.lit 46 c62 rfl
        refine cnd_true hk rfl rfl ?_
        apply wp_seq_k; intro K63 hK63
        apply wp_region_lit
        refine sa _ rfl hk rfl rfl rfl fun a hk => ?_
        show wpList _ _ _ [] _ _
        refine wpList_nil ?_
        refine hK63 _ _ ?_
        refine wp_ret ?_
        obtain rfl := Option.some.inj H
        have ho41 := h48
        try dsimp only at ho41
        subst ho41
        have H := HL43
        try dsimp only at H
        obtain rfl := Option.some.inj H
        exact fin hk _ [(.bool false)] rfl ⟨rfl, trivial⟩ ⟨rfl, (hs.pick [] rfl).dnil⟩
       ·have hk := hk.lit 46 c62 rfl
        refine cnd_false hk rfl rfl ?_
        refine wp_skip ?_
        refine hK53 _ _ ?_
        apply wp_region_lit
        refine sm _ rfl hk rfl rfl rfl fun a hk => ?_
        refine sf ⟨b2, 1, none⟩ rfl hk rfl rfl rfl fd51_1 rfl fun a hk => ?_
        refine sl rfl hk rfl rfl rfl ag26 (box_cell hs (k := 4) rfl rfl) fun a hk => ?_
        refine sm _ rfl hk rfl rfl rfl fun a hk => ?_
        rcases ite_some H with ⟨c64, H⟩ | ⟨_, H⟩
        rotate_left
        ·cases H
        obtain ⟨b65, q66, hAc64⟩ := (v0_1).some_ u30 c64.1 c64.2
        refine si rfl hk rfl rfl rfl rfl un26 sz81 c64.1 c64.2 hAc64 fun a hk => ?_
        refine sf (padd A0_1 (u30.toNat * 3 + 0)) rfl hk rfl rfl rfl fd81_0 (padd_add _ _ _) fun a hk => ?_
        obtain ⟨_, rfl, e67⟩ := (v0_1).at_ z_Block u30 c64.1 c64.2
        refine sl (v := (.int .i64 ((x0.Stash.getD u30.toNat z_Block).Id))) rfl hk rfl rfl rfl ag3 ((e67 0 _ rfl).cell (hs.hasD (k := 2) rfl)) fun a hk => ?_
        refine sbs (L := (Lay.int .i64)) (pv := [(0, (.int .i64 ((x0.Stash.getD u30.toNat z_Block).Id)))]) (xs := [(x0.Stash.getD u30.toNat z_Block).Id]) (ess := [[.int .i64 ((x0.Stash.getD u30.toNat z_Block).Id)]]) 9 hs rfl hk rfl rfl rfl un31 (bs3_0 ((x0.Stash.getD u30.toNat z_Block).Id)) (AllOwn.cons0 ⟨rfl, rfl⟩ AllOwn.nil) rfl rfl rfl fun b68 k69 w a hk o70 hs => ?_
        rcases ite_some H with ⟨c71, H⟩ | ⟨_, H⟩
        rotate_left
        ·cases H
        refine sap 6 (xs := u31) (ys := [(x0.Stash.getD u30.toNat z_Block).Id]) (flat_flat : ((Lay.int .i64)).Flat) hs rfl o33 o70.view (hs.hasG (k := 9) rfl) rfl hk rfl rfl rfl rfl rfl rfl un31 mk3 rfl rfl rfl c71 fun A72 p73 k74 w a hk o75 hs => ?_
        refine sa _ rfl hk rfl rfl rfl fun a hk => ?_
        show wpList _ _ _ [] _ _
        refine wpList_nil ?_
        refine hK52 _ _ ?_
        apply wp_region_lit
        refine sm _ rfl hk rfl rfl rfl fun a hk => ?_
        refine sv (.int .i64 (w64 (u30 + 1))) hk rfl rfl rfl fun a hk => ?_
        refine sa _ rfl hk rfl rfl rfl fun a hk => ?_
        show wpList _ _ _ [] _ _
        refine wpList_nil ?_
        obtain rfl := Option.some.inj H
        obtain ⟨m76, hmm76, h48⟩ := h48
        show ∃ n', n' < _ ∧ I45 n' _ _
        refine ⟨m76, hmm76, ?_⟩
        rw [hI45]
        exact ⟨(u31 ++ ([(x0.Stash.getD u30.toNat z_Block).Id])), (w64 (u30 + 1)), A72, p73, _, h48, (hk.c 1 rfl (hk.c 3 rfl (hk.c 4 rfl hk.k))), (hs.pick [(6, 6), (4, 4)] rfl), o75⟩
      ·have hk := hk.lit 35 c51 rfl
       refine cnd_false hk rfl rfl ?_
       refine wp_exit ?_
       obtain rfl := Option.some.inj H
       show R44 _ _
       rw [hR44]
       exact ⟨u31, A34, p35, _, h48.symm, (hk.c 1 rfl (hk.c 3 rfl hk.k)), (hs.pick [(6, 6), (4, 4)] rfl), o33⟩
    ·intro a w hR0
     rw [hR44] at hR0
     obtain ⟨u36, A39, p40, k37, rfl, hk, hs, o38⟩ := hR0
     have H := HL43
     try dsimp only at H
     refine hK22 _ _ ?_
     apply wp_seq_k; intro K77 hK77
     apply wp_seq_k; intro K78 hK78
     apply wp_region_lit
     refine sa _ rfl hk rfl rfl rfl fun a hk => ?_
     show wpList _ _ _ [] _ _
     refine wpList_nil ?_
     refine hK78 _ _ ?_
     obtain ⟨o91, h92, HL93⟩ := bind_some H
     clear H
     obtain ⟨R94, hR94⟩ : ∃ R : Act → World → Prop, R = fun a w => o91 = .out () ∧ Kn [] 102 a ∧ Sat [] w0 w [(1, k0_0), (2, k0_1), (3, k0_2)] [] := ⟨_, rfl⟩
     refine wp_cutq R94 ?_ ?_
     ·refine wp_block ?_
      obtain ⟨fu96, h92⟩ := loopO_some h92
      obtain ⟨I95, hI95⟩ : ∃ I : Nat → Act → World → Prop, I = fun fu a w => ∃ (u86 : List Int) (u85 : Int) (A89 : Option Addr) (p90 : Nat) (k87 : Chunk), loopN (fun s => spec_OramOK.s1 x0 s.1 s.2) fu (u86, u85) = some o91 ∧ Kn [(1, (.pointer (some ⟨b2, 0, none⟩))), (3, (.slice A89 u86.length p90)), (5, (.int .i64 u85))] 102 a ∧ Sat [] w0 w [(1, k0_0), (2, k0_1), (3, k0_2)] [(6, k87), (4, [(b2, .cells #[.slice A0_0 x0.Pos.length p0_0, .slice A0_1 x0.Stash.length p0_1, .slice A0_2 x0.Buckets.length p0_2] 51 (0, 0))])] ∧ Own (Lay.int .i64) 3 A89 p90 u86 k87 := ⟨_, rfl⟩
      refine wp_loop_ghost I95 fu96 ?_ ?_
      ·rw [hI95]
       exact ⟨u36, 0, A39, p40, _, h92, (hk.c 1 rfl (hk.c 3 rfl (hk.c 5 rfl hk.k))), (hs.pick [(6, 6), (4, 4)] rfl), o38⟩
      ·clear h92 hk hs
       intro fu96 a w hI0
       rw [hI95] at hI0
       obtain ⟨u86, u85, A89, p90, k87, hi, hk, hs, o88⟩ := hI0
       obtain ⟨x97, H, h98⟩ := loop_round hi
       try dsimp only at H
       unfold spec_OramOK.s1 at H
       apply wp_seq_k; intro K99 hK99
       apply wp_seq_k; intro K100 hK100
       apply wp_region_lit
       refine sm _ rfl hk rfl rfl rfl fun a hk => ?_
       refine sv (.bool (decide (u85 < 15))) hk rfl rfl rfl fun a hk => ?_
       show wpList _ _ _ [] _ _
       refine wpList_nil ?_
       refine hK100 _ _ ?_
       rcases cond_some H with ⟨c101, H⟩ | ⟨c101, H⟩
       ·have hk := hk.lit 57 c101 rfl
        refine cnd_true hk rfl rfl ?_
        refine wp_skip ?_
        refine hK99 _ _ ?_
        apply wp_seq_k; intro K102 hK102
        refine wp_block ?_
        apply wp_seq_k; intro K103 hK103
        apply wp_seq_k; intro K104 hK104
        apply wp_region_lit
        refine sf ⟨b2, 2, none⟩ rfl hk rfl rfl rfl fd51_2 rfl fun a hk => ?_
        refine sl rfl hk rfl rfl rfl ag49 (box_cell hs (k := 4) rfl rfl) fun a hk => ?_
        refine sm _ rfl hk rfl rfl rfl fun a hk => ?_
        rcases ite_some H with ⟨c105, H⟩ | ⟨_, H⟩
        rotate_left
        ·cases H
        obtain ⟨b106, q107, hAc105⟩ := (v0_2).some_ u85 c105.1 c105.2
        refine si rfl hk rfl rfl rfl rfl un49 sz26 c105.1 c105.2 hAc105 fun a hk => ?_
        obtain ⟨_, ⟨_, rfl, A109, p110, rfl, v111⟩, e108⟩ := (v0_2).at_ [] u85 c105.1 c105.2
        refine sl (v := (.slice A109 (x0.Buckets.getD u85.toNat []).length p110)) rfl hk rfl rfl rfl ag26 ((e108 0 _ rfl).cell (hs.hasD (k := 3) rfl)) fun a hk => ?_
        refine sle rfl hk rfl rfl rfl un26 fun a hk => ?_
        refine sv (.bool (decide (((x0.Buckets.getD u85.toNat []).length : Int) > 2))) hk rfl rfl rfl fun a hk => ?_
        show wpList _ _ _ [] _ _
        refine wpList_nil ?_
        refine hK104 _ _ ?_
        rcases cond_some H with ⟨c112, H⟩ | ⟨c112, H⟩
        ·have hk := hk.lit 66 c112 rfl
         refine cnd_true hk rfl rfl ?_
         apply wp_seq_k; intro K113 hK113
         apply wp_region_lit
         refine sa _ rfl hk rfl rfl rfl fun a hk => ?_
         show wpList _ _ _ [] _ _
         refine wpList_nil ?_
         refine hK113 _ _ ?_
         refine wp_ret ?_
         obtain rfl := Option.some.inj H
         have ho91 := h98
         try dsimp only at ho91
         subst ho91
         have H := HL93
         try dsimp only at H
         obtain rfl := Option.some.inj H
         exact fin hk _ [(.bool false)] rfl ⟨rfl, trivial⟩ ⟨rfl, (hs.pick [] rfl).dnil⟩
        ·have hk := hk.lit 66 c112 rfl
         refine cnd_false hk rfl rfl ?_
         refine wp_skip ?_
         refine hK103 _ _ ?_
         apply wp_seq_k; intro K114 hK114
         apply wp_region_lit
         refine sa _ rfl hk rfl rfl rfl fun a hk => ?_
         show wpList _ _ _ [] _ _
         refine wpList_nil ?_
         refine hK114 _ _ ?_
         obtain ⟨o132, h133, HL134⟩ := bind_some H
         clear H
         obtain ⟨R135, hR135⟩ : ∃ R : Act → World → Prop, R = fun a w => ∃ (u127 : List Int) (A130 : Option Addr) (p131 : Nat) (k128 : Chunk), o132 = .out u127 ∧ Kn [(1, (.pointer (some ⟨b2, 0, none⟩))), (3, (.slice A130 u127.length p131)), (5, (.int .i64 u85))] 102 a ∧ Sat [] w0 w [(1, k0_0), (2, k0_1), (3, k0_2)] [(6, k128), (4, [(b2, .cells #[.slice A0_0 x0.Pos.length p0_0, .slice A0_1 x0.Stash.length p0_1, .slice A0_2 x0.Buckets.length p0_2] 51 (0, 0))])] ∧ Own (Lay.int .i64) 3 A130 p131 u127 k128 := ⟨_, rfl⟩
         refine wp_cutq R135 ?_ ?_
         ·refine wp_block ?_
          obtain ⟨fu137, h133⟩ := loopO_some h133
          obtain ⟨I136, hI136⟩ : ∃ I : Nat → Act → World → Prop, I = fun fu a w => ∃ (u122 : List Int) (u121 : Int) (A125 : Option Addr) (p126 : Nat) (k123 : Chunk), loopN (fun s => spec_OramOK.s2 x0 u85 s.1 s.2) fu (u122, u121) = some o132 ∧ Kn [(1, (.pointer (some ⟨b2, 0, none⟩))), (3, (.slice A125 u122.length p126)), (5, (.int .i64 u85)), (6, (.int .i64 u121))] 102 a ∧ Sat [] w0 w [(1, k0_0), (2, k0_1), (3, k0_2)] [(6, k123), (4, [(b2, .cells #[.slice A0_0 x0.Pos.length p0_0, .slice A0_1 x0.Stash.length p0_1, .slice A0_2 x0.Buckets.length p0_2] 51 (0, 0))])] ∧ Own (Lay.int .i64) 3 A125 p126 u122 k123 := ⟨_, rfl⟩
          refine wp_loop_ghost I136 fu137 ?_ ?_
          ·rw [hI136]
           exact ⟨u86, 0, A89, p90, _, h133, (hk.c 1 rfl (hk.c 3 rfl (hk.c 5 rfl (hk.c 6 rfl hk.k)))), (hs.pick [(6, 6), (4, 4)] rfl), o88⟩
          ·clear h133 hk hs
           intro fu137 a w hI0
           rw [hI136] at hI0
           obtain ⟨u122, u121, A125, p126, k123, hi, hk, hs, o124⟩ := hI0
           obtain ⟨x138, H, h139⟩ := loop_round hi
           try dsimp only at H
           unfold spec_OramOK.s2 at H
           apply wp_seq_k; intro K140 hK140
           apply wp_seq_k; intro K141 hK141
           apply wp_region_lit
           refine sm _ rfl hk rfl rfl rfl fun a hk => ?_
           refine sf ⟨b2, 2, none⟩ rfl hk rfl rfl rfl fd51_2 rfl fun a hk => ?_
           refine sl rfl hk rfl rfl rfl ag49 (box_cell hs (k := 4) rfl rfl) fun a hk => ?_
           refine sm _ rfl hk rfl rfl rfl fun a hk => ?_
           rcases ite_some H with ⟨c142, H⟩ | ⟨_, H⟩
           rotate_left
           ·cases H
           obtain ⟨b143, q144, hAc142⟩ := (v0_2).some_ u85 c142.1 c142.2
           refine si rfl hk rfl rfl rfl rfl un49 sz26 c142.1 c142.2 hAc142 fun a hk => ?_
           obtain ⟨_, ⟨_, rfl, A146, p147, rfl, v148⟩, e145⟩ := (v0_2).at_ [] u85 c142.1 c142.2
           refine sl (v := (.slice A146 (x0.Buckets.getD u85.toNat []).length p147)) rfl hk rfl rfl rfl ag26 ((e145 0 _ rfl).cell (hs.hasD (k := 3) rfl)) fun a hk => ?_
           refine sle rfl hk rfl rfl rfl un26 fun a hk => ?_
           refine sv (.bool (decide (u121 < ((x0.Buckets.getD u85.toNat []).length : Int)))) hk rfl rfl rfl fun a hk => ?_
           show wpList _ _ _ [] _ _
           refine wpList_nil ?_
           refine hK141 _ _ ?_
           rcases cond_some H with ⟨c149, H⟩ | ⟨c149, H⟩
           ·have hk := hk.lit 74 c149 rfl
            refine cnd_true hk rfl rfl ?_
            refine wp_skip ?_
            refine hK140 _ _ ?_
            apply wp_seq_k; intro K150 hK150
            refine wp_block ?_
            apply wp_seq_k; intro K151 hK151
            apply wp_region_lit
            refine sf ⟨b2, 2, none⟩ rfl hk rfl rfl rfl fd51_2 rfl fun a hk => ?_
            refine sl rfl hk rfl rfl rfl ag49 (box_cell hs (k := 4) rfl rfl) fun a hk => ?_
            refine sm _ rfl hk rfl rfl rfl fun a hk => ?_
            rcases ite_some H with ⟨c152, H⟩ | ⟨_, H⟩
            rotate_left
            ·cases H
            obtain ⟨b153, q154, hAc152⟩ := (v0_2).some_ u85 c152.1 c152.2
            refine si rfl hk rfl rfl rfl rfl un49 sz26 c152.1 c152.2 hAc152 fun a hk => ?_
            obtain ⟨_, ⟨_, rfl, A156, p157, rfl, v158⟩, e155⟩ := (v0_2).at_ [] u85 c152.1 c152.2
            refine sl (v := (.slice A156 (x0.Buckets.getD u85.toNat []).length p157)) rfl hk rfl rfl rfl ag26 ((e155 0 _ rfl).cell (hs.hasD (k := 3) rfl)) fun a hk => ?_
            refine sm _ rfl hk rfl rfl rfl fun a hk => ?_
            rcases ite_some H with ⟨c159, H⟩ | ⟨_, H⟩
            rotate_left
            ·cases H
            obtain ⟨b160, q161, hAc159⟩ := (v158).some_ u121 c159.1 c159.2
            refine si rfl hk rfl rfl rfl rfl un26 sz81 c159.1 c159.2 hAc159 fun a hk => ?_
            obtain ⟨_, rfl, e162⟩ := (v158).at_ z_Block u121 c159.1 c159.2
            refine sln [.int .i64 (((x0.Buckets.getD u85.toNat []).getD u121.toNat z_Block).Id), .int .i64 (((x0.Buckets.getD u85.toNat []).getD u121.toNat z_Block).Leaf), .int .i64 (((x0.Buckets.getD u85.toNat []).getD u121.toNat z_Block).Value)] rfl hk rfl rfl rfl ag81 sz81 (cells_at e162 (hs.hasD (k := 3) rfl)) fun a hk => ?_
            refine salx 12 hs rfl hk rfl rfl ze81 rfl fun b163 w a hk hs => ?_
            refine ssw 12 hs rfl rfl hk rfl rfl rfl rfl sz81 (by simp [Value.oneCell']) rfl fun w a hk hs => ?_
            show wpList _ _ _ [] _ _
            refine wpList_nil ?_
            refine hK151 _ _ ?_
            apply wp_seq_k; intro K164 hK164
            apply wp_seq_k; intro K165 hK165
            obtain ⟨o168, h169, HL170⟩ := bind_some H
            clear H
            obtain ⟨R171, hR171⟩ : ∃ R : Act → World → Prop, R = fun a w => ∃ (u167 : Bool), u167 = o168 ∧ Kn [(1, (.pointer (some ⟨b2, 0, none⟩))), (3, (.slice A125 u122.length p126)), (5, (.int .i64 u85)), (6, (.int .i64 u121)), (7, (.pointer (some ⟨b163, 0, none⟩))), (96, (.bool u167))] 102 a ∧ Sat [] w0 w [(1, k0_0), (2, k0_1), (3, k0_2)] [(6, k123), (4, [(b2, .cells #[.slice A0_0 x0.Pos.length p0_0, .slice A0_1 x0.Stash.length p0_1, .slice A0_2 x0.Buckets.length p0_2] 51 (0, 0))]), (12, [(b163, .cells #[.int .i64 (((x0.Buckets.getD u85.toNat []).getD u121.toNat z_Block).Id), .int .i64 (((x0.Buckets.getD u85.toNat []).getD u121.toNat z_Block).Leaf), .int .i64 (((x0.Buckets.getD u85.toNat []).getD u121.toNat z_Block).Value)] 81 (0, 0))])] := ⟨_, rfl⟩
            refine wp_cutq R171 ?_ ?_
            ·have H := h169
             apply wp_region_lit
             refine sln [.slice A0_0 x0.Pos.length p0_0, .slice A0_1 x0.Stash.length p0_1, .slice A0_2 x0.Buckets.length p0_2] rfl hk rfl rfl rfl ag51 sz51 (box_cells hs (k := 4) rfl) fun a hk => ?_
             refine sln [.int .i64 (((x0.Buckets.getD u85.toNat []).getD u121.toNat z_Block).Id), .int .i64 (((x0.Buckets.getD u85.toNat []).getD u121.toNat z_Block).Leaf), .int .i64 (((x0.Buckets.getD u85.toNat []).getD u121.toNat z_Block).Value)] rfl hk rfl rfl rfl ag81 sz81 (box_cells hs (k := 12) rfl) fun a hk => ?_
             refine sm _ rfl hk rfl rfl rfl fun a hk => ?_
             obtain ⟨y172, h173, H⟩ := bind_some H
             refine sc rfl en126 hk rfl rfl rfl (spec_l08Block_t _ x0 A0_0 p0_0 _ v0_0 (hs.hasD (k := 1) rfl) A0_1 p0_1 _ v0_1 (hs.hasD (k := 2) rfl) A0_2 p0_2 _ v0_2 (hs.hasD (k := 3) rfl) ((x0.Buckets.getD u85.toNat []).getD u121.toNat z_Block) A125 p126 u122 _ o124.view (hs.hasG (k := 6) rfl) _ h173) ?_
             rintro _ w ⟨rfl, hG⟩ a hk
             have hs := hs.call0 hG
             refine sv (.bool (!y172)) hk rfl rfl rfl fun a hk => ?_
             refine sm _ rfl hk rfl rfl rfl fun a hk => ?_
             rcases cond_some H with ⟨c174, H⟩ | ⟨c174, H⟩
             ·have hk := hk.lit 90 c174 rfl
              refine sk hk rfl rfl rfl fun a hk => ?_
              refine sk hk rfl rfl rfl fun a hk => ?_
              refine sk hk rfl rfl rfl fun a hk => ?_
              refine sk hk rfl rfl rfl fun a hk => ?_
              refine sk hk rfl rfl rfl fun a hk => ?_
              refine sv (.bool true) hk rfl rfl rfl fun a hk => ?_
              show wpList _ _ _ [] _ _
              refine wpList_nil ?_
              obtain rfl := Option.some.inj H
              show R171 _ _
              rw [hR171]
              exact ⟨true, rfl, (hk.c 1 rfl (hk.c 3 rfl (hk.c 5 rfl (hk.c 6 rfl (hk.c 7 rfl (hk.c 96 rfl hk.k)))))), (hs.pick [(6, 6), (4, 4), (12, 12)] rfl)⟩
             ·have hk := hk.lit 90 c174 rfl
              refine sm _ rfl hk rfl rfl rfl fun a hk => ?_
              refine sf ⟨b163, 1, none⟩ rfl hk rfl rfl rfl fd81_1 rfl fun a hk => ?_
              refine sl rfl hk rfl rfl rfl ag3 (box_cell hs (k := 12) rfl rfl) fun a hk => ?_
              obtain ⟨y175, h176, H⟩ := bind_some H
              refine sc rfl en127 hk rfl rfl rfl (spec_l08On_t _ u85 (((x0.Buckets.getD u85.toNat []).getD u121.toNat z_Block).Leaf) _ h176) ?_
              rintro _ w ⟨rfl, hG⟩ a hk
              have hs := hs.call0 hG
              refine sv (.bool (!y175)) hk rfl rfl rfl fun a hk => ?_
              refine sv (.bool (!y175)) hk rfl rfl rfl fun a hk => ?_
              show wpList _ _ _ [] _ _
              refine wpList_nil ?_
              obtain rfl := Option.some.inj H
              show R171 _ _
              rw [hR171]
              exact ⟨(!y175), rfl, (hk.c 1 rfl (hk.c 3 rfl (hk.c 5 rfl (hk.c 6 rfl (hk.c 7 rfl (hk.c 96 rfl hk.k)))))), (hs.pick [(6, 6), (4, 4), (12, 12)] rfl)⟩
            ·intro a w hR0
             rw [hR171] at hR0
             obtain ⟨u167, rfl, hk, hs⟩ := hR0
             have H := HL170
             try dsimp only at H
             refine hK165 _ _ ?_
             rcases cond_some H with ⟨c177, H⟩ | ⟨c177, H⟩
             ·have hk := hk.lit 96 c177 rfl
              refine cnd_true hk rfl rfl ?_
              apply wp_seq_k; intro K178 hK178
              apply wp_region_lit
              refine sa _ rfl hk rfl rfl rfl fun a hk => ?_
              show wpList _ _ _ [] _ _
              refine wpList_nil ?_
              refine hK178 _ _ ?_
              refine wp_ret ?_
              obtain rfl := Option.some.inj H
              have ho132 := h139
              try dsimp only at ho132
              subst ho132
              have H := HL134
              try dsimp only at H
              obtain rfl := Option.some.inj H
              have ho91 := h98
              try dsimp only at ho91
              subst ho91
              have H := HL93
              try dsimp only at H
              obtain rfl := Option.some.inj H
              exact fin hk _ [(.bool false)] rfl ⟨rfl, trivial⟩ ⟨rfl, (hs.pick [] rfl).dnil⟩
             ·have hk := hk.lit 96 c177 rfl
              refine cnd_false hk rfl rfl ?_
              refine wp_skip ?_
              refine hK164 _ _ ?_
              apply wp_region_lit
              refine sm _ rfl hk rfl rfl rfl fun a hk => ?_
              refine sf ⟨b163, 0, none⟩ rfl hk rfl rfl rfl fd81_0 rfl fun a hk => ?_
              refine sl rfl hk rfl rfl rfl ag3 (box_cell hs (k := 12) rfl rfl) fun a hk => ?_
              refine sbs (L := (Lay.int .i64)) (pv := [(0, (.int .i64 (((x0.Buckets.getD u85.toNat []).getD u121.toNat z_Block).Id)))]) (xs := [((x0.Buckets.getD u85.toNat []).getD u121.toNat z_Block).Id]) (ess := [[.int .i64 (((x0.Buckets.getD u85.toNat []).getD u121.toNat z_Block).Id)]]) 14 hs rfl hk rfl rfl rfl un31 (bs3_0 (((x0.Buckets.getD u85.toNat []).getD u121.toNat z_Block).Id)) (AllOwn.cons0 ⟨rfl, rfl⟩ AllOwn.nil) rfl rfl rfl fun b179 k180 w a hk o181 hs => ?_
              rcases ite_some H with ⟨c182, H⟩ | ⟨_, H⟩
              rotate_left
              ·cases H
              refine sap 6 (xs := u122) (ys := [((x0.Buckets.getD u85.toNat []).getD u121.toNat z_Block).Id]) (flat_flat : ((Lay.int .i64)).Flat) hs rfl o124 o181.view (hs.hasG (k := 14) rfl) rfl hk rfl rfl rfl rfl rfl rfl un31 mk3 rfl rfl rfl c182 fun A183 p184 k185 w a hk o186 hs => ?_
              refine sa _ rfl hk rfl rfl rfl fun a hk => ?_
              show wpList _ _ _ [] _ _
              refine wpList_nil ?_
              refine hK150 _ _ ?_
              apply wp_region_lit
              refine sm _ rfl hk rfl rfl rfl fun a hk => ?_
              refine sv (.int .i64 (w64 (u121 + 1))) hk rfl rfl rfl fun a hk => ?_
              refine sa _ rfl hk rfl rfl rfl fun a hk => ?_
              show wpList _ _ _ [] _ _
              refine wpList_nil ?_
              obtain rfl := Option.some.inj H
              obtain ⟨m187, hmm187, h139⟩ := h139
              show ∃ n', n' < _ ∧ I136 n' _ _
              refine ⟨m187, hmm187, ?_⟩
              rw [hI136]
              exact ⟨(u122 ++ ([((x0.Buckets.getD u85.toNat []).getD u121.toNat z_Block).Id])), (w64 (u121 + 1)), A183, p184, _, h139, (hk.c 1 rfl (hk.c 3 rfl (hk.c 5 rfl (hk.c 6 rfl hk.k)))), (hs.pick [(6, 6), (4, 4)] rfl), o186⟩
           ·have hk := hk.lit 74 c149 rfl
            refine cnd_false hk rfl rfl ?_
            refine wp_exit ?_
            obtain rfl := Option.some.inj H
            show R135 _ _
            rw [hR135]
            exact ⟨u122, A125, p126, _, h139.symm, (hk.c 1 rfl (hk.c 3 rfl (hk.c 5 rfl hk.k))), (hs.pick [(6, 6), (4, 4)] rfl), o124⟩
         ·intro a w hR0
          rw [hR135] at hR0
          obtain ⟨u127, A130, p131, k128, rfl, hk, hs, o129⟩ := hR0
          have H := HL134
          try dsimp only at H
          refine hK102 _ _ ?_
          apply wp_region_lit
          refine sm _ rfl hk rfl rfl rfl fun a hk => ?_
          refine sv (.int .i64 (w64 (u85 + 1))) hk rfl rfl rfl fun a hk => ?_
          refine sa _ rfl hk rfl rfl rfl fun a hk => ?_
          show wpList _ _ _ [] _ _
          refine wpList_nil ?_
          obtain rfl := Option.some.inj H
          obtain ⟨m188, hmm188, h98⟩ := h98
          show ∃ n', n' < _ ∧ I95 n' _ _
          refine ⟨m188, hmm188, ?_⟩
          rw [hI95]
          exact ⟨u127, (w64 (u85 + 1)), A130, p131, _, h98, (hk.c 1 rfl (hk.c 3 rfl (hk.c 5 rfl hk.k))), (hs.pick [(6, 6), (4, 4)] rfl), o129⟩
       ·have hk := hk.lit 57 c101 rfl
        refine cnd_false hk rfl rfl ?_
        refine wp_exit ?_
        obtain rfl := Option.some.inj H
        show R94 _ _
        rw [hR94]
        exact ⟨h98.symm, hk.k, (hs.pick [] rfl)⟩
     ·intro a w hR0
      rw [hR94] at hR0
      obtain ⟨rfl, hk, hs⟩ := hR0
      have H := HL93
      try dsimp only at H
      refine hK77 _ _ ?_
      apply wp_seq_k; intro K189 hK189
      apply wp_region_lit
      refine sa _ rfl hk rfl rfl rfl fun a hk => ?_
      show wpList _ _ _ [] _ _
      refine wpList_nil ?_
      refine hK189 _ _ ?_
      refine wp_ret ?_
      obtain rfl := Option.some.inj H
      exact fin hk _ [(.bool true)] rfl ⟨rfl, trivial⟩ ⟨rfl, (hs.pick [] rfl).dnil⟩

noncomputable def spec_EncOK.s0 (x0 : S_Enc) (u20 : Int) : Option ((Int) ⊕ Ex (Unit) (Bool)) :=
  (bif (decide (u20 < (x0.Keys.length : Int))) then (((if 0 ≤ u20 ∧ u20 < (x0.Keys.length : Int) then ((spec_l01In.f (x0.Keys.getD u20.toNat 0) 0 9999).bind fun y44 => (bif (!y44) then (some true) else (if 0 ≤ u20 ∧ u20 < (x0.Keys.length : Int) then (bif (decide ((x0.Keys.getD u20.toNat 0) > 0)) then (if 0 ≤ u20 ∧ u20 ≤ (x0.Keys.length : Int) then (if 0 ≤ u20 ∧ u20 < (x0.Keys.length : Int) then ((spec_l08In.f (x0.Keys.take u20.toNat) (x0.Keys.getD u20.toNat 0)).bind fun y59 => (some y59)) else none) else none) else (some false)) else none))) else none) : Option (Bool)).bind fun u35 => (bif u35 then (some (.inr (.ret false))) else (some (.inl (w64 (u20 + 1)))))) else (some (.inr (.out ()))))
noncomputable def spec_EncOK.f (x0 : S_Enc) : Option (Bool) :=
  (((bif ((x0.Keys.length : Int) != 11) then (some true) else ((spec_OramOK.f x0.Oram).bind fun y12 => (some (!y12)))) : Option (Bool)).bind fun u6 => (bif u6 then (some false) else ((loopO (fun s => spec_EncOK.s0 x0 s) 0).bind fun o => match o with | .out _ => (some true) | .ret r => (some r))))
set_option maxRecDepth 100000 in
set_option maxHeartbeats 0 in
theorem spec_EncOK_t (w0 : World) (x0 : S_Enc) (A0_0 : Option Addr) (p0_0 : Nat) (k0_0 : Chunk) (v0_0 : View (Lay.int .i64) A0_0 p0_0 x0.Keys k0_0) (w0_0 : Has w0 k0_0) (A0_1 : Option Addr) (p0_1 : Nat) (k0_1 : Chunk) (v0_1 : View (Lay.int .i64) A0_1 p0_1 x0.Oram.Pos k0_1) (w0_1 : Has w0 k0_1) (A0_2 : Option Addr) (p0_2 : Nat) (k0_2 : Chunk) (v0_2 : View L_Block A0_2 p0_2 x0.Oram.Stash k0_2) (w0_2 : Has w0 k0_2) (A0_3 : Option Addr) (p0_3 : Nat) (k0_3 : Chunk) (v0_3 : View (Lay.sl L_Block 81) A0_3 p0_3 x0.Oram.Buckets k0_3) (w0_3 : Has w0 k0_3) (r : Bool) (H : spec_EncOK.f x0 = some r) :
    Calls Try.prog 31 #[.agg #[.slice A0_0 x0.Keys.length p0_0, .slice A0_1 x0.Oram.Pos.length p0_1, .slice A0_2 x0.Oram.Stash.length p0_2, .slice A0_3 x0.Oram.Buckets.length p0_3]] w0 (Ret (fun v w => v = .bool r ∧ Sat [] w0 w [] [])) := by
  have hs : Sat [] w0 w0 [(1, k0_0), (2, k0_1), (3, k0_2), (4, k0_3)] [] := Sat.init w0 [(1, k0_0), (2, k0_1), (3, k0_2), (4, k0_3)] [] (by simp only [List.mem_cons, List.not_mem_nil, or_false]; rintro x (rfl | rfl | rfl | rfl) <;> assumption) (by simp) List.nodup_nil (by simp [blks])
  unfold spec_EncOK.f at H
  refine enter Try.func31 rfl Try.ntmps31 rfl fun a hk => ?_
  apply wp_seq_k; intro K1 hK1
  apply wp_region_lit
  refine sbx 5 hs rfl hk rfl rfl rfl rfl fun b2 w a hk hs => ?_
  refine sa _ rfl hk rfl rfl rfl fun a hk => ?_
  show wpList _ _ _ [] _ _
  refine wpList_nil ?_
  refine hK1 _ _ ?_
  apply wp_seq_k; intro K3 hK3
  apply wp_seq_k; intro K4 hK4
  obtain ⟨o7, h8, HL9⟩ := bind_some H
  clear H
  obtain ⟨R10, hR10⟩ : ∃ R : Act → World → Prop, R = fun a w => ∃ (u6 : Bool), u6 = o7 ∧ Kn [(1, (.pointer (some ⟨b2, 0, none⟩))), (13, (.bool u6))] 48 a ∧ Sat [] w0 w [(1, k0_0), (2, k0_1), (3, k0_2), (4, k0_3)] [(5, [(b2, .cells #[.slice A0_0 x0.Keys.length p0_0, .slice A0_1 x0.Oram.Pos.length p0_1, .slice A0_2 x0.Oram.Stash.length p0_2, .slice A0_3 x0.Oram.Buckets.length p0_3] 53 (0, 0))])] := ⟨_, rfl⟩
  refine wp_cutq R10 ?_ ?_
  ·have H := h8
   apply wp_region_lit
   refine sf ⟨b2, 0, none⟩ rfl hk rfl rfl rfl fd53_0 rfl fun a hk => ?_
   refine sl rfl hk rfl rfl rfl ag31 (box_cell hs (k := 5) rfl rfl) fun a hk => ?_
   refine sle rfl hk rfl rfl rfl un31 fun a hk => ?_
   refine sv (.bool ((x0.Keys.length : Int) != 11)) hk rfl rfl rfl fun a hk => ?_
   refine sm _ rfl hk rfl rfl rfl fun a hk => ?_
   rcases cond_some H with ⟨c11, H⟩ | ⟨c11, H⟩
   ·have hk := hk.lit 8 c11 rfl
    refine sk hk rfl rfl rfl fun a hk => ?_
    refine sk hk rfl rfl rfl fun a hk => ?_
    refine sk hk rfl rfl rfl fun a hk => ?_
    refine sk hk rfl rfl rfl fun a hk => ?_
    refine sv (.bool true) hk rfl rfl rfl fun a hk => ?_
    show wpList _ _ _ [] _ _
    refine wpList_nil ?_
    obtain rfl := Option.some.inj H
    show R10 _ _
    rw [hR10]
    exact ⟨true, rfl, (hk.c 1 rfl (hk.c 13 rfl hk.k)), (hs.pick [(5, 5)] rfl)⟩
   ·have hk := hk.lit 8 c11 rfl
    refine sf ⟨b2, 1, none⟩ rfl hk rfl rfl rfl fd53_1 rfl fun a hk => ?_
    refine sln [.slice A0_1 x0.Oram.Pos.length p0_1, .slice A0_2 x0.Oram.Stash.length p0_2, .slice A0_3 x0.Oram.Buckets.length p0_3] rfl hk rfl rfl rfl ag51 sz51 (box_part hs (k := 5) rfl rfl) fun a hk => ?_
    obtain ⟨y12, h13, H⟩ := bind_some H
    refine sc rfl en80 hk rfl rfl rfl (spec_OramOK_t _ x0.Oram A0_1 p0_1 _ v0_1 (hs.hasD (k := 2) rfl) A0_2 p0_2 _ v0_2 (hs.hasD (k := 3) rfl) A0_3 p0_3 _ v0_3 (hs.hasD (k := 4) rfl) _ h13) ?_
    rintro _ w ⟨rfl, hG⟩ a hk
    have hs := hs.call0 hG
    refine sv (.bool (!y12)) hk rfl rfl rfl fun a hk => ?_
    refine sv (.bool (!y12)) hk rfl rfl rfl fun a hk => ?_
    show wpList _ _ _ [] _ _
    refine wpList_nil ?_
    obtain rfl := Option.some.inj H
    show R10 _ _
    rw [hR10]
    exact ⟨(!y12), rfl, (hk.c 1 rfl (hk.c 13 rfl hk.k)), (hs.pick [(5, 5)] rfl)⟩
  ·intro a w hR0
   rw [hR10] at hR0
   obtain ⟨u6, rfl, hk, hs⟩ := hR0
   have H := HL9
   try dsimp only at H
   refine hK4 _ _ ?_
   rcases cond_some H with ⟨c14, H⟩ | ⟨c14, H⟩
   ·have hk := hk.lit 13 c14 rfl
    refine cnd_true hk rfl rfl ?_
    apply wp_seq_k; intro K15 hK15
    apply wp_region_lit
    refine sa _ rfl hk rfl rfl rfl fun a hk => ?_
    show wpList _ _ _ [] _ _
    refine wpList_nil ?_
    refine hK15 _ _ ?_
    refine wp_ret ?_
    obtain rfl := Option.some.inj H
    exact fin hk _ [(.bool false)] rfl ⟨rfl, trivial⟩ ⟨rfl, (hs.pick [] rfl).dnil⟩
   ·have hk := hk.lit 13 c14 rfl
    refine cnd_false hk rfl rfl ?_
    refine wp_skip ?_
    refine hK3 _ _ ?_
    apply wp_seq_k; intro K16 hK16
    apply wp_seq_k; intro K17 hK17
    apply wp_region_lit
    refine sa _ rfl hk rfl rfl rfl fun a hk => ?_
    show wpList _ _ _ [] _ _
    refine wpList_nil ?_
    refine hK17 _ _ ?_
    obtain ⟨o21, h22, HL23⟩ := bind_some H
    clear H
    obtain ⟨R24, hR24⟩ : ∃ R : Act → World → Prop, R = fun a w => o21 = .out () ∧ Kn [] 48 a ∧ Sat [] w0 w [(1, k0_0), (2, k0_1), (3, k0_2), (4, k0_3)] [] := ⟨_, rfl⟩
    refine wp_cutq R24 ?_ ?_
    ·refine wp_block ?_
     obtain ⟨fu26, h22⟩ := loopO_some h22
     obtain ⟨I25, hI25⟩ : ∃ I : Nat → Act → World → Prop, I = fun fu a w => ∃ (u20 : Int), loopN (fun s => spec_EncOK.s0 x0 s) fu u20 = some o21 ∧ Kn [(1, (.pointer (some ⟨b2, 0, none⟩))), (3, (.int .i64 u20))] 48 a ∧ Sat [] w0 w [(1, k0_0), (2, k0_1), (3, k0_2), (4, k0_3)] [(5, [(b2, .cells #[.slice A0_0 x0.Keys.length p0_0, .slice A0_1 x0.Oram.Pos.length p0_1, .slice A0_2 x0.Oram.Stash.length p0_2, .slice A0_3 x0.Oram.Buckets.length p0_3] 53 (0, 0))])] := ⟨_, rfl⟩
     refine wp_loop_ghost I25 fu26 ?_ ?_
     ·rw [hI25]
      exact ⟨0, h22, (hk.c 1 rfl (hk.c 3 rfl hk.k)), (hs.pick [(5, 5)] rfl)⟩
     ·clear h22 hk hs
      intro fu26 a w hI0
      rw [hI25] at hI0
      obtain ⟨u20, hi, hk, hs⟩ := hI0
      obtain ⟨x27, H, h28⟩ := loop_round hi
      try dsimp only at H
      unfold spec_EncOK.s0 at H
      apply wp_seq_k; intro K29 hK29
      apply wp_seq_k; intro K30 hK30
      apply wp_region_lit
      refine sm _ rfl hk rfl rfl rfl fun a hk => ?_
      refine sf ⟨b2, 0, none⟩ rfl hk rfl rfl rfl fd53_0 rfl fun a hk => ?_
      refine sl rfl hk rfl rfl rfl ag31 (box_cell hs (k := 5) rfl rfl) fun a hk => ?_
      refine sle rfl hk rfl rfl rfl un31 fun a hk => ?_
      refine sv (.bool (decide (u20 < (x0.Keys.length : Int)))) hk rfl rfl rfl fun a hk => ?_
      show wpList _ _ _ [] _ _
      refine wpList_nil ?_
      refine hK30 _ _ ?_
      rcases cond_some H with ⟨c31, H⟩ | ⟨c31, H⟩
      ·have hk := hk.lit 18 c31 rfl
       refine cnd_true hk rfl rfl ?_
       refine wp_skip ?_
       refine hK29 _ _ ?_
       apply wp_seq_k; intro K32 hK32
       refine wp_block ?_
       apply wp_seq_k; intro K33 hK33
       obtain ⟨o36, h37, HL38⟩ := bind_some H
       clear H
       obtain ⟨R39, hR39⟩ : ∃ R : Act → World → Prop, R = fun a w => ∃ (u35 : Bool), u35 = o36 ∧ Kn [(1, (.pointer (some ⟨b2, 0, none⟩))), (3, (.int .i64 u20)), (47, (.bool u35))] 48 a ∧ Sat [] w0 w [(1, k0_0), (2, k0_1), (3, k0_2), (4, k0_3)] [(5, [(b2, .cells #[.slice A0_0 x0.Keys.length p0_0, .slice A0_1 x0.Oram.Pos.length p0_1, .slice A0_2 x0.Oram.Stash.length p0_2, .slice A0_3 x0.Oram.Buckets.length p0_3] 53 (0, 0))])] := ⟨_, rfl⟩
       refine wp_cutq R39 ?_ ?_
       ·have H := h37
        refine wp_region_mix [(0, true), (1, true), (2, true), (3, true), (4, true), (5, true), (6, true), (7, true), (8, true), (9, true), (10, true), (11, true), (12, true), (13, true), (14, true), (15, true), (16, true), (17, true), (18, true), (19, true), (20, true), (21, true), (22, true), (23, true), (24, true), (25, true), (26, true)] mo (by kernel_rfl) hs fun _ => ?_
        have hs := hs.drew
        refine qst (.pointer (some ⟨b2, 0, none⟩)) hk rfl rfl rfl rfl (fun w hs => sf ⟨b2, 0, none⟩ rfl hk rfl rfl rfl fd53_0 rfl fun a hk => qe hk) fun a hk => ?_
        refine qst (.slice A0_0 x0.Keys.length p0_0) hk rfl rfl rfl rfl (fun w hs => sl rfl hk rfl rfl rfl ag31 (box_cell hs (k := 5) rfl rfl) fun a hk => qe hk) fun a hk => ?_
        refine qst (.int .i64 u20) hk rfl rfl rfl rfl (fun w hs => sm _ rfl hk rfl rfl rfl fun a hk => qe hk) fun a hk => ?_
        rcases ite_some H with ⟨c40, H⟩ | ⟨_, H⟩
        rotate_left
        ·cases H
        obtain ⟨b41, q42, hAc40⟩ := (v0_0).some_ u20 c40.1 c40.2
        refine qst (.pointer (some (padd A0_0 (u20.toNat * 1)))) hk rfl rfl rfl rfl (fun w hs => si rfl hk rfl rfl rfl rfl un31 sz3 c40.1 c40.2 hAc40 fun a hk => qe hk) fun a hk => ?_
        obtain ⟨_, rfl, e43⟩ := (v0_0).at_ 0 u20 c40.1 c40.2
        refine qst (.int .i64 (x0.Keys.getD u20.toNat 0)) hk rfl rfl rfl rfl (fun w hs => sl (v := (.int .i64 (x0.Keys.getD u20.toNat 0))) rfl hk rfl rfl rfl ag3 ((e43 0 _ rfl).cell (hs.hasD (k := 1) rfl)) fun a hk => qe hk) fun a hk => ?_
        obtain ⟨y44, h45, H⟩ := bind_some H
        refine qst (.bool y44) hk rfl rfl rfl rfl (fun w hs => sc rfl en81 hk rfl rfl rfl (spec_l01In_t _ (x0.Keys.getD u20.toNat 0) 0 9999 _ h45) fun _ w hR a hk => qc hR hk) fun a hk => ?_
        refine qst (.bool (!y44)) hk rfl rfl rfl rfl (fun w hs => sv (.bool (!y44)) hk rfl rfl rfl fun a hk => qe hk) fun a hk => ?_
        refine qst (.bool (!y44)) hk rfl rfl rfl rfl (fun w hs => sm _ rfl hk rfl rfl rfl fun a hk => qe hk) fun a hk => ?_
        rcases cond_some H with ⟨c46, H⟩ | ⟨c46, H⟩
        ·have hk := hk.lit 28 c46 rfl
         refine qsk hk rfl rfl rfl rfl fun a hk => ?_
         refine qsk hk rfl rfl rfl rfl fun a hk => ?_
         refine qsk hk rfl rfl rfl rfl fun a hk => ?_
         refine qsk hk rfl rfl rfl rfl fun a hk => ?_
         refine qsk hk rfl rfl rfl rfl fun a hk => ?_
         refine qsk hk rfl rfl rfl rfl fun a hk => ?_
         refine qsk hk rfl rfl rfl rfl fun a hk => ?_
         refine qsk hk rfl rfl rfl rfl fun a hk => ?_
         refine qsk hk rfl rfl rfl rfl fun a hk => ?_
         refine qsk hk rfl rfl rfl rfl fun a hk => ?_
         refine qsk hk rfl rfl rfl rfl fun a hk => ?_
         refine qsk hk rfl rfl rfl rfl fun a hk => ?_
         refine qsk hk rfl rfl rfl rfl fun a hk => ?_
         refine qsk hk rfl rfl rfl rfl fun a hk => ?_
         refine qsk hk rfl rfl rfl rfl fun a hk => ?_
         refine qsk hk rfl rfl rfl rfl fun a hk => ?_
         refine qsk hk rfl rfl rfl rfl fun a hk => ?_
         refine qsk hk rfl rfl rfl rfl fun a hk => ?_
         refine qst (.bool true) hk rfl rfl rfl rfl (fun w hs => sv (.bool true) hk rfl rfl rfl fun a hk => qe hk) fun a hk => ?_
         refine wml_nil fun w hF _ => ?_
         have hs := hs.f hF
         obtain rfl := Option.some.inj H
         show R39 _ _
         rw [hR39]
         exact ⟨true, rfl, (hk.c 1 rfl (hk.c 3 rfl (hk.c 47 rfl hk.k))), (hs.pick [(5, 5)] rfl)⟩
        ·have hk := hk.lit 28 c46 rfl
         refine qst (.pointer (some ⟨b2, 0, none⟩)) hk rfl rfl rfl rfl (fun w hs => sf ⟨b2, 0, none⟩ rfl hk rfl rfl rfl fd53_0 rfl fun a hk => qe hk) fun a hk => ?_
         refine qst (.slice A0_0 x0.Keys.length p0_0) hk rfl rfl rfl rfl (fun w hs => sl rfl hk rfl rfl rfl ag31 (box_cell hs (k := 5) rfl rfl) fun a hk => qe hk) fun a hk => ?_
         refine qst (.int .i64 u20) hk rfl rfl rfl rfl (fun w hs => sm _ rfl hk rfl rfl rfl fun a hk => qe hk) fun a hk => ?_
         rcases ite_some H with ⟨c47, H⟩ | ⟨_, H⟩
         rotate_left
         ·cases H
         obtain ⟨b48, q49, hAc47⟩ := (v0_0).some_ u20 c47.1 c47.2
         refine qst (.pointer (some (padd A0_0 (u20.toNat * 1)))) hk rfl rfl rfl rfl (fun w hs => si rfl hk rfl rfl rfl rfl un31 sz3 c47.1 c47.2 hAc47 fun a hk => qe hk) fun a hk => ?_
         obtain ⟨_, rfl, e50⟩ := (v0_0).at_ 0 u20 c47.1 c47.2
         refine qst (.int .i64 (x0.Keys.getD u20.toNat 0)) hk rfl rfl rfl rfl (fun w hs => sl (v := (.int .i64 (x0.Keys.getD u20.toNat 0))) rfl hk rfl rfl rfl ag3 ((e50 0 _ rfl).cell (hs.hasD (k := 1) rfl)) fun a hk => qe hk) fun a hk => ?_
         refine qst (.bool (decide ((x0.Keys.getD u20.toNat 0) > 0))) hk rfl rfl rfl rfl (fun w hs => sv (.bool (decide ((x0.Keys.getD u20.toNat 0) > 0))) hk rfl rfl rfl fun a hk => qe hk) fun a hk => ?_
         refine qst (.bool (decide ((x0.Keys.getD u20.toNat 0) > 0))) hk rfl rfl rfl rfl (fun w hs => sm _ rfl hk rfl rfl rfl fun a hk => qe hk) fun a hk => ?_
         rcases cond_some H with ⟨c51, H⟩ | ⟨c51, H⟩
         ·have hk := hk.lit 35 c51 rfl
          refine qst (.pointer (some ⟨b2, 0, none⟩)) hk rfl rfl rfl rfl (fun w hs => sf ⟨b2, 0, none⟩ rfl hk rfl rfl rfl fd53_0 rfl fun a hk => qe hk) fun a hk => ?_
          refine qst (.slice A0_0 x0.Keys.length p0_0) hk rfl rfl rfl rfl (fun w hs => sl rfl hk rfl rfl rfl ag31 (box_cell hs (k := 5) rfl rfl) fun a hk => qe hk) fun a hk => ?_
          refine qst (.int .i64 u20) hk rfl rfl rfl rfl (fun w hs => sm _ rfl hk rfl rfl rfl fun a hk => qe hk) fun a hk => ?_
          rcases ite_some H with ⟨c52, H⟩ | ⟨_, H⟩
          rotate_left
          ·cases H
          refine qst (.slice (if p0_0 = 0 then A0_0 else (A0_0 : Option Addr).map (·.add (0 * 1))) (u20.toNat - 0) (p0_0 - 0)) hk rfl rfl rfl rfl (fun w hs => sll_h rfl hk rfl rfl rfl rfl un31 sz3 c52.1 (by have := (v0_0).le_cap; omega) fun a hk => qe hk) fun a hk => ?_
          have v53 : View (Lay.int .i64) (if p0_0 = 0 then A0_0 else (A0_0 : Option Addr).map (·.add (0 * 1))) (p0_0 - 0) (x0.Keys.take u20.toNat) k0_0 := (v0_0).takev u20.toNat (by omega)
          have lh54 : (x0.Keys.take u20.toNat).length = (u20.toNat - 0) := (by rw [List.length_take]; omega)
          refine qst (.pointer (some ⟨b2, 0, none⟩)) hk rfl rfl rfl rfl (fun w hs => sf ⟨b2, 0, none⟩ rfl hk rfl rfl rfl fd53_0 rfl fun a hk => qe hk) fun a hk => ?_
          refine qst (.slice A0_0 x0.Keys.length p0_0) hk rfl rfl rfl rfl (fun w hs => sl rfl hk rfl rfl rfl ag31 (box_cell hs (k := 5) rfl rfl) fun a hk => qe hk) fun a hk => ?_
          refine qst (.int .i64 u20) hk rfl rfl rfl rfl (fun w hs => sm _ rfl hk rfl rfl rfl fun a hk => qe hk) fun a hk => ?_
          rcases ite_some H with ⟨c55, H⟩ | ⟨_, H⟩
          rotate_left
          ·cases H
          obtain ⟨b56, q57, hAc55⟩ := (v0_0).some_ u20 c55.1 c55.2
          refine qst (.pointer (some (padd A0_0 (u20.toNat * 1)))) hk rfl rfl rfl rfl (fun w hs => si rfl hk rfl rfl rfl rfl un31 sz3 c55.1 c55.2 hAc55 fun a hk => qe hk) fun a hk => ?_
          obtain ⟨_, rfl, e58⟩ := (v0_0).at_ 0 u20 c55.1 c55.2
          refine qst (.int .i64 (x0.Keys.getD u20.toNat 0)) hk rfl rfl rfl rfl (fun w hs => sl (v := (.int .i64 (x0.Keys.getD u20.toNat 0))) rfl hk rfl rfl rfl ag3 ((e58 0 _ rfl).cell (hs.hasD (k := 1) rfl)) fun a hk => qe hk) fun a hk => ?_
          have hk := hk.re 39 (v' := (.slice (if p0_0 = 0 then A0_0 else (A0_0 : Option Addr).map (·.add (0 * 1))) (x0.Keys.take u20.toNat).length (p0_0 - 0))) rfl (by rw [lh54])
          obtain ⟨y59, h60, H⟩ := bind_some H
          refine qst (.bool y59) hk rfl rfl rfl rfl (fun w hs => sc rfl en82 hk rfl rfl rfl (spec_l08In_t _ (if p0_0 = 0 then A0_0 else (A0_0 : Option Addr).map (·.add (0 * 1))) (p0_0 - 0) (x0.Keys.take u20.toNat) _ v53 (hs.hasD (k := 1) rfl) (x0.Keys.getD u20.toNat 0) _ h60) fun _ w hR a hk => qc hR hk) fun a hk => ?_
          refine qst (.bool y59) hk rfl rfl rfl rfl (fun w hs => sv (.bool y59) hk rfl rfl rfl fun a hk => qe hk) fun a hk => ?_
          refine qst (.bool y59) hk rfl rfl rfl rfl (fun w hs => sv (.bool y59) hk rfl rfl rfl fun a hk => qe hk) fun a hk => ?_
          refine wml_nil fun w hF _ => ?_
          have hs := hs.f hF
          obtain rfl := Option.some.inj H
          show R39 _ _
          rw [hR39]
          exact ⟨y59, rfl, (hk.c 1 rfl (hk.c 3 rfl (hk.c 47 rfl hk.k))), (hs.pick [(5, 5)] rfl)⟩
         ·have hk := hk.lit 35 c51 rfl
          refine qsk hk rfl rfl rfl rfl fun a hk => ?_
          refine qsk hk rfl rfl rfl rfl fun a hk => ?_
          refine qsk hk rfl rfl rfl rfl fun a hk => ?_
          refine qsk hk rfl rfl rfl rfl fun a hk => ?_
          refine qsk hk rfl rfl rfl rfl fun a hk => ?_
          refine qsk hk rfl rfl rfl rfl fun a hk => ?_
          refine qsk hk rfl rfl rfl rfl fun a hk => ?_
          refine qsk hk rfl rfl rfl rfl fun a hk => ?_
          refine qsk hk rfl rfl rfl rfl fun a hk => ?_
          refine qsk hk rfl rfl rfl rfl fun a hk => ?_
          refine qst (.bool false) hk rfl rfl rfl rfl (fun w hs => sv (.bool false) hk rfl rfl rfl fun a hk => qe hk) fun a hk => ?_
          refine qst (.bool false) hk rfl rfl rfl rfl (fun w hs => sv (.bool false) hk rfl rfl rfl fun a hk => qe hk) fun a hk => ?_
          refine wml_nil fun w hF _ => ?_
          have hs := hs.f hF
          obtain rfl := Option.some.inj H
          show R39 _ _
          rw [hR39]
          exact ⟨false, rfl, (hk.c 1 rfl (hk.c 3 rfl (hk.c 47 rfl hk.k))), (hs.pick [(5, 5)] rfl)⟩
       ·intro a w hR0
        rw [hR39] at hR0
        obtain ⟨u35, rfl, hk, hs⟩ := hR0
        have H := HL38
        try dsimp only at H
        refine hK33 _ _ ?_
        rcases cond_some H with ⟨c61, H⟩ | ⟨c61, H⟩
        ·have hk := hk.lit 47 c61 rfl
         refine cnd_true hk rfl rfl ?_
         apply wp_seq_k; intro K62 hK62
         apply wp_region_lit
         refine sa _ rfl hk rfl rfl rfl fun a hk => ?_
         show wpList _ _ _ [] _ _
         refine wpList_nil ?_
         refine hK62 _ _ ?_
         refine wp_ret ?_
         obtain rfl := Option.some.inj H
         have ho21 := h28
         try dsimp only at ho21
         subst ho21
         have H := HL23
         try dsimp only at H
         obtain rfl := Option.some.inj H
         exact fin hk _ [(.bool false)] rfl ⟨rfl, trivial⟩ ⟨rfl, (hs.pick [] rfl).dnil⟩
        ·have hk := hk.lit 47 c61 rfl
         refine cnd_false hk rfl rfl ?_
         refine wp_skip ?_
         refine hK32 _ _ ?_
         apply wp_region_lit
         refine sm _ rfl hk rfl rfl rfl fun a hk => ?_
         refine sv (.int .i64 (w64 (u20 + 1))) hk rfl rfl rfl fun a hk => ?_
         refine sa _ rfl hk rfl rfl rfl fun a hk => ?_
         show wpList _ _ _ [] _ _
         refine wpList_nil ?_
         obtain rfl := Option.some.inj H
         obtain ⟨m63, hmm63, h28⟩ := h28
         show ∃ n', n' < _ ∧ I25 n' _ _
         refine ⟨m63, hmm63, ?_⟩
         rw [hI25]
         exact ⟨(w64 (u20 + 1)), h28, (hk.c 1 rfl (hk.c 3 rfl hk.k)), (hs.pick [(5, 5)] rfl)⟩
      ·have hk := hk.lit 18 c31 rfl
       refine cnd_false hk rfl rfl ?_
       refine wp_exit ?_
       obtain rfl := Option.some.inj H
       show R24 _ _
       rw [hR24]
       exact ⟨h28.symm, hk.k, (hs.pick [] rfl)⟩
    ·intro a w hR0
     rw [hR24] at hR0
     obtain ⟨rfl, hk, hs⟩ := hR0
     have H := HL23
     try dsimp only at H
     refine hK16 _ _ ?_
     apply wp_seq_k; intro K64 hK64
     apply wp_region_lit
     refine sa _ rfl hk rfl rfl rfl fun a hk => ?_
     show wpList _ _ _ [] _ _
     refine wpList_nil ?_
     refine hK64 _ _ ?_
     refine wp_ret ?_
     obtain rfl := Option.some.inj H
     exact fin hk _ [(.bool true)] rfl ⟨rfl, trivial⟩ ⟨rfl, (hs.pick [] rfl).dnil⟩

noncomputable def spec_l10ResultOK.s0 (x0 : S_Result) (u22 : Int) : Option ((Int) ⊕ Ex (Unit) (Bool)) :=
  (bif (decide (u22 < (x0.Values.length : Int))) then (if 0 ≤ u22 ∧ u22 < (x0.Values.length : Int) then ((spec_l01In.f (x0.Values.getD u22.toNat 0) 0 999999).bind fun y40 => (bif (!y40) then (some (.inr (.ret false))) else (some (.inl (w64 (u22 + 1)))))) else none) else (some (.inr (.out ()))))
noncomputable def spec_l10ResultOK.f (x0 : S_Result) : Option (Bool) :=
  ((((spec_l01In.f x0.Code 0 19).bind fun y11 => (bif (!y11) then (some true) else (bif (decide ((x0.Values.length : Int) > 32)) then (some true) else (bif (x0.Code != 0) then (some (decide ((x0.Values.length : Int) > 0))) else (some false))))) : Option (Bool)).bind fun u6 => (bif u6 then (some false) else ((loopO (fun s => spec_l10ResultOK.s0 x0 s) 0).bind fun o => match o with | .out _ => (some true) | .ret r => (some r))))
set_option maxRecDepth 100000 in
set_option maxHeartbeats 0 in
theorem spec_l10ResultOK_t (w0 : World) (x0 : S_Result) (A0_0 : Option Addr) (p0_0 : Nat) (k0_0 : Chunk) (v0_0 : View (Lay.int .i64) A0_0 p0_0 x0.Values k0_0) (w0_0 : Has w0 k0_0) (r : Bool) (H : spec_l10ResultOK.f x0 = some r) :
    Calls Try.prog 121 #[.agg #[.int .i64 x0.Code, .slice A0_0 x0.Values.length p0_0]] w0 (Ret (fun v w => v = .bool r ∧ Sat [] w0 w [] [])) := by
  have hs : Sat [] w0 w0 [(1, k0_0)] [] := Sat.init w0 [(1, k0_0)] [] (by simp only [List.mem_cons, List.not_mem_nil, or_false]; rintro x (rfl) <;> assumption) (by simp) List.nodup_nil (by simp [blks])
  unfold spec_l10ResultOK.f at H
  refine enter Try.func121 rfl Try.ntmps121 rfl fun a hk => ?_
  apply wp_seq_k; intro K1 hK1
  apply wp_region_lit
  refine sbx 2 hs rfl hk rfl rfl rfl rfl fun b2 w a hk hs => ?_
  refine sa _ rfl hk rfl rfl rfl fun a hk => ?_
  show wpList _ _ _ [] _ _
  refine wpList_nil ?_
  refine hK1 _ _ ?_
  apply wp_seq_k; intro K3 hK3
  apply wp_seq_k; intro K4 hK4
  obtain ⟨o7, h8, HL9⟩ := bind_some H
  clear H
  obtain ⟨R10, hR10⟩ : ∃ R : Act → World → Prop, R = fun a w => ∃ (u6 : Bool), u6 = o7 ∧ Kn [(1, (.pointer (some ⟨b2, 0, none⟩))), (24, (.bool u6))] 39 a ∧ Sat [] w0 w [(1, k0_0)] [(2, [(b2, .cells #[.int .i64 x0.Code, .slice A0_0 x0.Values.length p0_0] 105 (0, 0))])] := ⟨_, rfl⟩
  refine wp_cutq R10 ?_ ?_
  ·have H := h8
   apply wp_region_lit
   refine sf ⟨b2, 0, none⟩ rfl hk rfl rfl rfl fd105_0 rfl fun a hk => ?_
   refine sl rfl hk rfl rfl rfl ag3 (box_cell hs (k := 2) rfl rfl) fun a hk => ?_
   obtain ⟨y11, h12, H⟩ := bind_some H
   refine sc rfl en81 hk rfl rfl rfl (spec_l01In_t _ x0.Code 0 19 _ h12) ?_
   rintro _ w ⟨rfl, hG⟩ a hk
   have hs := hs.call0 hG
   refine sv (.bool (!y11)) hk rfl rfl rfl fun a hk => ?_
   refine sm _ rfl hk rfl rfl rfl fun a hk => ?_
   rcases cond_some H with ⟨c13, H⟩ | ⟨c13, H⟩
   ·have hk := hk.lit 8 c13 rfl
    refine sk hk rfl rfl rfl fun a hk => ?_
    refine sk hk rfl rfl rfl fun a hk => ?_
    refine sk hk rfl rfl rfl fun a hk => ?_
    refine sk hk rfl rfl rfl fun a hk => ?_
    refine sv (.bool true) hk rfl rfl rfl fun a hk => ?_
    refine sm _ rfl hk rfl rfl rfl fun a hk => ?_
    refine sk hk rfl rfl rfl fun a hk => ?_
    refine sk hk rfl rfl rfl fun a hk => ?_
    refine sk hk rfl rfl rfl fun a hk => ?_
    refine sk hk rfl rfl rfl fun a hk => ?_
    refine sk hk rfl rfl rfl fun a hk => ?_
    refine sk hk rfl rfl rfl fun a hk => ?_
    refine sk hk rfl rfl rfl fun a hk => ?_
    refine sk hk rfl rfl rfl fun a hk => ?_
    refine sk hk rfl rfl rfl fun a hk => ?_
    refine sv (.bool true) hk rfl rfl rfl fun a hk => ?_
    show wpList _ _ _ [] _ _
    refine wpList_nil ?_
    obtain rfl := Option.some.inj H
    show R10 _ _
    rw [hR10]
    exact ⟨true, rfl, (hk.c 1 rfl (hk.c 24 rfl hk.k)), (hs.pick [(2, 2)] rfl)⟩
   ·have hk := hk.lit 8 c13 rfl
    refine sf ⟨b2, 1, none⟩ rfl hk rfl rfl rfl fd105_1 rfl fun a hk => ?_
    refine sl rfl hk rfl rfl rfl ag31 (box_cell hs (k := 2) rfl rfl) fun a hk => ?_
    refine sle rfl hk rfl rfl rfl un31 fun a hk => ?_
    refine sv (.bool (decide ((x0.Values.length : Int) > 32))) hk rfl rfl rfl fun a hk => ?_
    refine sv (.bool (decide ((x0.Values.length : Int) > 32))) hk rfl rfl rfl fun a hk => ?_
    refine sm _ rfl hk rfl rfl rfl fun a hk => ?_
    rcases cond_some H with ⟨c14, H⟩ | ⟨c14, H⟩
    ·have hk := hk.lit 14 c14 rfl
     refine sk hk rfl rfl rfl fun a hk => ?_
     refine sk hk rfl rfl rfl fun a hk => ?_
     refine sk hk rfl rfl rfl fun a hk => ?_
     refine sk hk rfl rfl rfl fun a hk => ?_
     refine sk hk rfl rfl rfl fun a hk => ?_
     refine sk hk rfl rfl rfl fun a hk => ?_
     refine sk hk rfl rfl rfl fun a hk => ?_
     refine sk hk rfl rfl rfl fun a hk => ?_
     refine sk hk rfl rfl rfl fun a hk => ?_
     refine sv (.bool true) hk rfl rfl rfl fun a hk => ?_
     show wpList _ _ _ [] _ _
     refine wpList_nil ?_
     obtain rfl := Option.some.inj H
     show R10 _ _
     rw [hR10]
     exact ⟨true, rfl, (hk.c 1 rfl (hk.c 24 rfl hk.k)), (hs.pick [(2, 2)] rfl)⟩
    ·have hk := hk.lit 14 c14 rfl
     refine sf ⟨b2, 0, none⟩ rfl hk rfl rfl rfl fd105_0 rfl fun a hk => ?_
     refine sl rfl hk rfl rfl rfl ag3 (box_cell hs (k := 2) rfl rfl) fun a hk => ?_
     refine sv (.bool (x0.Code != 0)) hk rfl rfl rfl fun a hk => ?_
     refine sm _ rfl hk rfl rfl rfl fun a hk => ?_
     rcases cond_some H with ⟨c15, H⟩ | ⟨c15, H⟩
     ·have hk := hk.lit 18 c15 rfl
      refine sf ⟨b2, 1, none⟩ rfl hk rfl rfl rfl fd105_1 rfl fun a hk => ?_
      refine sl rfl hk rfl rfl rfl ag31 (box_cell hs (k := 2) rfl rfl) fun a hk => ?_
      refine sle rfl hk rfl rfl rfl un31 fun a hk => ?_
      refine sv (.bool (decide ((x0.Values.length : Int) > 0))) hk rfl rfl rfl fun a hk => ?_
      refine sv (.bool (decide ((x0.Values.length : Int) > 0))) hk rfl rfl rfl fun a hk => ?_
      refine sv (.bool (decide ((x0.Values.length : Int) > 0))) hk rfl rfl rfl fun a hk => ?_
      show wpList _ _ _ [] _ _
      refine wpList_nil ?_
      obtain rfl := Option.some.inj H
      show R10 _ _
      rw [hR10]
      exact ⟨(decide ((x0.Values.length : Int) > 0)), rfl, (hk.c 1 rfl (hk.c 24 rfl hk.k)), (hs.pick [(2, 2)] rfl)⟩
     ·have hk := hk.lit 18 c15 rfl
      refine sk hk rfl rfl rfl fun a hk => ?_
      refine sk hk rfl rfl rfl fun a hk => ?_
      refine sk hk rfl rfl rfl fun a hk => ?_
      refine sk hk rfl rfl rfl fun a hk => ?_
      refine sv (.bool false) hk rfl rfl rfl fun a hk => ?_
      refine sv (.bool false) hk rfl rfl rfl fun a hk => ?_
      show wpList _ _ _ [] _ _
      refine wpList_nil ?_
      obtain rfl := Option.some.inj H
      show R10 _ _
      rw [hR10]
      exact ⟨false, rfl, (hk.c 1 rfl (hk.c 24 rfl hk.k)), (hs.pick [(2, 2)] rfl)⟩
  ·intro a w hR0
   rw [hR10] at hR0
   obtain ⟨u6, rfl, hk, hs⟩ := hR0
   have H := HL9
   try dsimp only at H
   refine hK4 _ _ ?_
   rcases cond_some H with ⟨c16, H⟩ | ⟨c16, H⟩
   ·have hk := hk.lit 24 c16 rfl
    refine cnd_true hk rfl rfl ?_
    apply wp_seq_k; intro K17 hK17
    apply wp_region_lit
    refine sa _ rfl hk rfl rfl rfl fun a hk => ?_
    show wpList _ _ _ [] _ _
    refine wpList_nil ?_
    refine hK17 _ _ ?_
    refine wp_ret ?_
    obtain rfl := Option.some.inj H
    exact fin hk _ [(.bool false)] rfl ⟨rfl, trivial⟩ ⟨rfl, (hs.pick [] rfl).dnil⟩
   ·have hk := hk.lit 24 c16 rfl
    refine cnd_false hk rfl rfl ?_
    refine wp_skip ?_
    refine hK3 _ _ ?_
    apply wp_seq_k; intro K18 hK18
    apply wp_seq_k; intro K19 hK19
    apply wp_region_lit
    refine sa _ rfl hk rfl rfl rfl fun a hk => ?_
    show wpList _ _ _ [] _ _
    refine wpList_nil ?_
    refine hK19 _ _ ?_
    obtain ⟨o23, h24, HL25⟩ := bind_some H
    clear H
    obtain ⟨R26, hR26⟩ : ∃ R : Act → World → Prop, R = fun a w => o23 = .out () ∧ Kn [] 39 a ∧ Sat [] w0 w [(1, k0_0)] [] := ⟨_, rfl⟩
    refine wp_cutq R26 ?_ ?_
    ·refine wp_block ?_
     obtain ⟨fu28, h24⟩ := loopO_some h24
     obtain ⟨I27, hI27⟩ : ∃ I : Nat → Act → World → Prop, I = fun fu a w => ∃ (u22 : Int), loopN (fun s => spec_l10ResultOK.s0 x0 s) fu u22 = some o23 ∧ Kn [(1, (.pointer (some ⟨b2, 0, none⟩))), (3, (.int .i64 u22))] 39 a ∧ Sat [] w0 w [(1, k0_0)] [(2, [(b2, .cells #[.int .i64 x0.Code, .slice A0_0 x0.Values.length p0_0] 105 (0, 0))])] := ⟨_, rfl⟩
     refine wp_loop_ghost I27 fu28 ?_ ?_
     ·rw [hI27]
      exact ⟨0, h24, (hk.c 1 rfl (hk.c 3 rfl hk.k)), (hs.pick [(2, 2)] rfl)⟩
     ·clear h24 hk hs
      intro fu28 a w hI0
      rw [hI27] at hI0
      obtain ⟨u22, hi, hk, hs⟩ := hI0
      obtain ⟨x29, H, h30⟩ := loop_round hi
      try dsimp only at H
      unfold spec_l10ResultOK.s0 at H
      apply wp_seq_k; intro K31 hK31
      apply wp_seq_k; intro K32 hK32
      apply wp_region_lit
      refine sm _ rfl hk rfl rfl rfl fun a hk => ?_
      refine sf ⟨b2, 1, none⟩ rfl hk rfl rfl rfl fd105_1 rfl fun a hk => ?_
      refine sl rfl hk rfl rfl rfl ag31 (box_cell hs (k := 2) rfl rfl) fun a hk => ?_
      refine sle rfl hk rfl rfl rfl un31 fun a hk => ?_
      refine sv (.bool (decide (u22 < (x0.Values.length : Int)))) hk rfl rfl rfl fun a hk => ?_
      show wpList _ _ _ [] _ _
      refine wpList_nil ?_
      refine hK32 _ _ ?_
      rcases cond_some H with ⟨c33, H⟩ | ⟨c33, H⟩
      ·have hk := hk.lit 29 c33 rfl
       refine cnd_true hk rfl rfl ?_
       refine wp_skip ?_
       refine hK31 _ _ ?_
       apply wp_seq_k; intro K34 hK34
       refine wp_block ?_
       apply wp_seq_k; intro K35 hK35
       apply wp_region_lit
       refine sf ⟨b2, 1, none⟩ rfl hk rfl rfl rfl fd105_1 rfl fun a hk => ?_
       refine sl rfl hk rfl rfl rfl ag31 (box_cell hs (k := 2) rfl rfl) fun a hk => ?_
       refine sm _ rfl hk rfl rfl rfl fun a hk => ?_
       rcases ite_some H with ⟨c36, H⟩ | ⟨_, H⟩
       rotate_left
       ·cases H
       obtain ⟨b37, q38, hAc36⟩ := (v0_0).some_ u22 c36.1 c36.2
       refine si rfl hk rfl rfl rfl rfl un31 sz3 c36.1 c36.2 hAc36 fun a hk => ?_
       obtain ⟨_, rfl, e39⟩ := (v0_0).at_ 0 u22 c36.1 c36.2
       refine sl (v := (.int .i64 (x0.Values.getD u22.toNat 0))) rfl hk rfl rfl rfl ag3 ((e39 0 _ rfl).cell (hs.hasD (k := 1) rfl)) fun a hk => ?_
       obtain ⟨y40, h41, H⟩ := bind_some H
       refine sc rfl en81 hk rfl rfl rfl (spec_l01In_t _ (x0.Values.getD u22.toNat 0) 0 999999 _ h41) ?_
       rintro _ w ⟨rfl, hG⟩ a hk
       have hs := hs.call0 hG
       refine sv (.bool (!y40)) hk rfl rfl rfl fun a hk => ?_
       show wpList _ _ _ [] _ _
       refine wpList_nil ?_
       refine hK35 _ _ ?_
       rcases cond_some H with ⟨c42, H⟩ | ⟨c42, H⟩
       ·have hk := hk.lit 38 c42 rfl
        refine cnd_true hk rfl rfl ?_
        apply wp_seq_k; intro K43 hK43
        apply wp_region_lit
        refine sa _ rfl hk rfl rfl rfl fun a hk => ?_
        show wpList _ _ _ [] _ _
        refine wpList_nil ?_
        refine hK43 _ _ ?_
        refine wp_ret ?_
        obtain rfl := Option.some.inj H
        have ho23 := h30
        try dsimp only at ho23
        subst ho23
        have H := HL25
        try dsimp only at H
        obtain rfl := Option.some.inj H
        exact fin hk _ [(.bool false)] rfl ⟨rfl, trivial⟩ ⟨rfl, (hs.pick [] rfl).dnil⟩
       ·have hk := hk.lit 38 c42 rfl
        refine cnd_false hk rfl rfl ?_
        refine wp_skip ?_
        refine hK34 _ _ ?_
        apply wp_region_lit
        refine sm _ rfl hk rfl rfl rfl fun a hk => ?_
        refine sv (.int .i64 (w64 (u22 + 1))) hk rfl rfl rfl fun a hk => ?_
        refine sa _ rfl hk rfl rfl rfl fun a hk => ?_
        show wpList _ _ _ [] _ _
        refine wpList_nil ?_
        obtain rfl := Option.some.inj H
        obtain ⟨m44, hmm44, h30⟩ := h30
        show ∃ n', n' < _ ∧ I27 n' _ _
        refine ⟨m44, hmm44, ?_⟩
        rw [hI27]
        exact ⟨(w64 (u22 + 1)), h30, (hk.c 1 rfl (hk.c 3 rfl hk.k)), (hs.pick [(2, 2)] rfl)⟩
      ·have hk := hk.lit 29 c33 rfl
       refine cnd_false hk rfl rfl ?_
       refine wp_exit ?_
       obtain rfl := Option.some.inj H
       show R26 _ _
       rw [hR26]
       exact ⟨h30.symm, hk.k, (hs.pick [] rfl)⟩
    ·intro a w hR0
     rw [hR26] at hR0
     obtain ⟨rfl, hk, hs⟩ := hR0
     have H := HL25
     try dsimp only at H
     refine hK18 _ _ ?_
     apply wp_seq_k; intro K45 hK45
     apply wp_region_lit
     refine sa _ rfl hk rfl rfl rfl fun a hk => ?_
     show wpList _ _ _ [] _ _
     refine wpList_nil ?_
     refine hK45 _ _ ?_
     refine wp_ret ?_
     obtain rfl := Option.some.inj H
     exact fin hk _ [(.bool true)] rfl ⟨rfl, trivial⟩ ⟨rfl, (hs.pick [] rfl).dnil⟩

noncomputable def spec_l12Results.s0 (l0 : List S_Result) (u6 : Int) : Option ((Int) ⊕ Ex (Unit) (Bool)) :=
  (bif (decide (u6 < (l0.length : Int))) then (if 0 ≤ u6 ∧ u6 < (l0.length : Int) then ((spec_l10ResultOK.f (l0.getD u6.toNat z_Result)).bind fun y27 => (bif (!y27) then (some (.inr (.ret false))) else (some (.inl (w64 (u6 + 1)))))) else none) else (some (.inr (.out ()))))
noncomputable def spec_l12Results.f (l0 : List S_Result) : Option (Bool) :=
  ((loopO (fun s => spec_l12Results.s0 l0 s) 0).bind fun o => match o with | .out _ => (some (decide ((l0.length : Int) ≤ 2))) | .ret r => (some r))
set_option maxRecDepth 100000 in
set_option maxHeartbeats 0 in
theorem spec_l12Results_t (w0 : World) (A0_ : Option Addr) (p0_ : Nat) (l0 : List S_Result) (k0_ : Chunk) (v0_ : View L_impl_Result A0_ p0_ l0 k0_) (w0_ : Has w0 k0_) (r : Bool) (H : spec_l12Results.f l0 = some r) :
    Calls Try.prog 72 #[.slice A0_ l0.length p0_] w0 (Ret (fun v w => v = .bool r ∧ Sat [] w0 w [] [])) := by
  have hs : Sat [] w0 w0 [(1, k0_)] [] := Sat.init w0 [(1, k0_)] [] (by simp only [List.mem_cons, List.not_mem_nil, or_false]; rintro x (rfl) <;> assumption) (by simp) List.nodup_nil (by simp [blks])
  unfold spec_l12Results.f at H
  refine enter Try.func72 rfl Try.ntmps72 rfl fun a hk => ?_
  apply wp_seq_k; intro K1 hK1
  apply wp_region_lit
  refine sa _ rfl hk rfl rfl rfl fun a hk => ?_
  show wpList _ _ _ [] _ _
  refine wpList_nil ?_
  refine hK1 _ _ ?_
  apply wp_seq_k; intro K2 hK2
  apply wp_seq_k; intro K3 hK3
  apply wp_region_lit
  refine sa _ rfl hk rfl rfl rfl fun a hk => ?_
  show wpList _ _ _ [] _ _
  refine wpList_nil ?_
  refine hK3 _ _ ?_
  obtain ⟨o7, h8, HL9⟩ := bind_some H
  clear H
  obtain ⟨R10, hR10⟩ : ∃ R : Act → World → Prop, R = fun a w => o7 = .out () ∧ Kn [(0, (.slice A0_ l0.length p0_))] 19 a ∧ Sat [] w0 w [(1, k0_)] [] := ⟨_, rfl⟩
  refine wp_cutq R10 ?_ ?_
  ·refine wp_block ?_
   obtain ⟨fu12, h8⟩ := loopO_some h8
   obtain ⟨I11, hI11⟩ : ∃ I : Nat → Act → World → Prop, I = fun fu a w => ∃ (u6 : Int), loopN (fun s => spec_l12Results.s0 l0 s) fu u6 = some o7 ∧ Kn [(0, (.slice A0_ l0.length p0_)), (3, (.int .i64 u6))] 19 a ∧ Sat [] w0 w [(1, k0_)] [] := ⟨_, rfl⟩
   refine wp_loop_ghost I11 fu12 ?_ ?_
   ·rw [hI11]
    exact ⟨0, h8, (hk.c 0 rfl (hk.c 3 rfl hk.k)), (hs.pick [] rfl)⟩
   ·clear h8 hk hs
    intro fu12 a w hI0
    rw [hI11] at hI0
    obtain ⟨u6, hi, hk, hs⟩ := hI0
    obtain ⟨x13, H, h14⟩ := loop_round hi
    try dsimp only at H
    unfold spec_l12Results.s0 at H
    apply wp_seq_k; intro K15 hK15
    apply wp_seq_k; intro K16 hK16
    apply wp_region_lit
    refine sm _ rfl hk rfl rfl rfl fun a hk => ?_
    refine sm _ rfl hk rfl rfl rfl fun a hk => ?_
    refine sle rfl hk rfl rfl rfl un55 fun a hk => ?_
    refine sv (.bool (decide (u6 < (l0.length : Int)))) hk rfl rfl rfl fun a hk => ?_
    show wpList _ _ _ [] _ _
    refine wpList_nil ?_
    refine hK16 _ _ ?_
    rcases cond_some H with ⟨c17, H⟩ | ⟨c17, H⟩
    ·have hk := hk.lit 7 c17 rfl
     refine cnd_true hk rfl rfl ?_
     refine wp_skip ?_
     refine hK15 _ _ ?_
     apply wp_seq_k; intro K18 hK18
     refine wp_block ?_
     apply wp_seq_k; intro K19 hK19
     apply wp_region_lit
     refine sm _ rfl hk rfl rfl rfl fun a hk => ?_
     refine sm _ rfl hk rfl rfl rfl fun a hk => ?_
     rcases ite_some H with ⟨c20, H⟩ | ⟨_, H⟩
     rotate_left
     ·cases H
     obtain ⟨b21, q22, hAc20⟩ := (v0_).some_ u6 c20.1 c20.2
     refine si rfl hk rfl rfl rfl rfl un55 sz105 c20.1 c20.2 hAc20 fun a hk => ?_
     obtain ⟨_, ⟨_, _, rfl, rfl, ⟨_, rfl, A24, p25, rfl, v26⟩⟩, e23⟩ := (v0_).at_ z_Result u6 c20.1 c20.2
     refine sln [.int .i64 ((l0.getD u6.toNat z_Result).Code), .slice A24 ((l0.getD u6.toNat z_Result).Values).length p25] rfl hk rfl rfl rfl ag105 sz105 (cells_at e23 (hs.hasD (k := 1) rfl)) fun a hk => ?_
     obtain ⟨y27, h28, H⟩ := bind_some H
     refine sc rfl en121 hk rfl rfl rfl (spec_l10ResultOK_t _ (l0.getD u6.toNat z_Result) A24 p25 _ v26 (hs.hasD (k := 1) rfl) _ h28) ?_
     rintro _ w ⟨rfl, hG⟩ a hk
     have hs := hs.call0 hG
     refine sv (.bool (!y27)) hk rfl rfl rfl fun a hk => ?_
     show wpList _ _ _ [] _ _
     refine wpList_nil ?_
     refine hK19 _ _ ?_
     rcases cond_some H with ⟨c29, H⟩ | ⟨c29, H⟩
     ·have hk := hk.lit 15 c29 rfl
      refine cnd_true hk rfl rfl ?_
      apply wp_seq_k; intro K30 hK30
      apply wp_region_lit
      refine sa _ rfl hk rfl rfl rfl fun a hk => ?_
      show wpList _ _ _ [] _ _
      refine wpList_nil ?_
      refine hK30 _ _ ?_
      refine wp_ret ?_
      obtain rfl := Option.some.inj H
      have ho7 := h14
      try dsimp only at ho7
      subst ho7
      have H := HL9
      try dsimp only at H
      obtain rfl := Option.some.inj H
      exact fin hk _ [(.bool false)] rfl ⟨rfl, trivial⟩ ⟨rfl, (hs.pick [] rfl).dnil⟩
     ·have hk := hk.lit 15 c29 rfl
      refine cnd_false hk rfl rfl ?_
      refine wp_skip ?_
      refine hK18 _ _ ?_
      apply wp_region_lit
      refine sm _ rfl hk rfl rfl rfl fun a hk => ?_
      refine sv (.int .i64 (w64 (u6 + 1))) hk rfl rfl rfl fun a hk => ?_
      refine sa _ rfl hk rfl rfl rfl fun a hk => ?_
      show wpList _ _ _ [] _ _
      refine wpList_nil ?_
      obtain rfl := Option.some.inj H
      obtain ⟨m31, hmm31, h14⟩ := h14
      show ∃ n', n' < _ ∧ I11 n' _ _
      refine ⟨m31, hmm31, ?_⟩
      rw [hI11]
      exact ⟨(w64 (u6 + 1)), h14, (hk.c 0 rfl (hk.c 3 rfl hk.k)), (hs.pick [] rfl)⟩
    ·have hk := hk.lit 7 c17 rfl
     refine cnd_false hk rfl rfl ?_
     refine wp_exit ?_
     obtain rfl := Option.some.inj H
     show R10 _ _
     rw [hR10]
     exact ⟨h14.symm, (hk.c 0 rfl hk.k), (hs.pick [] rfl)⟩
  ·intro a w hR0
   rw [hR10] at hR0
   obtain ⟨rfl, hk, hs⟩ := hR0
   have H := HL9
   try dsimp only at H
   refine hK2 _ _ ?_
   apply wp_seq_k; intro K32 hK32
   apply wp_region_lit
   refine sm _ rfl hk rfl rfl rfl fun a hk => ?_
   refine sle rfl hk rfl rfl rfl un55 fun a hk => ?_
   refine sv (.bool (decide ((l0.length : Int) ≤ 2))) hk rfl rfl rfl fun a hk => ?_
   refine sa _ rfl hk rfl rfl rfl fun a hk => ?_
   show wpList _ _ _ [] _ _
   refine wpList_nil ?_
   refine hK32 _ _ ?_
   refine wp_ret ?_
   obtain rfl := Option.some.inj H
   exact fin hk _ [(.bool (decide ((l0.length : Int) ≤ 2)))] rfl ⟨rfl, trivial⟩ ⟨rfl, (hs.pick [] rfl).dnil⟩

noncomputable def spec_l02Word.f (x0 : ByteArray) (x1 : Int) : Option (Int) :=
  (if 0 ≤ x1 ∧ x1 < (x0.size : Int) then (if 0 ≤ (w64 (x1 + 1)) ∧ (w64 (x1 + 1)) < (x0.size : Int) then (if 0 ≤ (w64 (x1 + 2)) ∧ (w64 (x1 + 2)) < (x0.size : Int) then (if 0 ≤ (w64 (x1 + 3)) ∧ (w64 (x1 + 3)) < (x0.size : Int) then (some (IntKind.wrap .i64 ((BitVec.ofInt 64 (IntKind.wrap .i64 ((BitVec.ofInt 64 (IntKind.wrap .i64 ((BitVec.ofInt 64 (IntKind.wrap .i64 (byteAt x0 x1)) ||| BitVec.ofInt 64 (IntKind.wrap .i64 ((IntKind.wrap .i64 (byteAt x0 (w64 (x1 + 1)))) * 2 ^ 8))).toNat : Int)) ||| BitVec.ofInt 64 (IntKind.wrap .i64 ((IntKind.wrap .i64 (byteAt x0 (w64 (x1 + 2)))) * 2 ^ 16))).toNat : Int)) ||| BitVec.ofInt 64 (IntKind.wrap .i64 ((IntKind.wrap .i64 (byteAt x0 (w64 (x1 + 3)))) * 2 ^ 24))).toNat : Int))) else none) else none) else none) else none)
set_option maxRecDepth 100000 in
set_option maxHeartbeats 0 in
theorem spec_l02Word_t (w0 : World) (x0 : ByteArray) (x1 : Int) (r : Int) (H : spec_l02Word.f x0 x1 = some r) :
    Calls Try.prog 189 #[.string x0, .int .i64 x1] w0 (Ret (fun v w => v = .int .i64 r ∧ Sat [] w0 w [] [])) := by
  have hs : Sat [] w0 w0 [] [] := Sat.init w0 [] [] (by simp) (by simp) List.nodup_nil (by simp [blks])
  unfold spec_l02Word.f at H
  refine enter Try.func189 rfl Try.ntmps189 rfl fun a hk => ?_
  apply wp_seq_k; intro K1 hK1
  apply wp_region_lit
  refine sa _ rfl hk rfl rfl rfl fun a hk => ?_
  show wpList _ _ _ [] _ _
  refine wpList_nil ?_
  refine hK1 _ _ ?_
  apply wp_seq_k; intro K2 hK2
  refine wp_region_tree (.q 0 (.q 1 (.q 2 (.q 3 (.q 4 (.q 5 (.q 6 (.q 7 (.q 8 (.q 9 (.q 10 (.q 11 (.q 12 (.q 13 (.q 14 (.q 15 (.q 16 (.q 17 (.q 18 (.alt 19 (.alt 20 (.alt 21 (.alt 22 (.alt 23 (.alt 24 (.last 25) .stop) .stop) .stop) .stop) .stop) .stop)))))))))))))))))))) mo (by kernel_rfl) (hs.pick [] rfl) fun _ => ?_
  have hs := hs.drew
  refine tqst (.string x0) hk rfl rfl rfl rfl (fun w hs => sm _ rfl hk rfl rfl rfl fun a hk => qe hk) fun a hk => ?_
  refine tqst (.int .i64 x1) hk rfl rfl rfl rfl (fun w hs => sm _ rfl hk rfl rfl rfl fun a hk => qe hk) fun a hk => ?_
  rcases ite_some H with ⟨c4, H⟩ | ⟨_, H⟩
  rotate_left
  ·cases H
  refine tqst (.int .u8 (byteAt x0 x1)) hk rfl rfl rfl rfl (fun w hs => six rfl hk rfl rfl rfl rfl un9 c4.1 c4.2 fun a hk => qe hk) fun a hk => ?_
  refine tqst (.int .i64 (IntKind.wrap .i64 (byteAt x0 x1))) hk rfl rfl rfl rfl (fun w hs => scn rfl hk rfl rfl rfl un3 un5 fun a hk => qe hk) fun a hk => ?_
  refine tqst (.string x0) hk rfl rfl rfl rfl (fun w hs => sm _ rfl hk rfl rfl rfl fun a hk => qe hk) fun a hk => ?_
  refine tqst (.int .i64 x1) hk rfl rfl rfl rfl (fun w hs => sm _ rfl hk rfl rfl rfl fun a hk => qe hk) fun a hk => ?_
  refine tqst (.int .i64 (w64 (x1 + 1))) hk rfl rfl rfl rfl (fun w hs => sv (.int .i64 (w64 (x1 + 1))) hk rfl rfl rfl fun a hk => qe hk) fun a hk => ?_
  rcases ite_some H with ⟨c5, H⟩ | ⟨_, H⟩
  rotate_left
  ·cases H
  refine tqst (.int .u8 (byteAt x0 (w64 (x1 + 1)))) hk rfl rfl rfl rfl (fun w hs => six rfl hk rfl rfl rfl rfl un9 c5.1 c5.2 fun a hk => qe hk) fun a hk => ?_
  refine tqst (.int .i64 (IntKind.wrap .i64 (byteAt x0 (w64 (x1 + 1))))) hk rfl rfl rfl rfl (fun w hs => scn rfl hk rfl rfl rfl un3 un5 fun a hk => qe hk) fun a hk => ?_
  refine tqst (.int .i64 (IntKind.wrap .i64 ((IntKind.wrap .i64 (byteAt x0 (w64 (x1 + 1)))) * 2 ^ 8))) hk rfl rfl rfl rfl (fun w hs => sv (.int .i64 (IntKind.wrap .i64 ((IntKind.wrap .i64 (byteAt x0 (w64 (x1 + 1)))) * 2 ^ 8))) hk rfl rfl rfl fun a hk => qe hk) fun a hk => ?_
  refine tqst (.int .i64 (IntKind.wrap .i64 ((BitVec.ofInt 64 (IntKind.wrap .i64 (byteAt x0 x1)) ||| BitVec.ofInt 64 (IntKind.wrap .i64 ((IntKind.wrap .i64 (byteAt x0 (w64 (x1 + 1)))) * 2 ^ 8))).toNat : Int))) hk rfl rfl rfl rfl (fun w hs => sv (.int .i64 (IntKind.wrap .i64 ((BitVec.ofInt 64 (IntKind.wrap .i64 (byteAt x0 x1)) ||| BitVec.ofInt 64 (IntKind.wrap .i64 ((IntKind.wrap .i64 (byteAt x0 (w64 (x1 + 1)))) * 2 ^ 8))).toNat : Int))) hk rfl rfl rfl fun a hk => qe hk) fun a hk => ?_
  refine tqst (.string x0) hk rfl rfl rfl rfl (fun w hs => sm _ rfl hk rfl rfl rfl fun a hk => qe hk) fun a hk => ?_
  refine tqst (.int .i64 x1) hk rfl rfl rfl rfl (fun w hs => sm _ rfl hk rfl rfl rfl fun a hk => qe hk) fun a hk => ?_
  refine tqst (.int .i64 (w64 (x1 + 2))) hk rfl rfl rfl rfl (fun w hs => sv (.int .i64 (w64 (x1 + 2))) hk rfl rfl rfl fun a hk => qe hk) fun a hk => ?_
  rcases ite_some H with ⟨c6, H⟩ | ⟨_, H⟩
  rotate_left
  ·cases H
  refine tqst (.int .u8 (byteAt x0 (w64 (x1 + 2)))) hk rfl rfl rfl rfl (fun w hs => six rfl hk rfl rfl rfl rfl un9 c6.1 c6.2 fun a hk => qe hk) fun a hk => ?_
  refine tqst (.int .i64 (IntKind.wrap .i64 (byteAt x0 (w64 (x1 + 2))))) hk rfl rfl rfl rfl (fun w hs => scn rfl hk rfl rfl rfl un3 un5 fun a hk => qe hk) fun a hk => ?_
  refine tqst (.int .i64 (IntKind.wrap .i64 ((IntKind.wrap .i64 (byteAt x0 (w64 (x1 + 2)))) * 2 ^ 16))) hk rfl rfl rfl rfl (fun w hs => sv (.int .i64 (IntKind.wrap .i64 ((IntKind.wrap .i64 (byteAt x0 (w64 (x1 + 2)))) * 2 ^ 16))) hk rfl rfl rfl fun a hk => qe hk) fun a hk => ?_
  refine tqst (.int .i64 (IntKind.wrap .i64 ((BitVec.ofInt 64 (IntKind.wrap .i64 ((BitVec.ofInt 64 (IntKind.wrap .i64 (byteAt x0 x1)) ||| BitVec.ofInt 64 (IntKind.wrap .i64 ((IntKind.wrap .i64 (byteAt x0 (w64 (x1 + 1)))) * 2 ^ 8))).toNat : Int)) ||| BitVec.ofInt 64 (IntKind.wrap .i64 ((IntKind.wrap .i64 (byteAt x0 (w64 (x1 + 2)))) * 2 ^ 16))).toNat : Int))) hk rfl rfl rfl rfl (fun w hs => sv (.int .i64 (IntKind.wrap .i64 ((BitVec.ofInt 64 (IntKind.wrap .i64 ((BitVec.ofInt 64 (IntKind.wrap .i64 (byteAt x0 x1)) ||| BitVec.ofInt 64 (IntKind.wrap .i64 ((IntKind.wrap .i64 (byteAt x0 (w64 (x1 + 1)))) * 2 ^ 8))).toNat : Int)) ||| BitVec.ofInt 64 (IntKind.wrap .i64 ((IntKind.wrap .i64 (byteAt x0 (w64 (x1 + 2)))) * 2 ^ 16))).toNat : Int))) hk rfl rfl rfl fun a hk => qe hk) fun a hk => ?_
  refine tqst (.string x0) hk rfl rfl rfl rfl (fun w hs => sm _ rfl hk rfl rfl rfl fun a hk => qe hk) fun a hk => ?_
  refine tsst hk rfl rfl (fun K_r3_19 hK_r3_19 w hF => ?_) wt_stop
  have hs := hs.f hF
  refine sm _ rfl hk rfl rfl rfl fun a hk => ?_
  refine se (hs.pick [] rfl) hk (hK_r3_19 _ _ ?_)
  refine tsst hk rfl rfl (fun K_r3_20 hK_r3_20 w hF => ?_) wt_stop
  have hs := hs.f hF
  refine sv (.int .i64 (w64 (x1 + 3))) hk rfl rfl rfl fun a hk => ?_
  refine se (hs.pick [] rfl) hk (hK_r3_20 _ _ ?_)
  refine tsst hk rfl rfl (fun K_r3_21 hK_r3_21 w hF => ?_) wt_stop
  have hs := hs.f hF
  rcases ite_some H with ⟨c7, H⟩ | ⟨_, H⟩
  rotate_left
  ·cases H
  refine six rfl hk rfl rfl rfl rfl un9 c7.1 c7.2 fun a hk => ?_
  refine se (hs.pick [] rfl) hk (hK_r3_21 _ _ ?_)
  refine tsst hk rfl rfl (fun K_r3_22 hK_r3_22 w hF => ?_) wt_stop
  have hs := hs.f hF
  refine scn rfl hk rfl rfl rfl un3 un5 fun a hk => ?_
  refine se (hs.pick [] rfl) hk (hK_r3_22 _ _ ?_)
  refine tsst hk rfl rfl (fun K_r3_23 hK_r3_23 w hF => ?_) wt_stop
  have hs := hs.f hF
  refine sv (.int .i64 (IntKind.wrap .i64 ((IntKind.wrap .i64 (byteAt x0 (w64 (x1 + 3)))) * 2 ^ 24))) hk rfl rfl rfl fun a hk => ?_
  refine se (hs.pick [] rfl) hk (hK_r3_23 _ _ ?_)
  refine tsst hk rfl rfl (fun K_r3_24 hK_r3_24 w hF => ?_) wt_stop
  have hs := hs.f hF
  refine sv (.int .i64 (IntKind.wrap .i64 ((BitVec.ofInt 64 (IntKind.wrap .i64 ((BitVec.ofInt 64 (IntKind.wrap .i64 ((BitVec.ofInt 64 (IntKind.wrap .i64 (byteAt x0 x1)) ||| BitVec.ofInt 64 (IntKind.wrap .i64 ((IntKind.wrap .i64 (byteAt x0 (w64 (x1 + 1)))) * 2 ^ 8))).toNat : Int)) ||| BitVec.ofInt 64 (IntKind.wrap .i64 ((IntKind.wrap .i64 (byteAt x0 (w64 (x1 + 2)))) * 2 ^ 16))).toNat : Int)) ||| BitVec.ofInt 64 (IntKind.wrap .i64 ((IntKind.wrap .i64 (byteAt x0 (w64 (x1 + 3)))) * 2 ^ 24))).toNat : Int))) hk rfl rfl rfl fun a hk => ?_
  refine se (hs.pick [] rfl) hk (hK_r3_24 _ _ ?_)
  refine tlst hk rfl rfl fun K_r3_25 hK_r3_25 w hF => ?_
  have hs := hs.f hF
  refine sa _ rfl hk rfl rfl rfl fun a hk => ?_
  refine se trivial hk (hK_r3_25 _ _ fun w hF => ?_)
  have hs := hs.f hF
  refine hK2 _ _ ?_
  refine wp_ret ?_
  obtain rfl := Option.some.inj H
  exact fin hk _ [(.int .i64 (IntKind.wrap .i64 ((BitVec.ofInt 64 (IntKind.wrap .i64 ((BitVec.ofInt 64 (IntKind.wrap .i64 ((BitVec.ofInt 64 (IntKind.wrap .i64 (byteAt x0 x1)) ||| BitVec.ofInt 64 (IntKind.wrap .i64 ((IntKind.wrap .i64 (byteAt x0 (w64 (x1 + 1)))) * 2 ^ 8))).toNat : Int)) ||| BitVec.ofInt 64 (IntKind.wrap .i64 ((IntKind.wrap .i64 (byteAt x0 (w64 (x1 + 2)))) * 2 ^ 16))).toNat : Int)) ||| BitVec.ofInt 64 (IntKind.wrap .i64 ((IntKind.wrap .i64 (byteAt x0 (w64 (x1 + 3)))) * 2 ^ 24))).toNat : Int)))] rfl ⟨rfl, trivial⟩ ⟨rfl, (hs.pick [] rfl).dnil⟩

noncomputable def spec_l06ToInts.s0 (x0 : ByteArray) (u15 : List Int) (u14 : Int) : Option (((List Int) × Int) ⊕ Ex ((List Int)) ((List Int) × Bool)) :=
  (bif (decide ((w64 (u14 + 4)) ≤ (x0.size : Int))) then ((spec_l02Word.f x0 u14).bind fun y37 => (if u15.length + ([y37]).length ≤ 1073741824 then (some (.inl ((u15 ++ ([y37])), (w64 (u14 + 4))))) else none)) else (some (.inr (.out u15))))
noncomputable def spec_l06ToInts.f (x0 : ByteArray) : Option ((List Int) × Bool) :=
  ((loopO (fun s => spec_l06ToInts.s0 x0 s.1 s.2) (([] : List Int), 0)).bind fun o => match o with | .out u20 => (some (u20, ((Int.tmod (x0.size : Int) 4) == 0))) | .ret r => (some r))
set_option maxRecDepth 100000 in
set_option maxHeartbeats 0 in
theorem spec_l06ToInts_t (w0 : World) (x0 : ByteArray) (r : (List Int) × Bool) (H : spec_l06ToInts.f x0 = some r) :
    Calls Try.prog 169 #[.string x0] w0 (Ret (fun v w => ∃ (A0 : Option Addr) (p0 : Nat) (k0 : Chunk), v = .tuple #[.slice A0 r.1.length p0, .bool r.2] ∧ Own (Lay.int .i64) 3 A0 p0 r.1 k0 ∧ Sat [] w0 w [] [(0, k0)])) := by
  have hs : Sat [] w0 w0 [] [] := Sat.init w0 [] [] (by simp) (by simp) List.nodup_nil (by simp [blks])
  unfold spec_l06ToInts.f at H
  refine enter Try.func169 rfl Try.ntmps169 rfl fun a hk => ?_
  apply wp_seq_k; intro K1 hK1
  apply wp_region_lit
  refine sa _ rfl hk rfl rfl rfl fun a hk => ?_
  refine sa _ rfl hk rfl rfl rfl fun a hk => ?_
  show wpList _ _ _ [] _ _
  refine wpList_nil ?_
  refine hK1 _ _ ?_
  apply wp_seq_k; intro K2 hK2
  apply wp_region_lit
  refine sbs0 1 (Lay.int .i64) hs rfl hk rfl rfl un31 sz3 fun b3 k4 w a hk o5 hs => ?_
  refine sa _ rfl hk rfl rfl rfl fun a hk => ?_
  show wpList _ _ _ [] _ _
  refine wpList_nil ?_
  refine hK2 _ _ ?_
  apply wp_seq_k; intro K6 hK6
  apply wp_seq_k; intro K7 hK7
  apply wp_region_lit
  refine sa _ rfl hk rfl rfl rfl fun a hk => ?_
  show wpList _ _ _ [] _ _
  refine wpList_nil ?_
  refine hK7 _ _ ?_
  obtain ⟨o25, h26, HL27⟩ := bind_some H
  clear H
  obtain ⟨R28, hR28⟩ : ∃ R : Act → World → Prop, R = fun a w => ∃ (u20 : List Int) (A23 : Option Addr) (p24 : Nat) (k21 : Chunk), o25 = .out u20 ∧ Kn [(0, (.string x0)), (4, (.slice A23 u20.length p24))] 25 a ∧ Sat [] w0 w [] [(1, k21)] ∧ Own (Lay.int .i64) 3 A23 p24 u20 k21 := ⟨_, rfl⟩
  refine wp_cutq R28 ?_ ?_
  ·refine wp_block ?_
   obtain ⟨fu30, h26⟩ := loopO_some h26
   obtain ⟨I29, hI29⟩ : ∃ I : Nat → Act → World → Prop, I = fun fu a w => ∃ (u15 : List Int) (u14 : Int) (A18 : Option Addr) (p19 : Nat) (k16 : Chunk), loopN (fun s => spec_l06ToInts.s0 x0 s.1 s.2) fu (u15, u14) = some o25 ∧ Kn [(0, (.string x0)), (4, (.slice A18 u15.length p19)), (5, (.int .i64 u14))] 25 a ∧ Sat [] w0 w [] [(1, k16)] ∧ Own (Lay.int .i64) 3 A18 p19 u15 k16 := ⟨_, rfl⟩
   refine wp_loop_ghost I29 fu30 ?_ ?_
   ·rw [hI29]
    exact ⟨([] : List Int), 0, (some ⟨b3, 0, none⟩), 0, _, h26, (hk.c 0 rfl (hk.c 4 rfl (hk.c 5 rfl hk.k))), (hs.pick [(1, 1)] rfl), o5⟩
   ·clear h26 hk hs
    intro fu30 a w hI0
    rw [hI29] at hI0
    obtain ⟨u15, u14, A18, p19, k16, hi, hk, hs, o17⟩ := hI0
    obtain ⟨x31, H, h32⟩ := loop_round hi
    try dsimp only at H
    unfold spec_l06ToInts.s0 at H
    apply wp_seq_k; intro K33 hK33
    apply wp_seq_k; intro K34 hK34
    apply wp_region_lit
    refine sm _ rfl hk rfl rfl rfl fun a hk => ?_
    refine sv (.int .i64 (w64 (u14 + 4))) hk rfl rfl rfl fun a hk => ?_
    refine sm _ rfl hk rfl rfl rfl fun a hk => ?_
    refine sles rfl hk rfl rfl rfl un9 fun a hk => ?_
    refine sv (.bool (decide ((w64 (u14 + 4)) ≤ (x0.size : Int)))) hk rfl rfl rfl fun a hk => ?_
    show wpList _ _ _ [] _ _
    refine wpList_nil ?_
    refine hK34 _ _ ?_
    rcases cond_some H with ⟨c35, H⟩ | ⟨c35, H⟩
    ·have hk := hk.lit 11 c35 rfl
     refine cnd_true hk rfl rfl ?_
     refine wp_skip ?_
     refine hK33 _ _ ?_
     apply wp_seq_k; intro K36 hK36
     refine wp_block ?_
     apply wp_region_lit
     refine sm _ rfl hk rfl rfl rfl fun a hk => ?_
     refine sm _ rfl hk rfl rfl rfl fun a hk => ?_
     refine sm _ rfl hk rfl rfl rfl fun a hk => ?_
     obtain ⟨y37, h38, H⟩ := bind_some H
     refine sc rfl en189 hk rfl rfl rfl (spec_l02Word_t _ x0 u14 _ h38) ?_
     rintro _ w ⟨rfl, hG⟩ a hk
     have hs := hs.call0 hG
     refine sbs (L := (Lay.int .i64)) (pv := [(0, (.int .i64 y37))]) (xs := [y37]) (ess := [[.int .i64 y37]]) 3 hs rfl hk rfl rfl rfl un31 (bs3_0 y37) (AllOwn.cons0 ⟨rfl, rfl⟩ AllOwn.nil) rfl rfl rfl fun b39 k40 w a hk o41 hs => ?_
     rcases ite_some H with ⟨c42, H⟩ | ⟨_, H⟩
     rotate_left
     ·cases H
     refine sap 1 (xs := u15) (ys := [y37]) (flat_flat : ((Lay.int .i64)).Flat) hs rfl o17 o41.view (hs.hasG (k := 3) rfl) rfl hk rfl rfl rfl rfl rfl rfl un31 mk3 rfl rfl rfl c42 fun A43 p44 k45 w a hk o46 hs => ?_
     refine sa _ rfl hk rfl rfl rfl fun a hk => ?_
     show wpList _ _ _ [] _ _
     refine wpList_nil ?_
     refine hK36 _ _ ?_
     apply wp_region_lit
     refine sm _ rfl hk rfl rfl rfl fun a hk => ?_
     refine sv (.int .i64 (w64 (u14 + 4))) hk rfl rfl rfl fun a hk => ?_
     refine sa _ rfl hk rfl rfl rfl fun a hk => ?_
     show wpList _ _ _ [] _ _
     refine wpList_nil ?_
     obtain rfl := Option.some.inj H
     obtain ⟨m47, hmm47, h32⟩ := h32
     show ∃ n', n' < _ ∧ I29 n' _ _
     refine ⟨m47, hmm47, ?_⟩
     rw [hI29]
     exact ⟨(u15 ++ ([y37])), (w64 (u14 + 4)), A43, p44, _, h32, (hk.c 0 rfl (hk.c 4 rfl (hk.c 5 rfl hk.k))), (hs.pick [(1, 1)] rfl), o46⟩
    ·have hk := hk.lit 11 c35 rfl
     refine cnd_false hk rfl rfl ?_
     refine wp_exit ?_
     obtain rfl := Option.some.inj H
     show R28 _ _
     rw [hR28]
     exact ⟨u15, A18, p19, _, h32.symm, (hk.c 0 rfl (hk.c 4 rfl hk.k)), (hs.pick [(1, 1)] rfl), o17⟩
  ·intro a w hR0
   rw [hR28] at hR0
   obtain ⟨u20, A23, p24, k21, rfl, hk, hs, o22⟩ := hR0
   have H := HL27
   try dsimp only at H
   refine hK6 _ _ ?_
   apply wp_seq_k; intro K48 hK48
   apply wp_region_lit
   refine sm _ rfl hk rfl rfl rfl fun a hk => ?_
   refine sm _ rfl hk rfl rfl rfl fun a hk => ?_
   refine sles rfl hk rfl rfl rfl un9 fun a hk => ?_
   refine sv (.int .i64 (Int.tmod (x0.size : Int) 4)) hk rfl rfl rfl fun a hk => ?_
   refine sv (.bool ((Int.tmod (x0.size : Int) 4) == 0)) hk rfl rfl rfl fun a hk => ?_
   refine sa _ rfl hk rfl rfl rfl fun a hk => ?_
   refine sa _ rfl hk rfl rfl rfl fun a hk => ?_
   show wpList _ _ _ [] _ _
   refine wpList_nil ?_
   refine hK48 _ _ ?_
   refine wp_ret ?_
   obtain rfl := Option.some.inj H
   exact fin hk _ [(.slice A23 u20.length p24), (.bool ((Int.tmod (x0.size : Int) 4) == 0))] rfl ⟨rfl, ⟨rfl, trivial⟩⟩ ⟨A23, p24, _, rfl, o22, (hs.pick [(0, 1)] rfl).dnil⟩

noncomputable def spec_l12Read.f (x0 : ByteArray) (x1 : Int) : Option (S_l12Reader) :=
  ((spec_l06ToInts.f x0).bind fun y3 => (((bif (!y3.2) then (some true) else (some ((y3.1.length : Int) != x1))) : Option (Bool)).bind fun u12 => (bif u12 then (some (⟨([] : List Int), 1⟩ : S_l12Reader)) else (some (⟨y3.1, 0⟩ : S_l12Reader)))))
set_option maxRecDepth 100000 in
set_option maxHeartbeats 0 in
theorem spec_l12Read_t (w0 : World) (x0 : ByteArray) (x1 : Int) (r : S_l12Reader) (H : spec_l12Read.f x0 x1 = some r) :
    Calls Try.prog 131 #[.string x0, .int .i64 x1] w0 (Ret (fun v w => ∃ (bb0 : Nat), ∃ (A0 : Option Addr) (p0 : Nat) (k0 : Chunk), v = .pointer (some ⟨bb0, 0, none⟩) ∧ Own (Lay.int .i64) 3 A0 p0 r.list k0 ∧ Sat [] w0 w [] [(0, [(bb0, .cells #[.slice A0 r.list.length p0, .int .i64 r.at_] 181 (0, 0))]), (1, k0)])) := by
  have hs : Sat [] w0 w0 [] [] := Sat.init w0 [] [] (by simp) (by simp) List.nodup_nil (by simp [blks])
  unfold spec_l12Read.f at H
  refine enter Try.func131 rfl Try.ntmps131 rfl fun a hk => ?_
  apply wp_seq_k; intro K1 hK1
  apply wp_region_lit
  refine sa _ rfl hk rfl rfl rfl fun a hk => ?_
  show wpList _ _ _ [] _ _
  refine wpList_nil ?_
  refine hK1 _ _ ?_
  apply wp_seq_k; intro K2 hK2
  apply wp_region_lit
  refine sm _ rfl hk rfl rfl rfl fun a hk => ?_
  obtain ⟨y3, h4, H⟩ := bind_some H
  refine sc rfl en169 hk rfl rfl rfl (spec_l06ToInts_t _ x0 _ h4) ?_
  rintro _ w ⟨A5, p6, k7, rfl, o8, hG⟩ a hk
  have hs := hs.call0k hG [1] rfl
  refine sm _ rfl hk rfl rfl rfl fun a hk => ?_
  refine sv (.slice A5 y3.1.length p6) hk rfl rfl rfl fun a hk => ?_
  refine sv (.bool y3.2) hk rfl rfl rfl fun a hk => ?_
  refine sa _ rfl hk rfl rfl rfl fun a hk => ?_
  refine sa _ rfl hk rfl rfl rfl fun a hk => ?_
  show wpList _ _ _ [] _ _
  refine wpList_nil ?_
  refine hK2 _ _ ?_
  apply wp_seq_k; intro K9 hK9
  apply wp_seq_k; intro K10 hK10
  obtain ⟨o13, h14, HL15⟩ := bind_some H
  clear H
  obtain ⟨R16, hR16⟩ : ∃ R : Act → World → Prop, R = fun a w => ∃ (u12 : Bool), u12 = o13 ∧ Kn [(5, (.slice A5 y3.1.length p6)), (19, (.bool u12))] 25 a ∧ Sat [] w0 w [] [(1, k7)] := ⟨_, rfl⟩
  refine wp_cutq R16 ?_ ?_
  ·have H := h14
   apply wp_region_lit
   refine sm _ rfl hk rfl rfl rfl fun a hk => ?_
   refine sv (.bool (!y3.2)) hk rfl rfl rfl fun a hk => ?_
   refine sm _ rfl hk rfl rfl rfl fun a hk => ?_
   rcases cond_some H with ⟨c17, H⟩ | ⟨c17, H⟩
   ·have hk := hk.lit 14 c17 rfl
    refine sk hk rfl rfl rfl fun a hk => ?_
    refine sk hk rfl rfl rfl fun a hk => ?_
    refine sk hk rfl rfl rfl fun a hk => ?_
    refine sk hk rfl rfl rfl fun a hk => ?_
    refine sv (.bool true) hk rfl rfl rfl fun a hk => ?_
    show wpList _ _ _ [] _ _
    refine wpList_nil ?_
    obtain rfl := Option.some.inj H
    show R16 _ _
    rw [hR16]
    exact ⟨true, rfl, (hk.c 5 rfl (hk.c 19 rfl hk.k)), (hs.pick [(1, 1)] rfl)⟩
   ·have hk := hk.lit 14 c17 rfl
    refine sm _ rfl hk rfl rfl rfl fun a hk => ?_
    refine sle rfl hk rfl rfl rfl un31 fun a hk => ?_
    refine sm _ rfl hk rfl rfl rfl fun a hk => ?_
    refine sv (.bool ((y3.1.length : Int) != x1)) hk rfl rfl rfl fun a hk => ?_
    refine sv (.bool ((y3.1.length : Int) != x1)) hk rfl rfl rfl fun a hk => ?_
    show wpList _ _ _ [] _ _
    refine wpList_nil ?_
    obtain rfl := Option.some.inj H
    show R16 _ _
    rw [hR16]
    exact ⟨((y3.1.length : Int) != x1), rfl, (hk.c 5 rfl (hk.c 19 rfl hk.k)), (hs.pick [(1, 1)] rfl)⟩
  ·intro a w hR0
   rw [hR16] at hR0
   obtain ⟨u12, rfl, hk, hs⟩ := hR0
   have H := HL15
   try dsimp only at H
   refine hK10 _ _ ?_
   rcases cond_some H with ⟨c18, H⟩ | ⟨c18, H⟩
   ·have hk := hk.lit 19 c18 rfl
    refine cnd_true hk rfl rfl ?_
    apply wp_seq_k; intro K19 hK19
    apply wp_region_lit
    refine sbd (pv := [(1, (.int .i64 1))]) rfl hk rfl rfl rfl (bd181_1 1) fun a hk => ?_
    refine sbx 3 hs rfl hk rfl rfl rfl rfl fun b20 w a hk hs => ?_
    refine sa _ rfl hk rfl rfl rfl fun a hk => ?_
    show wpList _ _ _ [] _ _
    refine wpList_nil ?_
    refine hK19 _ _ ?_
    refine wp_ret ?_
    obtain rfl := Option.some.inj H
    have hs := hs.addNil 4
    exact fin hk _ [(.pointer (some ⟨b20, 0, none⟩))] rfl ⟨rfl, trivial⟩ ⟨b20, none, 0, [], rfl, Own.nil _ _, (hs.pick [(0, 3), (1, 4)] rfl).dnil⟩
   ·have hk := hk.lit 19 c18 rfl
    refine cnd_false hk rfl rfl ?_
    refine wp_skip ?_
    refine hK9 _ _ ?_
    apply wp_seq_k; intro K21 hK21
    apply wp_region_lit
    refine sm _ rfl hk rfl rfl rfl fun a hk => ?_
    refine sbd (pv := [(0, (.slice A5 y3.1.length p6))]) rfl hk rfl rfl rfl (bd181_2 A5 y3.1.length p6) fun a hk => ?_
    refine sbx 5 hs rfl hk rfl rfl rfl rfl fun b22 w a hk hs => ?_
    refine sa _ rfl hk rfl rfl rfl fun a hk => ?_
    show wpList _ _ _ [] _ _
    refine wpList_nil ?_
    refine hK21 _ _ ?_
    refine wp_ret ?_
    obtain rfl := Option.some.inj H
    exact fin hk _ [(.pointer (some ⟨b22, 0, none⟩))] rfl ⟨rfl, trivial⟩ ⟨b22, A5, p6, _, rfl, o8, (hs.pick [(0, 5), (1, 1)] rfl).dnil⟩

noncomputable def spec_l12Reader_next.f (x0 : S_l12Reader) : Option (Int × Int) :=
  (bif (decide (x0.at_ ≥ (x0.list.length : Int))) then (some ((-1), x0.at_)) else (if 0 ≤ (w64 ((w64 (x0.at_ + 1)) - 1)) ∧ (w64 ((w64 (x0.at_ + 1)) - 1)) < (x0.list.length : Int) then (some ((x0.list.getD (w64 ((w64 (x0.at_ + 1)) - 1)).toNat 0), (w64 (x0.at_ + 1)))) else none))
set_option maxRecDepth 100000 in
set_option maxHeartbeats 0 in
theorem spec_l12Reader_next_t (w0 : World) (b0_ : Nat) (x0 : S_l12Reader) (A0_0 : Option Addr) (p0_0 : Nat) (k0_0 : Chunk) (v0_0 : View (Lay.int .i64) A0_0 p0_0 x0.list k0_0) (w0_0 : Has w0 k0_0) (hs0 : Sat (blks [(1, [(b0_, .cells #[.slice A0_0 x0.list.length p0_0, .int .i64 x0.at_] 181 (0, 0))])]) w0 w0 [(2, k0_0)] [(1, [(b0_, .cells #[.slice A0_0 x0.list.length p0_0, .int .i64 x0.at_] 181 (0, 0))])]) (r : Int × Int) (H : spec_l12Reader_next.f x0 = some r) :
    Calls Try.prog 133 #[.pointer (some ⟨b0_, 0, none⟩)] w0 (Ret (fun v w => v = .int .i64 r.1 ∧ Sat (blks [(1, [(b0_, .cells #[.slice A0_0 x0.list.length p0_0, .int .i64 x0.at_] 181 (0, 0))])]) w0 w [] [(0, [(b0_, .cells #[.slice A0_0 x0.list.length p0_0, .int .i64 r.2] 181 (0, 0))])])) := by
  have hs := hs0
  unfold spec_l12Reader_next.f at H
  refine enter Try.func133 rfl Try.ntmps133 rfl fun a hk => ?_
  apply wp_seq_k; intro K1 hK1
  apply wp_region_lit
  refine sa _ rfl hk rfl rfl rfl fun a hk => ?_
  show wpList _ _ _ [] _ _
  refine wpList_nil ?_
  refine hK1 _ _ ?_
  apply wp_seq_k; intro K2 hK2
  apply wp_seq_k; intro K3 hK3
  refine wp_region_tree (.q 0 (.q 1 (.q 2 (.q 3 (.alt 4 (.alt 5 (.alt 6 (.alt 7 (.alt 8 (.alt 9 .done .stop) .stop) .stop) .stop) .stop) .stop))))) mo (by kernel_rfl) (hs.pick [(1, 1)] rfl) fun _ => ?_
  have hs := hs.drew
  refine tqst (.pointer (some ⟨b0_, 0, none⟩)) hk rfl rfl rfl rfl (fun w hs => sm _ rfl hk rfl rfl rfl fun a hk => qe hk) fun a hk => ?_
  refine tqst (.pointer (some ⟨b0_, 0, none⟩)) hk rfl rfl rfl rfl (fun w hs => snk rfl hk rfl rfl rfl fun a hk => qe hk) fun a hk => ?_
  refine tqst (.pointer (some ⟨b0_, 1, none⟩)) hk rfl rfl rfl rfl (fun w hs => sf ⟨b0_, 1, none⟩ rfl hk rfl rfl rfl fd181_1 rfl fun a hk => qe hk) fun a hk => ?_
  refine tqst (.int .i64 x0.at_) hk rfl rfl rfl rfl (fun w hs => sl rfl hk rfl rfl rfl ag3 (box_cell hs (k := 1) rfl rfl) fun a hk => qe hk) fun a hk => ?_
  refine tsst hk rfl rfl (fun K_r4_4 hK_r4_4 w hF => ?_) wt_stop
  have hs := hs.f hF
  refine sm _ rfl hk rfl rfl rfl fun a hk => ?_
  refine se (hs.pick [(1, 1)] rfl) hk (hK_r4_4 _ _ ?_)
  refine tsst hk rfl rfl (fun K_r4_5 hK_r4_5 w hF => ?_) wt_stop
  have hs := hs.f hF
  refine snk rfl hk rfl rfl rfl fun a hk => ?_
  refine se (hs.pick [(1, 1)] rfl) hk (hK_r4_5 _ _ ?_)
  refine tsst hk rfl rfl (fun K_r4_6 hK_r4_6 w hF => ?_) wt_stop
  have hs := hs.f hF
  refine sf ⟨b0_, 0, none⟩ rfl hk rfl rfl rfl fd181_0 rfl fun a hk => ?_
  refine se (hs.pick [(1, 1)] rfl) hk (hK_r4_6 _ _ ?_)
  refine tsst hk rfl rfl (fun K_r4_7 hK_r4_7 w hF => ?_) wt_stop
  have hs := hs.f hF
  refine sl rfl hk rfl rfl rfl ag31 (box_cell hs (k := 1) rfl rfl) fun a hk => ?_
  refine se (hs.pick [(1, 1)] rfl) hk (hK_r4_7 _ _ ?_)
  refine tsst hk rfl rfl (fun K_r4_8 hK_r4_8 w hF => ?_) wt_stop
  have hs := hs.f hF
  refine sle rfl hk rfl rfl rfl un31 fun a hk => ?_
  refine se (hs.pick [(1, 1)] rfl) hk (hK_r4_8 _ _ ?_)
  refine tsst hk rfl rfl (fun K_r4_9 hK_r4_9 w hF => ?_) wt_stop
  have hs := hs.f hF
  refine sv (.bool (decide (x0.at_ ≥ (x0.list.length : Int)))) hk rfl rfl rfl fun a hk => ?_
  refine se (hs.pick [(1, 1)] rfl) hk (hK_r4_9 _ _ ?_)
  refine wtl_nil fun w hF _ => ?_
  have hs := hs.f hF
  refine hK3 _ _ ?_
  rcases cond_some H with ⟨c5, H⟩ | ⟨c5, H⟩
  ·have hk := hk.lit 12 c5 rfl
   refine cnd_true hk rfl rfl ?_
   apply wp_seq_k; intro K6 hK6
   apply wp_region_lit
   refine sa _ rfl hk rfl rfl rfl fun a hk => ?_
   show wpList _ _ _ [] _ _
   refine wpList_nil ?_
   refine hK6 _ _ ?_
   refine wp_ret ?_
   obtain rfl := Option.some.inj H
   exact fin hk _ [(.int .i64 (-1))] rfl ⟨rfl, trivial⟩ ⟨rfl, (hs.pick [(0, 1)] rfl).dnil⟩
  ·have hk := hk.lit 12 c5 rfl
   refine cnd_false hk rfl rfl ?_
   refine wp_skip ?_
   refine hK2 _ _ ?_
   apply wp_seq_k; intro K7 hK7
   apply wp_region_lit
   refine sm _ rfl hk rfl rfl rfl fun a hk => ?_
   refine snk rfl hk rfl rfl rfl fun a hk => ?_
   refine sf ⟨b0_, 1, none⟩ rfl hk rfl rfl rfl fd181_1 rfl fun a hk => ?_
   refine sl rfl hk rfl rfl rfl ag3 (box_cell hs (k := 1) rfl rfl) fun a hk => ?_
   refine sv (.int .i64 (w64 (x0.at_ + 1))) hk rfl rfl rfl fun a hk => ?_
   refine snk rfl hk rfl rfl rfl fun a hk => ?_
   refine sf ⟨b0_, 1, none⟩ rfl hk rfl rfl rfl fd181_1 rfl fun a hk => ?_
   refine ssx (cs' := #[.slice A0_0 x0.list.length p0_0, .int .i64 (w64 (x0.at_ + 1))]) 1 hs rfl rfl hk rfl rfl rfl rfl sz3 rfl rfl rfl rfl fun w a hk hs => ?_
   show wpList _ _ _ [] _ _
   refine wpList_nil ?_
   refine hK7 _ _ ?_
   apply wp_seq_k; intro K8 hK8
   refine wp_region_tree (.q 0 (.q 1 (.q 2 (.q 3 (.alt 4 (.alt 5 (.alt 6 (.alt 7 (.alt 8 (.alt 9 (.alt 10 (.last 11) .stop) .stop) .stop) .stop) .stop) .stop) .stop))))) mo (by kernel_rfl) (hs.pick [(1, 1)] rfl) fun _ => ?_
   have hs := hs.drew
   refine tqst (.pointer (some ⟨b0_, 0, none⟩)) hk rfl rfl rfl rfl (fun w hs => sm _ rfl hk rfl rfl rfl fun a hk => qe hk) fun a hk => ?_
   refine tqst (.pointer (some ⟨b0_, 0, none⟩)) hk rfl rfl rfl rfl (fun w hs => snk rfl hk rfl rfl rfl fun a hk => qe hk) fun a hk => ?_
   refine tqst (.pointer (some ⟨b0_, 0, none⟩)) hk rfl rfl rfl rfl (fun w hs => sf ⟨b0_, 0, none⟩ rfl hk rfl rfl rfl fd181_0 rfl fun a hk => qe hk) fun a hk => ?_
   refine tqst (.slice A0_0 x0.list.length p0_0) hk rfl rfl rfl rfl (fun w hs => sl rfl hk rfl rfl rfl ag31 (box_cell hs (k := 1) rfl rfl) fun a hk => qe hk) fun a hk => ?_
   refine tsst hk rfl rfl (fun K_r9_4 hK_r9_4 w hF => ?_) wt_stop
   have hs := hs.f hF
   refine sm _ rfl hk rfl rfl rfl fun a hk => ?_
   refine se (hs.pick [(1, 1)] rfl) hk (hK_r9_4 _ _ ?_)
   refine tsst hk rfl rfl (fun K_r9_5 hK_r9_5 w hF => ?_) wt_stop
   have hs := hs.f hF
   refine snk rfl hk rfl rfl rfl fun a hk => ?_
   refine se (hs.pick [(1, 1)] rfl) hk (hK_r9_5 _ _ ?_)
   refine tsst hk rfl rfl (fun K_r9_6 hK_r9_6 w hF => ?_) wt_stop
   have hs := hs.f hF
   refine sf ⟨b0_, 1, none⟩ rfl hk rfl rfl rfl fd181_1 rfl fun a hk => ?_
   refine se (hs.pick [(1, 1)] rfl) hk (hK_r9_6 _ _ ?_)
   refine tsst hk rfl rfl (fun K_r9_7 hK_r9_7 w hF => ?_) wt_stop
   have hs := hs.f hF
   refine sl rfl hk rfl rfl rfl ag3 (box_cell hs (k := 1) rfl rfl) fun a hk => ?_
   refine se (hs.pick [(1, 1)] rfl) hk (hK_r9_7 _ _ ?_)
   refine tsst hk rfl rfl (fun K_r9_8 hK_r9_8 w hF => ?_) wt_stop
   have hs := hs.f hF
   refine sv (.int .i64 (w64 ((w64 (x0.at_ + 1)) - 1))) hk rfl rfl rfl fun a hk => ?_
   refine se (hs.pick [(1, 1)] rfl) hk (hK_r9_8 _ _ ?_)
   refine tsst hk rfl rfl (fun K_r9_9 hK_r9_9 w hF => ?_) wt_stop
   have hs := hs.f hF
   rcases ite_some H with ⟨c10, H⟩ | ⟨_, H⟩
   rotate_left
   ·cases H
   obtain ⟨b11, q12, hAc10⟩ := (v0_0).some_ (w64 ((w64 (x0.at_ + 1)) - 1)) c10.1 c10.2
   refine si rfl hk rfl rfl rfl rfl un31 sz3 c10.1 c10.2 hAc10 fun a hk => ?_
   refine se (hs.pick [(1, 1)] rfl) hk (hK_r9_9 _ _ ?_)
   refine tsst hk rfl rfl (fun K_r9_10 hK_r9_10 w hF => ?_) wt_stop
   have hs := hs.f hF
   obtain ⟨_, rfl, e13⟩ := (v0_0).at_ 0 (w64 ((w64 (x0.at_ + 1)) - 1)) c10.1 c10.2
   refine sl (v := (.int .i64 (x0.list.getD (w64 ((w64 (x0.at_ + 1)) - 1)).toNat 0))) rfl hk rfl rfl rfl ag3 ((e13 0 _ rfl).cell (hs.hasD (k := 2) rfl)) fun a hk => ?_
   refine se (hs.pick [(1, 1)] rfl) hk (hK_r9_10 _ _ ?_)
   refine tlst hk rfl rfl fun K_r9_11 hK_r9_11 w hF => ?_
   have hs := hs.f hF
   refine sa _ rfl hk rfl rfl rfl fun a hk => ?_
   refine se trivial hk (hK_r9_11 _ _ fun w hF => ?_)
   have hs := hs.f hF
   refine hK8 _ _ ?_
   refine wp_ret ?_
   obtain rfl := Option.some.inj H
   exact fin hk _ [(.int .i64 (x0.list.getD (w64 ((w64 (x0.at_ + 1)) - 1)).toNat 0))] rfl ⟨rfl, trivial⟩ ⟨rfl, (hs.pick [(0, 1)] rfl).dnil⟩

noncomputable def spec_l12Reader_count.f (x0 : S_l12Reader) (x1 : Int) : Option (Int × Int) :=
  ((spec_l12Reader_next.f x0).bind fun y3 => ((spec_l01In.f y3.1 0 x1).bind fun y7 => (bif (!y7) then (some (0, (w64 ((x0.list.length : Int) + 1)))) else (some (y3.1, y3.2)))))
set_option maxRecDepth 100000 in
set_option maxHeartbeats 0 in
theorem spec_l12Reader_count_t (w0 : World) (b0_ : Nat) (x0 : S_l12Reader) (A0_0 : Option Addr) (p0_0 : Nat) (k0_0 : Chunk) (v0_0 : View (Lay.int .i64) A0_0 p0_0 x0.list k0_0) (w0_0 : Has w0 k0_0) (x1 : Int) (hs0 : Sat (blks [(1, [(b0_, .cells #[.slice A0_0 x0.list.length p0_0, .int .i64 x0.at_] 181 (0, 0))])]) w0 w0 [(2, k0_0)] [(1, [(b0_, .cells #[.slice A0_0 x0.list.length p0_0, .int .i64 x0.at_] 181 (0, 0))])]) (r : Int × Int) (H : spec_l12Reader_count.f x0 x1 = some r) :
    Calls Try.prog 132 #[.pointer (some ⟨b0_, 0, none⟩), .int .i64 x1] w0 (Ret (fun v w => v = .int .i64 r.1 ∧ Sat (blks [(1, [(b0_, .cells #[.slice A0_0 x0.list.length p0_0, .int .i64 x0.at_] 181 (0, 0))])]) w0 w [] [(0, [(b0_, .cells #[.slice A0_0 x0.list.length p0_0, .int .i64 r.2] 181 (0, 0))])])) := by
  have hs := hs0
  unfold spec_l12Reader_count.f at H
  refine enter Try.func132 rfl Try.ntmps132 rfl fun a hk => ?_
  apply wp_seq_k; intro K1 hK1
  apply wp_region_lit
  refine sa _ rfl hk rfl rfl rfl fun a hk => ?_
  show wpList _ _ _ [] _ _
  refine wpList_nil ?_
  refine hK1 _ _ ?_
  apply wp_seq_k; intro K2 hK2
  apply wp_region_lit
  refine sm _ rfl hk rfl rfl rfl fun a hk => ?_
  obtain ⟨y3, h4, H⟩ := bind_some H
  refine sc rfl en133 hk rfl rfl rfl (spec_l12Reader_next_t _ b0_ x0 A0_0 p0_0 _ v0_0 (hs.hasD (k := 2) rfl) ((hs.hand [(1, 1)] rfl).dpick [(2, 2)] rfl) _ h4) ?_
  rintro _ w ⟨rfl, hG⟩ a hk
  have hs := hs.back [(1, 1)] rfl hG [1] rfl
  refine sa _ rfl hk rfl rfl rfl fun a hk => ?_
  show wpList _ _ _ [] _ _
  refine wpList_nil ?_
  refine hK2 _ _ ?_
  apply wp_seq_k; intro K5 hK5
  apply wp_seq_k; intro K6 hK6
  apply wp_region_lit
  refine sm _ rfl hk rfl rfl rfl fun a hk => ?_
  refine sm _ rfl hk rfl rfl rfl fun a hk => ?_
  obtain ⟨y7, h8, H⟩ := bind_some H
  refine sc rfl en81 hk rfl rfl rfl (spec_l01In_t _ y3.1 0 x1 _ h8) ?_
  rintro _ w ⟨rfl, hG⟩ a hk
  have hs := hs.call0 hG
  refine sv (.bool (!y7)) hk rfl rfl rfl fun a hk => ?_
  show wpList _ _ _ [] _ _
  refine wpList_nil ?_
  refine hK6 _ _ ?_
  rcases cond_some H with ⟨c9, H⟩ | ⟨c9, H⟩
  ·have hk := hk.lit 11 c9 rfl
   refine cnd_true hk rfl rfl ?_
   apply wp_seq_k; intro K10 hK10
   apply wp_region_lit
   refine sm _ rfl hk rfl rfl rfl fun a hk => ?_
   refine sm _ rfl hk rfl rfl rfl fun a hk => ?_
   refine snk rfl hk rfl rfl rfl fun a hk => ?_
   refine sf ⟨b0_, 0, none⟩ rfl hk rfl rfl rfl fd181_0 rfl fun a hk => ?_
   refine sl rfl hk rfl rfl rfl ag31 (box_cell hs (k := 1) rfl rfl) fun a hk => ?_
   refine sle rfl hk rfl rfl rfl un31 fun a hk => ?_
   refine sv (.int .i64 (w64 ((x0.list.length : Int) + 1))) hk rfl rfl rfl fun a hk => ?_
   refine snk rfl hk rfl rfl rfl fun a hk => ?_
   refine sf ⟨b0_, 1, none⟩ rfl hk rfl rfl rfl fd181_1 rfl fun a hk => ?_
   refine ssx (cs' := #[.slice A0_0 x0.list.length p0_0, .int .i64 (w64 ((x0.list.length : Int) + 1))]) 1 hs rfl rfl hk rfl rfl rfl rfl sz3 rfl rfl rfl rfl fun w a hk hs => ?_
   show wpList _ _ _ [] _ _
   refine wpList_nil ?_
   refine hK10 _ _ ?_
   apply wp_seq_k; intro K11 hK11
   apply wp_region_lit
   refine sa _ rfl hk rfl rfl rfl fun a hk => ?_
   show wpList _ _ _ [] _ _
   refine wpList_nil ?_
   refine hK11 _ _ ?_
   refine wp_ret ?_
   obtain rfl := Option.some.inj H
   exact fin hk _ [(.int .i64 0)] rfl ⟨rfl, trivial⟩ ⟨rfl, (hs.pick [(0, 1)] rfl).dnil⟩
  ·have hk := hk.lit 11 c9 rfl
   refine cnd_false hk rfl rfl ?_
   refine wp_skip ?_
   refine hK5 _ _ ?_
   apply wp_seq_k; intro K12 hK12
   apply wp_region_lit
   refine sm _ rfl hk rfl rfl rfl fun a hk => ?_
   refine sa _ rfl hk rfl rfl rfl fun a hk => ?_
   show wpList _ _ _ [] _ _
   refine wpList_nil ?_
   refine hK12 _ _ ?_
   refine wp_ret ?_
   obtain rfl := Option.some.inj H
   exact fin hk _ [(.int .i64 y3.1)] rfl ⟨rfl, trivial⟩ ⟨rfl, (hs.pick [(0, 1)] rfl).dnil⟩

noncomputable def spec_l12Reader_rest.s0 (x0 : S_l12Reader) (u6 : Int) : Option ((Int) ⊕ Ex (Unit) (Bool × Int)) :=
  (bif (decide (u6 < (x0.list.length : Int))) then (if 0 ≤ u6 ∧ u6 < (x0.list.length : Int) then (bif ((x0.list.getD u6.toNat 0) != 0) then (some (.inr (.ret (false, x0.at_)))) else (some (.inl (w64 (u6 + 1))))) else none) else (some (.inr (.out ()))))
noncomputable def spec_l12Reader_rest.f (x0 : S_l12Reader) : Option (Bool × Int) :=
  ((loopO (fun s => spec_l12Reader_rest.s0 x0 s) x0.at_).bind fun o => match o with | .out _ => (some ((decide (x0.at_ ≤ (x0.list.length : Int))), x0.at_)) | .ret r => (some r))
set_option maxRecDepth 100000 in
set_option maxHeartbeats 0 in
theorem spec_l12Reader_rest_t (w0 : World) (b0_ : Nat) (x0 : S_l12Reader) (A0_0 : Option Addr) (p0_0 : Nat) (k0_0 : Chunk) (v0_0 : View (Lay.int .i64) A0_0 p0_0 x0.list k0_0) (w0_0 : Has w0 k0_0) (hs0 : Sat (blks [(1, [(b0_, .cells #[.slice A0_0 x0.list.length p0_0, .int .i64 x0.at_] 181 (0, 0))])]) w0 w0 [(2, k0_0)] [(1, [(b0_, .cells #[.slice A0_0 x0.list.length p0_0, .int .i64 x0.at_] 181 (0, 0))])]) (r : Bool × Int) (H : spec_l12Reader_rest.f x0 = some r) :
    Calls Try.prog 134 #[.pointer (some ⟨b0_, 0, none⟩)] w0 (Ret (fun v w => v = .bool r.1 ∧ Sat (blks [(1, [(b0_, .cells #[.slice A0_0 x0.list.length p0_0, .int .i64 x0.at_] 181 (0, 0))])]) w0 w [] [(0, [(b0_, .cells #[.slice A0_0 x0.list.length p0_0, .int .i64 r.2] 181 (0, 0))])])) := by
  have hs := hs0
  unfold spec_l12Reader_rest.f at H
  refine enter Try.func134 rfl Try.ntmps134 rfl fun a hk => ?_
  apply wp_seq_k; intro K1 hK1
  apply wp_region_lit
  refine sa _ rfl hk rfl rfl rfl fun a hk => ?_
  show wpList _ _ _ [] _ _
  refine wpList_nil ?_
  refine hK1 _ _ ?_
  apply wp_seq_k; intro K2 hK2
  apply wp_seq_k; intro K3 hK3
  apply wp_region_lit
  refine sm _ rfl hk rfl rfl rfl fun a hk => ?_
  refine snk rfl hk rfl rfl rfl fun a hk => ?_
  refine sf ⟨b0_, 1, none⟩ rfl hk rfl rfl rfl fd181_1 rfl fun a hk => ?_
  refine sl rfl hk rfl rfl rfl ag3 (box_cell hs (k := 1) rfl rfl) fun a hk => ?_
  refine sa _ rfl hk rfl rfl rfl fun a hk => ?_
  show wpList _ _ _ [] _ _
  refine wpList_nil ?_
  refine hK3 _ _ ?_
  obtain ⟨o7, h8, HL9⟩ := bind_some H
  clear H
  obtain ⟨R10, hR10⟩ : ∃ R : Act → World → Prop, R = fun a w => o7 = .out () ∧ Kn [(0, (.pointer (some ⟨b0_, 0, none⟩)))] 35 a ∧ Sat (blks [(1, [(b0_, .cells #[.slice A0_0 x0.list.length p0_0, .int .i64 x0.at_] 181 (0, 0))])]) w0 w [(2, k0_0)] [(1, [(b0_, .cells #[.slice A0_0 x0.list.length p0_0, .int .i64 x0.at_] 181 (0, 0))])] := ⟨_, rfl⟩
  refine wp_cutq R10 ?_ ?_
  ·refine wp_block ?_
   obtain ⟨fu12, h8⟩ := loopO_some h8
   obtain ⟨I11, hI11⟩ : ∃ I : Nat → Act → World → Prop, I = fun fu a w => ∃ (u6 : Int), loopN (fun s => spec_l12Reader_rest.s0 x0 s) fu u6 = some o7 ∧ Kn [(0, (.pointer (some ⟨b0_, 0, none⟩))), (3, (.int .i64 u6))] 35 a ∧ Sat (blks [(1, [(b0_, .cells #[.slice A0_0 x0.list.length p0_0, .int .i64 x0.at_] 181 (0, 0))])]) w0 w [(2, k0_0)] [(1, [(b0_, .cells #[.slice A0_0 x0.list.length p0_0, .int .i64 x0.at_] 181 (0, 0))])] := ⟨_, rfl⟩
   refine wp_loop_ghost I11 fu12 ?_ ?_
   ·rw [hI11]
    exact ⟨x0.at_, h8, (hk.c 0 rfl (hk.c 3 rfl hk.k)), (hs.pick [(1, 1)] rfl)⟩
   ·clear h8 hk hs
    intro fu12 a w hI0
    rw [hI11] at hI0
    obtain ⟨u6, hi, hk, hs⟩ := hI0
    obtain ⟨x13, H, h14⟩ := loop_round hi
    try dsimp only at H
    unfold spec_l12Reader_rest.s0 at H
    apply wp_seq_k; intro K15 hK15
    apply wp_seq_k; intro K16 hK16
    apply wp_region_lit
    refine sm _ rfl hk rfl rfl rfl fun a hk => ?_
    refine sm _ rfl hk rfl rfl rfl fun a hk => ?_
    refine snk rfl hk rfl rfl rfl fun a hk => ?_
    refine sf ⟨b0_, 0, none⟩ rfl hk rfl rfl rfl fd181_0 rfl fun a hk => ?_
    refine sl rfl hk rfl rfl rfl ag31 (box_cell hs (k := 1) rfl rfl) fun a hk => ?_
    refine sle rfl hk rfl rfl rfl un31 fun a hk => ?_
    refine sv (.bool (decide (u6 < (x0.list.length : Int)))) hk rfl rfl rfl fun a hk => ?_
    show wpList _ _ _ [] _ _
    refine wpList_nil ?_
    refine hK16 _ _ ?_
    rcases cond_some H with ⟨c17, H⟩ | ⟨c17, H⟩
    ·have hk := hk.lit 14 c17 rfl
     refine cnd_true hk rfl rfl ?_
     refine wp_skip ?_
     refine hK15 _ _ ?_
     apply wp_seq_k; intro K18 hK18
     refine wp_block ?_
     apply wp_seq_k; intro K19 hK19
     apply wp_region_lit
     refine sm _ rfl hk rfl rfl rfl fun a hk => ?_
     refine snk rfl hk rfl rfl rfl fun a hk => ?_
     refine sf ⟨b0_, 0, none⟩ rfl hk rfl rfl rfl fd181_0 rfl fun a hk => ?_
     refine sl rfl hk rfl rfl rfl ag31 (box_cell hs (k := 1) rfl rfl) fun a hk => ?_
     refine sm _ rfl hk rfl rfl rfl fun a hk => ?_
     rcases ite_some H with ⟨c20, H⟩ | ⟨_, H⟩
     rotate_left
     ·cases H
     obtain ⟨b21, q22, hAc20⟩ := (v0_0).some_ u6 c20.1 c20.2
     refine si rfl hk rfl rfl rfl rfl un31 sz3 c20.1 c20.2 hAc20 fun a hk => ?_
     obtain ⟨_, rfl, e23⟩ := (v0_0).at_ 0 u6 c20.1 c20.2
     refine sl (v := (.int .i64 (x0.list.getD u6.toNat 0))) rfl hk rfl rfl rfl ag3 ((e23 0 _ rfl).cell (hs.hasD (k := 2) rfl)) fun a hk => ?_
     refine sv (.bool ((x0.list.getD u6.toNat 0) != 0)) hk rfl rfl rfl fun a hk => ?_
     show wpList _ _ _ [] _ _
     refine wpList_nil ?_
     refine hK19 _ _ ?_
     rcases cond_some H with ⟨c24, H⟩ | ⟨c24, H⟩
     ·have hk := hk.lit 24 c24 rfl
      refine cnd_true hk rfl rfl ?_
      apply wp_seq_k; intro K25 hK25
      apply wp_region_lit
      refine sa _ rfl hk rfl rfl rfl fun a hk => ?_
      show wpList _ _ _ [] _ _
      refine wpList_nil ?_
      refine hK25 _ _ ?_
      refine wp_ret ?_
      obtain rfl := Option.some.inj H
      have ho7 := h14
      try dsimp only at ho7
      subst ho7
      have H := HL9
      try dsimp only at H
      obtain rfl := Option.some.inj H
      exact fin hk _ [(.bool false)] rfl ⟨rfl, trivial⟩ ⟨rfl, (hs.pick [(0, 1)] rfl).dnil⟩
     ·have hk := hk.lit 24 c24 rfl
      refine cnd_false hk rfl rfl ?_
      refine wp_skip ?_
      refine hK18 _ _ ?_
      apply wp_region_lit
      refine sm _ rfl hk rfl rfl rfl fun a hk => ?_
      refine sv (.int .i64 (w64 (u6 + 1))) hk rfl rfl rfl fun a hk => ?_
      refine sa _ rfl hk rfl rfl rfl fun a hk => ?_
      show wpList _ _ _ [] _ _
      refine wpList_nil ?_
      obtain rfl := Option.some.inj H
      obtain ⟨m26, hmm26, h14⟩ := h14
      show ∃ n', n' < _ ∧ I11 n' _ _
      refine ⟨m26, hmm26, ?_⟩
      rw [hI11]
      exact ⟨(w64 (u6 + 1)), h14, (hk.c 0 rfl (hk.c 3 rfl hk.k)), (hs.pick [(1, 1)] rfl)⟩
    ·have hk := hk.lit 14 c17 rfl
     refine cnd_false hk rfl rfl ?_
     refine wp_exit ?_
     obtain rfl := Option.some.inj H
     show R10 _ _
     rw [hR10]
     exact ⟨h14.symm, (hk.c 0 rfl hk.k), (hs.pick [(1, 1)] rfl)⟩
  ·intro a w hR0
   rw [hR10] at hR0
   obtain ⟨rfl, hk, hs⟩ := hR0
   have H := HL9
   try dsimp only at H
   refine hK2 _ _ ?_
   apply wp_seq_k; intro K27 hK27
   refine wp_region_tree (.q 0 (.q 1 (.q 2 (.q 3 (.alt 4 (.alt 5 (.alt 6 (.alt 7 (.alt 8 (.alt 9 (.last 10) .stop) .stop) .stop) .stop) .stop) .stop))))) mo (by kernel_rfl) (hs.pick [(1, 1)] rfl) fun _ => ?_
   have hs := hs.drew
   refine tqst (.pointer (some ⟨b0_, 0, none⟩)) hk rfl rfl rfl rfl (fun w hs => sm _ rfl hk rfl rfl rfl fun a hk => qe hk) fun a hk => ?_
   refine tqst (.pointer (some ⟨b0_, 0, none⟩)) hk rfl rfl rfl rfl (fun w hs => snk rfl hk rfl rfl rfl fun a hk => qe hk) fun a hk => ?_
   refine tqst (.pointer (some ⟨b0_, 1, none⟩)) hk rfl rfl rfl rfl (fun w hs => sf ⟨b0_, 1, none⟩ rfl hk rfl rfl rfl fd181_1 rfl fun a hk => qe hk) fun a hk => ?_
   refine tqst (.int .i64 x0.at_) hk rfl rfl rfl rfl (fun w hs => sl rfl hk rfl rfl rfl ag3 (box_cell hs (k := 1) rfl rfl) fun a hk => qe hk) fun a hk => ?_
   refine tsst hk rfl rfl (fun K_r28_4 hK_r28_4 w hF => ?_) wt_stop
   have hs := hs.f hF
   refine sm _ rfl hk rfl rfl rfl fun a hk => ?_
   refine se (hs.pick [(1, 1)] rfl) hk (hK_r28_4 _ _ ?_)
   refine tsst hk rfl rfl (fun K_r28_5 hK_r28_5 w hF => ?_) wt_stop
   have hs := hs.f hF
   refine snk rfl hk rfl rfl rfl fun a hk => ?_
   refine se (hs.pick [(1, 1)] rfl) hk (hK_r28_5 _ _ ?_)
   refine tsst hk rfl rfl (fun K_r28_6 hK_r28_6 w hF => ?_) wt_stop
   have hs := hs.f hF
   refine sf ⟨b0_, 0, none⟩ rfl hk rfl rfl rfl fd181_0 rfl fun a hk => ?_
   refine se (hs.pick [(1, 1)] rfl) hk (hK_r28_6 _ _ ?_)
   refine tsst hk rfl rfl (fun K_r28_7 hK_r28_7 w hF => ?_) wt_stop
   have hs := hs.f hF
   refine sl rfl hk rfl rfl rfl ag31 (box_cell hs (k := 1) rfl rfl) fun a hk => ?_
   refine se (hs.pick [(1, 1)] rfl) hk (hK_r28_7 _ _ ?_)
   refine tsst hk rfl rfl (fun K_r28_8 hK_r28_8 w hF => ?_) wt_stop
   have hs := hs.f hF
   refine sle rfl hk rfl rfl rfl un31 fun a hk => ?_
   refine se (hs.pick [(1, 1)] rfl) hk (hK_r28_8 _ _ ?_)
   refine tsst hk rfl rfl (fun K_r28_9 hK_r28_9 w hF => ?_) wt_stop
   have hs := hs.f hF
   refine sv (.bool (decide (x0.at_ ≤ (x0.list.length : Int)))) hk rfl rfl rfl fun a hk => ?_
   refine se (hs.pick [(1, 1)] rfl) hk (hK_r28_9 _ _ ?_)
   refine tlst hk rfl rfl fun K_r28_10 hK_r28_10 w hF => ?_
   have hs := hs.f hF
   refine sa _ rfl hk rfl rfl rfl fun a hk => ?_
   refine se trivial hk (hK_r28_10 _ _ fun w hF => ?_)
   have hs := hs.f hF
   refine hK27 _ _ ?_
   refine wp_ret ?_
   obtain rfl := Option.some.inj H
   exact fin hk _ [(.bool (decide (x0.at_ ≤ (x0.list.length : Int))))] rfl ⟨rfl, trivial⟩ ⟨rfl, (hs.pick [(0, 1)] rfl).dnil⟩

end Go.Proofs.Ytmgfkpfacdlfbaa
