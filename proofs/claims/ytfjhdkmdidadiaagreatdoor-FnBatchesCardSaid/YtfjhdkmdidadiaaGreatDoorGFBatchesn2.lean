/- Further functions. -/
import Derived.Test.YtfjhdkmdidadiaaGreatDoorGFBatchesn1
namespace Go.Proofs.YtfjhdkmdidadiaaGreatDoor
open Go Go.Z Go.Proofs Go.MuLone Go.ChangeShapes Go.WideShapes Go.ChangeAt Go.RowKit
set_option linter.unusedVariables false
set_option linter.unusedSimpArgs false
noncomputable def slices_Equal_impl_Op_impl_Op.s0 (l0 : List S_Op) (l1 : List S_Op) (u10 : Int) : Option ((Int) ⊕ Ex (Unit) (Bool)) :=
  (bif (decide (u10 < (l0.length : Int))) then (if 0 ≤ u10 ∧ u10 < (l0.length : Int) then (if 0 ≤ u10 ∧ u10 < (l1.length : Int) then (bif (!((((l0.getD u10.toNat z_Op).Kind) == ((l1.getD u10.toNat z_Op).Kind)) && ((((l0.getD u10.toNat z_Op).Key) == ((l1.getD u10.toNat z_Op).Key)) && ((((l0.getD u10.toNat z_Op).Value) == ((l1.getD u10.toNat z_Op).Value)) && true)))) then (some (.inr (.ret false))) else (some (.inl (w64 (u10 + 1))))) else none) else none) else (some (.inr (.out ()))))
noncomputable def slices_Equal_impl_Op_impl_Op.f (l0 : List S_Op) (l1 : List S_Op) : Option (Bool) :=
  (bif ((l0.length : Int) != (l1.length : Int)) then (some false) else ((loopO (fun s => slices_Equal_impl_Op_impl_Op.s0 l0 l1 s) 0).bind fun o => match o with | .out _ => (some true) | .ret r => (some r)))
set_option maxRecDepth 100000 in
set_option maxHeartbeats 0 in
theorem slices_Equal_impl_Op_impl_Op_t (w0 : World) (A0_ : Option Addr) (p0_ : Nat) (l0 : List S_Op) (k0_ : Chunk) (v0_ : View L_Op A0_ p0_ l0 k0_) (w0_ : Has w0 k0_) (A1_ : Option Addr) (p1_ : Nat) (l1 : List S_Op) (k1_ : Chunk) (v1_ : View L_Op A1_ p1_ l1 k1_) (w1_ : Has w0 k1_) (r : Bool) (H : slices_Equal_impl_Op_impl_Op.f l0 l1 = some r) :
    Calls Tryz.prog 58 #[.slice A0_ l0.length p0_, .slice A1_ l1.length p1_] w0 (Ret (fun v w => v = .bool r ∧ Sat [] w0 w [] [])) := by
  have hs : Sat [] w0 w0 [(1, k0_), (2, k1_)] [] := Sat.init w0 [(1, k0_), (2, k1_)] [] (by simp only [List.mem_cons, List.not_mem_nil, or_false]; rintro x (rfl | rfl) <;> assumption) (by simp) List.nodup_nil (by simp [blks])
  unfold slices_Equal_impl_Op_impl_Op.f at H
  refine enter Tryz.func58 rfl Tryz.ntmps58 rfl fun a hk => ?_
  apply wp_seq_k; intro K1 hK1
  apply wp_region_lit
  refine sa _ rfl hk rfl rfl rfl fun a hk => ?_
  show wpList _ _ _ [] _ _
  refine wpList_nil ?_
  refine hK1 _ _ ?_
  apply wp_seq_k; intro K2 hK2
  apply wp_seq_k; intro K3 hK3
  apply wp_region_lit
  refine sm _ rfl hk rfl rfl rfl fun a hk => ?_
  refine sle rfl hk rfl rfl rfl un34 fun a hk => ?_
  refine sm _ rfl hk rfl rfl rfl fun a hk => ?_
  refine sle rfl hk rfl rfl rfl un34 fun a hk => ?_
  refine sv (.bool ((l0.length : Int) != (l1.length : Int))) hk rfl rfl rfl fun a hk => ?_
  show wpList _ _ _ [] _ _
  refine wpList_nil ?_
  refine hK3 _ _ ?_
  rcases cond_some H with ⟨c4, H⟩ | ⟨c4, H⟩
  ·have hk := hk.lit 10 c4 rfl
   refine cnd_true hk rfl rfl ?_
   apply wp_seq_k; intro K5 hK5
   apply wp_region_lit
   refine sa _ rfl hk rfl rfl rfl fun a hk => ?_
   show wpList _ _ _ [] _ _
   refine wpList_nil ?_
   refine hK5 _ _ ?_
   refine wp_ret ?_
   obtain rfl := Option.some.inj H
   exact fin hk _ [(.bool false)] rfl ⟨rfl, trivial⟩ ⟨rfl, (hs.pick [] rfl).dnil⟩
  ·have hk := hk.lit 10 c4 rfl
   refine cnd_false hk rfl rfl ?_
   refine wp_skip ?_
   refine hK2 _ _ ?_
   apply wp_seq_k; intro K6 hK6
   apply wp_seq_k; intro K7 hK7
   apply wp_region_lit
   refine sm _ rfl hk rfl rfl rfl fun a hk => ?_
   refine sle rfl hk rfl rfl rfl un34 fun a hk => ?_
   refine sm _ rfl hk rfl rfl rfl fun a hk => ?_
   show wpList _ _ _ [] _ _
   refine wpList_nil ?_
   refine hK7 _ _ ?_
   have hs := hs.pick [] rfl
   obtain ⟨o11, h12, HL13⟩ := bind_some H
   clear H
   obtain ⟨R14, hR14⟩ : ∃ R : Act → World → Prop, R = fun a w => o11 = .out () ∧ Kn [] 26 a ∧ Sat [] w0 w [(1, k0_), (2, k1_)] [] := ⟨_, rfl⟩
   refine wp_cutq R14 ?_ ?_
   ·refine wp_block ?_
    obtain ⟨fu16, h12⟩ := loopO_some h12
    obtain ⟨I15, hI15⟩ : ∃ I : Nat → Act → World → Prop, I = fun fu a w => ∃ (u10 : Int), loopN (fun s => slices_Equal_impl_Op_impl_Op.s0 l0 l1 s) fu u10 = some o11 ∧ Kn [(0, (.slice A0_ l0.length p0_)), (1, (.slice A1_ l1.length p1_)), (12, (.int .i64 (l0.length : Int))), (13, (.int .i64 u10))] 26 a ∧ Sat [] w0 w [(1, k0_), (2, k1_)] [] := ⟨_, rfl⟩
    refine wp_loop_ghost I15 fu16 ?_ ?_
    ·rw [hI15]
     exact ⟨0, h12, (hk.c 0 rfl (hk.c 1 rfl (hk.c 12 rfl (hk.c 13 rfl hk.k)))), (hs.pick [] rfl)⟩
    ·clear h12 hk hs
     intro fu16 a w hI0
     rw [hI15] at hI0
     obtain ⟨u10, hi, hk, hs⟩ := hI0
     obtain ⟨x17, H, h18⟩ := loop_round hi
     try dsimp only at H
     unfold slices_Equal_impl_Op_impl_Op.s0 at H
     apply wp_seq_k; intro K19 hK19
     apply wp_region_lit
     refine sv (.bool (decide (u10 < (l0.length : Int)))) hk rfl rfl rfl fun a hk => ?_
     show wpList _ _ _ [] _ _
     refine wpList_nil ?_
     refine hK19 _ _ ?_
     apply wp_seq_k; intro K20 hK20
     rcases cond_some H with ⟨c21, H⟩ | ⟨c21, H⟩
     ·have hk := hk.lit 14 c21 rfl
      refine cnd_true hk rfl rfl ?_
      refine wp_skip ?_
      refine hK20 _ _ ?_
      apply wp_seq_k; intro K22 hK22
      refine wp_block ?_
      apply wp_seq_k; intro K23 hK23
      apply wp_region_lit
      refine sm _ rfl hk rfl rfl rfl fun a hk => ?_
      refine sa _ rfl hk rfl rfl rfl fun a hk => ?_
      show wpList _ _ _ [] _ _
      refine wpList_nil ?_
      refine hK23 _ _ ?_
      apply wp_seq_k; intro K24 hK24
      refine wp_region_tree (.q 0 (.q 1 (.q 2 (.q 3 (.q 4 (.alt 5 (.alt 6 (.alt 7 (.alt 8 .done .stop) .stop) .stop) .stop)))))) mo (by kernel_rfl) (hs.pick [] rfl) fun _ => ?_
      have hs := hs.drew
      refine tqst (.slice A0_ l0.length p0_) hk rfl rfl rfl rfl (fun w hs => sm _ rfl hk rfl rfl rfl fun a hk => qe hk) fun a hk => ?_
      refine tqst (.int .i64 u10) hk rfl rfl rfl rfl (fun w hs => sm _ rfl hk rfl rfl rfl fun a hk => qe hk) fun a hk => ?_
      rcases ite_some H with ⟨c26, H⟩ | ⟨_, H⟩
      rotate_left
      ·cases H
      obtain ⟨b27, q28, hAc26⟩ := (v0_).some_ u10 c26.1 c26.2
      refine tqst (.pointer (some (padd A0_ (u10.toNat * 3)))) hk rfl rfl rfl rfl (fun w hs => si rfl hk rfl rfl rfl rfl un34 sz33 c26.1 c26.2 hAc26 fun a hk => qe hk) fun a hk => ?_
      obtain ⟨_, rfl, e29⟩ := (v0_).at_ z_Op u10 c26.1 c26.2
      refine tqst (.agg #[.int .i64 ((l0.getD u10.toNat z_Op).Kind), .int .i64 ((l0.getD u10.toNat z_Op).Key), .int .i64 ((l0.getD u10.toNat z_Op).Value)]) hk rfl rfl rfl rfl (fun w hs => sln [.int .i64 ((l0.getD u10.toNat z_Op).Kind), .int .i64 ((l0.getD u10.toNat z_Op).Key), .int .i64 ((l0.getD u10.toNat z_Op).Value)] rfl hk rfl rfl rfl ag33 sz33 (cells_at e29 (hs.hasD (k := 1) rfl)) fun a hk => qe hk) fun a hk => ?_
      refine tqst (.slice A1_ l1.length p1_) hk rfl rfl rfl rfl (fun w hs => sm _ rfl hk rfl rfl rfl fun a hk => qe hk) fun a hk => ?_
      refine tsst hk rfl rfl (fun K_r25_5 hK_r25_5 w hF => ?_) wt_stop
      have hs := hs.f hF
      refine sm _ rfl hk rfl rfl rfl fun a hk => ?_
      refine se (hs.pick [] rfl) hk (hK_r25_5 _ _ ?_)
      refine tsst hk rfl rfl (fun K_r25_6 hK_r25_6 w hF => ?_) wt_stop
      have hs := hs.f hF
      rcases ite_some H with ⟨c30, H⟩ | ⟨_, H⟩
      rotate_left
      ·cases H
      obtain ⟨b31, q32, hAc30⟩ := (v1_).some_ u10 c30.1 c30.2
      refine si rfl hk rfl rfl rfl rfl un34 sz33 c30.1 c30.2 hAc30 fun a hk => ?_
      refine se (hs.pick [] rfl) hk (hK_r25_6 _ _ ?_)
      refine tsst hk rfl rfl (fun K_r25_7 hK_r25_7 w hF => ?_) wt_stop
      have hs := hs.f hF
      obtain ⟨_, rfl, e33⟩ := (v1_).at_ z_Op u10 c30.1 c30.2
      refine sln [.int .i64 ((l1.getD u10.toNat z_Op).Kind), .int .i64 ((l1.getD u10.toNat z_Op).Key), .int .i64 ((l1.getD u10.toNat z_Op).Value)] rfl hk rfl rfl rfl ag33 sz33 (cells_at e33 (hs.hasD (k := 2) rfl)) fun a hk => ?_
      refine se (hs.pick [] rfl) hk (hK_r25_7 _ _ ?_)
      refine tsst hk rfl rfl (fun K_r25_8 hK_r25_8 w hF => ?_) wt_stop
      have hs := hs.f hF
      refine snea (r := ((((l0.getD u10.toNat z_Op).Kind) == ((l1.getD u10.toNat z_Op).Kind)) && ((((l0.getD u10.toNat z_Op).Key) == ((l1.getD u10.toNat z_Op).Key)) && ((((l0.getD u10.toNat z_Op).Value) == ((l1.getD u10.toNat z_Op).Value)) && true)))) rfl hk rfl rfl rfl rfl eg33 (eq_agg Tryz.underlying33 sh33 (eqf_cons rfl ag3 rfl rfl (run_equalIn_int _ _ _ _ _ _ _ un3) (eqf_cons rfl ag3 rfl rfl (run_equalIn_int _ _ _ _ _ _ _ un3) (eqf_cons rfl ag3 rfl rfl (run_equalIn_int _ _ _ _ _ _ _ un3) eqf_nil)))) fun a hk => ?_
      refine se (hs.pick [] rfl) hk (hK_r25_8 _ _ ?_)
      refine wtl_nil fun w hF _ => ?_
      have hs := hs.f hF
      refine hK24 _ _ ?_
      have hs := hs.pick [] rfl
      rcases cond_some H with ⟨c34, H⟩ | ⟨c34, H⟩
      ·have hk := hk.lit 24 c34 rfl
       refine cnd_true hk rfl rfl ?_
       apply wp_seq_k; intro K35 hK35
       apply wp_region_lit
       refine sa _ rfl hk rfl rfl rfl fun a hk => ?_
       show wpList _ _ _ [] _ _
       refine wpList_nil ?_
       refine hK35 _ _ ?_
       refine wp_ret ?_
       obtain rfl := Option.some.inj H
       have ho11 := h18
       try dsimp only at ho11
       subst ho11
       have H := HL13
       try dsimp only at H
       obtain rfl := Option.some.inj H
       exact fin hk _ [(.bool false)] rfl ⟨rfl, trivial⟩ ⟨rfl, (hs.pick [] rfl).dnil⟩
      ·have hk := hk.lit 24 c34 rfl
       refine cnd_false hk rfl rfl ?_
       refine wp_skip ?_
       refine hK22 _ _ ?_
       apply wp_region_lit
       refine sv (.int .i64 (w64 (u10 + 1))) hk rfl rfl rfl fun a hk => ?_
       refine sm _ rfl hk rfl rfl rfl fun a hk => ?_
       show wpList _ _ _ [] _ _
       refine wpList_nil ?_
       obtain rfl := Option.some.inj H
       obtain ⟨m36, hmm36, h18⟩ := h18
       show ∃ n', n' < _ ∧ I15 n' _ _
       refine ⟨m36, hmm36, ?_⟩
       rw [hI15]
       exact ⟨(w64 (u10 + 1)), h18, (hk.c 0 rfl (hk.c 1 rfl (hk.c 12 rfl (hk.c 13 rfl hk.k)))), (hs.pick [] rfl)⟩
     ·have hk := hk.lit 14 c21 rfl
      refine cnd_false hk rfl rfl ?_
      refine wp_exit ?_
      obtain rfl := Option.some.inj H
      show R14 _ _
      rw [hR14]
      exact ⟨h18.symm, hk.k, (hs.pick [] rfl)⟩
   ·intro a w hR0
    rw [hR14] at hR0
    obtain ⟨rfl, hk, hs⟩ := hR0
    have H := HL13
    try dsimp only at H
    refine hK6 _ _ ?_
    apply wp_seq_k; intro K37 hK37
    apply wp_region_lit
    refine sa _ rfl hk rfl rfl rfl fun a hk => ?_
    show wpList _ _ _ [] _ _
    refine wpList_nil ?_
    refine hK37 _ _ ?_
    refine wp_ret ?_
    obtain rfl := Option.some.inj H
    exact fin hk _ [(.bool true)] rfl ⟨rfl, trivial⟩ ⟨rfl, (hs.pick [] rfl).dnil⟩

noncomputable def impl_alike_c1.f (x0 : S_Txn) (x1 : S_Txn) : Option (Bool) :=
  ((slices_Equal_impl_Op_impl_Op.f x0.Ops x1.Ops).bind fun y5 => (some y5))
set_option maxRecDepth 100000 in
set_option maxHeartbeats 0 in
theorem impl_alike_c1_t (w0 : World) (x0 : S_Txn) (A0_0 : Option Addr) (p0_0 : Nat) (k0_0 : Chunk) (v0_0 : View L_Op A0_0 p0_0 x0.Ops k0_0) (w0_0 : Has w0 k0_0) (x1 : S_Txn) (A1_0 : Option Addr) (p1_0 : Nat) (k1_0 : Chunk) (v1_0 : View L_Op A1_0 p1_0 x1.Ops k1_0) (w1_0 : Has w0 k1_0) (r : Bool) (H : impl_alike_c1.f x0 x1 = some r) :
    Calls Tryz.prog 57 #[.agg #[.slice A0_0 x0.Ops.length p0_0], .agg #[.slice A1_0 x1.Ops.length p1_0]] w0 (Ret (fun v w => v = .bool r ∧ Sat [] w0 w [] [])) := by
  have hs : Sat [] w0 w0 [(1, k0_0), (2, k1_0)] [] := Sat.init w0 [(1, k0_0), (2, k1_0)] [] (by simp only [List.mem_cons, List.not_mem_nil, or_false]; rintro x (rfl | rfl) <;> assumption) (by simp) List.nodup_nil (by simp [blks])
  unfold impl_alike_c1.f at H
  refine enter Tryz.func57 rfl Tryz.ntmps57 rfl fun a hk => ?_
  apply wp_seq_k; intro K1 hK1
  apply wp_region_lit
  refine sbx 3 hs rfl hk rfl rfl rfl rfl fun b2 w a hk hs => ?_
  refine sbx 4 hs rfl hk rfl rfl rfl rfl fun b3 w a hk hs => ?_
  refine sa _ rfl hk rfl rfl rfl fun a hk => ?_
  show wpList _ _ _ [] _ _
  refine wpList_nil ?_
  refine hK1 _ _ ?_
  apply wp_seq_k; intro K4 hK4
  apply wp_region_lit
  refine sf ⟨b2, 0, none⟩ rfl hk rfl rfl rfl fd36_0 rfl fun a hk => ?_
  refine sl rfl hk rfl rfl rfl ag34 (box_cell hs (k := 3) rfl rfl) fun a hk => ?_
  refine sf ⟨b3, 0, none⟩ rfl hk rfl rfl rfl fd36_0 rfl fun a hk => ?_
  refine sl rfl hk rfl rfl rfl ag34 (box_cell hs (k := 4) rfl rfl) fun a hk => ?_
  obtain ⟨y5, h6, H⟩ := bind_some H
  refine sc rfl en58 hk rfl rfl rfl (slices_Equal_impl_Op_impl_Op_t _ A0_0 p0_0 x0.Ops _ v0_0 (hs.hasD (k := 1) rfl) A1_0 p1_0 x1.Ops _ v1_0 (hs.hasD (k := 2) rfl) _ h6) ?_
  rintro _ w ⟨rfl, hG⟩ a hk
  have hs := hs.call0 hG
  refine sa _ rfl hk rfl rfl rfl fun a hk => ?_
  show wpList _ _ _ [] _ _
  refine wpList_nil ?_
  refine hK4 _ _ ?_
  refine wp_ret ?_
  obtain rfl := Option.some.inj H
  exact fin hk _ [(.bool y5)] rfl ⟨rfl, trivial⟩ ⟨rfl, (hs.pick [] rfl).dnil⟩

noncomputable def impl_alike.f (l0 : List S_Txn) (l1 : List S_Txn) : Option (Bool) :=
  ((slices_EqualFunc_impl_Txn_impl_Txn_impl_Txn_impl_Txn.f l0 l1 impl_alike_c1.f).bind fun y3 => (some y3))
set_option maxRecDepth 100000 in
set_option maxHeartbeats 0 in
theorem impl_alike_t (w0 : World) (A0_ : Option Addr) (p0_ : Nat) (l0 : List S_Txn) (k0_ : Chunk) (v0_ : View L_impl_Txn A0_ p0_ l0 k0_) (w0_ : Has w0 k0_) (A1_ : Option Addr) (p1_ : Nat) (l1 : List S_Txn) (k1_ : Chunk) (v1_ : View L_impl_Txn A1_ p1_ l1 k1_) (w1_ : Has w0 k1_) (r : Bool) (H : impl_alike.f l0 l1 = some r) :
    Calls Tryz.prog 31 #[.slice A0_ l0.length p0_, .slice A1_ l1.length p1_] w0 (Ret (fun v w => v = .bool r ∧ Sat [] w0 w [] [])) := by
  have hs : Sat [] w0 w0 [(1, k0_), (2, k1_)] [] := Sat.init w0 [(1, k0_), (2, k1_)] [] (by simp only [List.mem_cons, List.not_mem_nil, or_false]; rintro x (rfl | rfl) <;> assumption) (by simp) List.nodup_nil (by simp [blks])
  unfold impl_alike.f at H
  refine enter Tryz.func31 rfl Tryz.ntmps31 rfl fun a hk => ?_
  apply wp_seq_k; intro K1 hK1
  apply wp_region_lit
  refine sa _ rfl hk rfl rfl rfl fun a hk => ?_
  show wpList _ _ _ [] _ _
  refine wpList_nil ?_
  refine hK1 _ _ ?_
  apply wp_seq_k; intro K2 hK2
  apply wp_region_lit
  refine sm _ rfl hk rfl rfl rfl fun a hk => ?_
  refine sm _ rfl hk rfl rfl rfl fun a hk => ?_
  obtain ⟨y3, h4, H⟩ := bind_some H
  refine sc rfl en56 hk rfl rfl rfl (slices_EqualFunc_impl_Txn_impl_Txn_impl_Txn_impl_Txn_t _ A0_ p0_ l0 _ v0_ (hs.hasD (k := 1) rfl) A1_ p1_ l1 _ v1_ (hs.hasD (k := 2) rfl) 57 [] en57 impl_alike_c1.f [] (fun w _ z0 z0A0 z0p0 z0k0 z0v0 z0w0 z1 z1A0 z1p0 z1k0 z1v0 z1w0 r h => impl_alike_c1_t w z0 z0A0 z0p0 z0k0 z0v0 z0w0 z1 z1A0 z1p0 z1k0 z1v0 z1w0 r h) (Has.nil _) _ h4) ?_
  rintro _ w ⟨rfl, hG⟩ a hk
  have hs := hs.call0 hG
  refine sa _ rfl hk rfl rfl rfl fun a hk => ?_
  show wpList _ _ _ [] _ _
  refine wpList_nil ?_
  refine hK2 _ _ ?_
  refine wp_ret ?_
  obtain rfl := Option.some.inj H
  exact fin hk _ [(.bool y3)] rfl ⟨rfl, trivial⟩ ⟨rfl, (hs.pick [] rfl).dnil⟩

noncomputable def impl_SameBatch.f (l0 : List S_Txn) (l1 : List S_Txn) : Option (Bool) :=
  ((((impl_BatchOK.f l0).bind fun y9 => (bif y9 then ((impl_BatchOK.f l1).bind fun y12 => (bif y12 then ((impl_alike.f l0 l1).bind fun y15 => (some y15)) else (some false))) else (some false))) : Option (Bool)).bind fun u4 => (some u4))
set_option maxRecDepth 100000 in
set_option maxHeartbeats 0 in
theorem impl_SameBatch_t (w0 : World) (A0_ : Option Addr) (p0_ : Nat) (l0 : List S_Txn) (k0_ : Chunk) (v0_ : View L_impl_Txn A0_ p0_ l0 k0_) (w0_ : Has w0 k0_) (A1_ : Option Addr) (p1_ : Nat) (l1 : List S_Txn) (k1_ : Chunk) (v1_ : View L_impl_Txn A1_ p1_ l1 k1_) (w1_ : Has w0 k1_) (r : Bool) (H : impl_SameBatch.f l0 l1 = some r) :
    Calls Tryz.prog 15 #[.slice A0_ l0.length p0_, .slice A1_ l1.length p1_] w0 (Ret (fun v w => v = .bool r ∧ Sat [] w0 w [] [])) := by
  have hs : Sat [] w0 w0 [(1, k0_), (2, k1_)] [] := Sat.init w0 [(1, k0_), (2, k1_)] [] (by simp only [List.mem_cons, List.not_mem_nil, or_false]; rintro x (rfl | rfl) <;> assumption) (by simp) List.nodup_nil (by simp [blks])
  unfold impl_SameBatch.f at H
  refine enter Tryz.func15 rfl Tryz.ntmps15 rfl fun a hk => ?_
  apply wp_seq_k; intro K1 hK1
  apply wp_region_lit
  refine sa _ rfl hk rfl rfl rfl fun a hk => ?_
  show wpList _ _ _ [] _ _
  refine wpList_nil ?_
  refine hK1 _ _ ?_
  apply wp_seq_k; intro K2 hK2
  obtain ⟨o5, h6, HL7⟩ := bind_some H
  clear H
  obtain ⟨R8, hR8⟩ : ∃ R : Act → World → Prop, R = fun a w => ∃ (u4 : Bool), u4 = o5 ∧ Kn [(4, (.bool u4))] 16 a ∧ Sat [] w0 w [(1, k0_), (2, k1_)] [] := ⟨_, rfl⟩
  refine wp_cutq R8 ?_ ?_
  ·have H := h6
   apply wp_region_lit
   refine sm _ rfl hk rfl rfl rfl fun a hk => ?_
   obtain ⟨y9, h10, H⟩ := bind_some H
   refine sc rfl en17 hk rfl rfl rfl (impl_BatchOK_t _ A0_ p0_ l0 _ v0_ (hs.hasD (k := 1) rfl) _ h10) ?_
   rintro _ w ⟨rfl, hG⟩ a hk
   have hs := hs.call0 hG
   refine sm _ rfl hk rfl rfl rfl fun a hk => ?_
   rcases cond_some H with ⟨c11, H⟩ | ⟨c11, H⟩
   ·have hk := hk.lit 7 c11 rfl
    refine sm _ rfl hk rfl rfl rfl fun a hk => ?_
    obtain ⟨y12, h13, H⟩ := bind_some H
    refine sc rfl en17 hk rfl rfl rfl (impl_BatchOK_t _ A1_ p1_ l1 _ v1_ (hs.hasD (k := 2) rfl) _ h13) ?_
    rintro _ w ⟨rfl, hG⟩ a hk
    have hs := hs.call0 hG
    refine sv (.bool y12) hk rfl rfl rfl fun a hk => ?_
    refine sm _ rfl hk rfl rfl rfl fun a hk => ?_
    rcases cond_some H with ⟨c14, H⟩ | ⟨c14, H⟩
    ·have hk := hk.lit 11 c14 rfl
     refine sm _ rfl hk rfl rfl rfl fun a hk => ?_
     refine sm _ rfl hk rfl rfl rfl fun a hk => ?_
     obtain ⟨y15, h16, H⟩ := bind_some H
     refine sc rfl en31 hk rfl rfl rfl (impl_alike_t _ A0_ p0_ l0 _ v0_ (hs.hasD (k := 1) rfl) A1_ p1_ l1 _ v1_ (hs.hasD (k := 2) rfl) _ h16) ?_
     rintro _ w ⟨rfl, hG⟩ a hk
     have hs := hs.call0 hG
     refine sv (.bool y15) hk rfl rfl rfl fun a hk => ?_
     refine sa _ rfl hk rfl rfl rfl fun a hk => ?_
     show wpList _ _ _ [] _ _
     refine wpList_nil ?_
     obtain rfl := Option.some.inj H
     show R8 _ _
     rw [hR8]
     exact ⟨y15, rfl, (hk.c 4 rfl hk.k), (hs.pick [] rfl)⟩
    ·have hk := hk.lit 11 c14 rfl
     refine sk hk rfl rfl rfl fun a hk => ?_
     refine sk hk rfl rfl rfl fun a hk => ?_
     refine sk hk rfl rfl rfl fun a hk => ?_
     refine sv (.bool false) hk rfl rfl rfl fun a hk => ?_
     refine sa _ rfl hk rfl rfl rfl fun a hk => ?_
     show wpList _ _ _ [] _ _
     refine wpList_nil ?_
     obtain rfl := Option.some.inj H
     show R8 _ _
     rw [hR8]
     exact ⟨false, rfl, (hk.c 4 rfl hk.k), (hs.pick [] rfl)⟩
   ·have hk := hk.lit 7 c11 rfl
    refine sk hk rfl rfl rfl fun a hk => ?_
    refine sk hk rfl rfl rfl fun a hk => ?_
    refine sv (.bool false) hk rfl rfl rfl fun a hk => ?_
    refine sm _ rfl hk rfl rfl rfl fun a hk => ?_
    refine sk hk rfl rfl rfl fun a hk => ?_
    refine sk hk rfl rfl rfl fun a hk => ?_
    refine sk hk rfl rfl rfl fun a hk => ?_
    refine sv (.bool false) hk rfl rfl rfl fun a hk => ?_
    refine sa _ rfl hk rfl rfl rfl fun a hk => ?_
    show wpList _ _ _ [] _ _
    refine wpList_nil ?_
    obtain rfl := Option.some.inj H
    show R8 _ _
    rw [hR8]
    exact ⟨false, rfl, (hk.c 4 rfl hk.k), (hs.pick [] rfl)⟩
  ·intro a w hR0
   rw [hR8] at hR0
   obtain ⟨u4, rfl, hk, hs⟩ := hR0
   have H := HL7
   try dsimp only at H
   refine hK2 _ _ ?_
   refine wp_ret ?_
   obtain rfl := Option.some.inj H
   exact fin hk _ [(.bool u4)] rfl ⟨rfl, trivial⟩ ⟨rfl, (hs.pick [] rfl).dnil⟩

noncomputable def laws_FnBatches.f (l0 : List Int) (l1 : List Int) : Option (Bool) :=
  (((bif (decide ((l0.length : Int) > 1048576)) then (some true) else (some (decide ((l1.length : Int) > 1048576)))) : Option (Bool)).bind fun u5 => (bif u5 then (some true) else ((spec_BatchOf.f l0).bind fun y14 => ((impl_BatchText.f y14).bind fun y21 => ((spec_BatchText.f y14).bind fun y24 => ((impl_ReadBatch.f y21.1).bind fun y27 => (if 0 ≤ (0 : Int) ∧ (0 : Int) < (y14.length : Int) then (if 0 ≤ (0 : Int) ∧ (0 : Int) < (((y14.getD (0 : Int).toNat z_Txn).Ops).length : Int) then ((impl_OpText.f (((y14.getD (0 : Int).toNat z_Txn).Ops).getD (0 : Int).toNat z_Op)).bind fun y47 => ((impl_ReadOp.f y47.1).bind fun y50 => (if y21.1.size + (⟨#[59]⟩ : ByteArray).size ≤ 1152921504606846976 then ((impl_ReadBatch.f (y21.1 ++ (⟨#[59]⟩ : ByteArray))).bind fun y55 => (((bif (y21.2 == 0) then (bif (y21.1.toList == y24.1.toList) then (bif (y27.2 == 0) then ((impl_SameBatch.f y27.1 y14).bind fun y71 => (bif y71 then (bif (y47.2 == 0) then (bif (y50.2 == 0) then (bif ((y50.1.Kind == ((((y14.getD (0 : Int).toNat z_Txn).Ops).getD (0 : Int).toNat z_Op).Kind)) && ((y50.1.Key == ((((y14.getD (0 : Int).toNat z_Txn).Ops).getD (0 : Int).toNat z_Op).Key)) && ((y50.1.Value == ((((y14.getD (0 : Int).toNat z_Txn).Ops).getD (0 : Int).toNat z_Op).Value)) && true))) then ((impl_OpOK.f (((y14.getD (0 : Int).toNat z_Txn).Ops).getD (0 : Int).toNat z_Op)).bind fun y77 => (bif y77 then (bif (y55.2 == 3) then ((impl_BatchOK.f y14).bind fun y81 => (some y81)) else (some false)) else (some false))) else (some false)) else (some false)) else (some false)) else (some false))) else (some false)) else (some false)) else (some false)) : Option (Bool)).bind fun u63 => (some u63))) else none))) else none) else none)))))))
set_option maxRecDepth 100000 in
set_option maxHeartbeats 0 in
theorem laws_FnBatches_t (w0 : World) (A0_ : Option Addr) (p0_ : Nat) (l0 : List Int) (k0_ : Chunk) (v0_ : View (Lay.int .u8) A0_ p0_ l0 k0_) (w0_ : Has w0 k0_) (A1_ : Option Addr) (p1_ : Nat) (l1 : List Int) (k1_ : Chunk) (v1_ : View (Lay.int .u8) A1_ p1_ l1 k1_) (w1_ : Has w0 k1_) (kT : Chunk) (tT : TabR Tryz.prog kT) (wT : Has w0 kT) (r : Bool) (H : laws_FnBatches.f l0 l1 = some r) :
    Calls Tryz.prog 4 #[.slice A0_ l0.length p0_, .slice A1_ l1.length p1_] w0 (Ret (fun v w => v = .bool r ∧ Sat [] w0 w [] [])) := by
  have hs : Sat [] w0 w0 [(1, k0_), (2, k1_), (3, kT)] [] := Sat.init w0 [(1, k0_), (2, k1_), (3, kT)] [] (by simp only [List.mem_cons, List.not_mem_nil, or_false]; rintro x (rfl | rfl | rfl) <;> assumption) (by simp) List.nodup_nil (by simp [blks])
  unfold laws_FnBatches.f at H
  refine enter Tryz.func4 rfl Tryz.ntmps4 rfl fun a hk => ?_
  apply wp_seq_k; intro K1 hK1
  apply wp_region_lit
  refine sa _ rfl hk rfl rfl rfl fun a hk => ?_
  show wpList _ _ _ [] _ _
  refine wpList_nil ?_
  refine hK1 _ _ ?_
  apply wp_seq_k; intro K2 hK2
  apply wp_seq_k; intro K3 hK3
  obtain ⟨o6, h7, HL8⟩ := bind_some H
  clear H
  obtain ⟨R9, hR9⟩ : ∃ R : Act → World → Prop, R = fun a w => ∃ (u5 : Bool), u5 = o6 ∧ Kn [(0, (.slice A0_ l0.length p0_)), (26, (.bool u5))] 107 a ∧ Sat [] w0 w [(1, k0_), (2, k1_), (3, kT)] [] := ⟨_, rfl⟩
  refine wp_cutq R9 ?_ ?_
  ·have H := h7
   apply wp_region_lit
   refine sm _ rfl hk rfl rfl rfl fun a hk => ?_
   refine sle rfl hk rfl rfl rfl un28 fun a hk => ?_
   refine sv (.bool (decide ((l0.length : Int) > 1048576))) hk rfl rfl rfl fun a hk => ?_
   refine sm _ rfl hk rfl rfl rfl fun a hk => ?_
   rcases cond_some H with ⟨c10, H⟩ | ⟨c10, H⟩
   ·have hk := hk.lit 22 c10 rfl
    refine sk hk rfl rfl rfl fun a hk => ?_
    refine sk hk rfl rfl rfl fun a hk => ?_
    refine sk hk rfl rfl rfl fun a hk => ?_
    refine sv (.bool true) hk rfl rfl rfl fun a hk => ?_
    show wpList _ _ _ [] _ _
    refine wpList_nil ?_
    obtain rfl := Option.some.inj H
    show R9 _ _
    rw [hR9]
    exact ⟨true, rfl, (hk.c 0 rfl (hk.c 26 rfl hk.k)), (hs.pick [] rfl)⟩
   ·have hk := hk.lit 22 c10 rfl
    refine sm _ rfl hk rfl rfl rfl fun a hk => ?_
    refine sle rfl hk rfl rfl rfl un28 fun a hk => ?_
    refine sv (.bool (decide ((l1.length : Int) > 1048576))) hk rfl rfl rfl fun a hk => ?_
    refine sv (.bool (decide ((l1.length : Int) > 1048576))) hk rfl rfl rfl fun a hk => ?_
    show wpList _ _ _ [] _ _
    refine wpList_nil ?_
    obtain rfl := Option.some.inj H
    show R9 _ _
    rw [hR9]
    exact ⟨(decide ((l1.length : Int) > 1048576)), rfl, (hk.c 0 rfl (hk.c 26 rfl hk.k)), (hs.pick [] rfl)⟩
  ·intro a w hR0
   rw [hR9] at hR0
   obtain ⟨u5, rfl, hk, hs⟩ := hR0
   have H := HL8
   try dsimp only at H
   refine hK3 _ _ ?_
   rcases cond_some H with ⟨c11, H⟩ | ⟨c11, H⟩
   ·have hk := hk.lit 26 c11 rfl
    refine cnd_true hk rfl rfl ?_
    apply wp_seq_k; intro K12 hK12
    apply wp_region_lit
    refine sa _ rfl hk rfl rfl rfl fun a hk => ?_
    show wpList _ _ _ [] _ _
    refine wpList_nil ?_
    refine hK12 _ _ ?_
    refine wp_ret ?_
    obtain rfl := Option.some.inj H
    exact fin hk _ [(.bool true)] rfl ⟨rfl, trivial⟩ ⟨rfl, (hs.pick [] rfl).dnil⟩
   ·have hk := hk.lit 26 c11 rfl
    refine cnd_false hk rfl rfl ?_
    refine wp_skip ?_
    refine hK2 _ _ ?_
    apply wp_seq_k; intro K13 hK13
    apply wp_region_lit
    refine sm _ rfl hk rfl rfl rfl fun a hk => ?_
    obtain ⟨y14, h15, H⟩ := bind_some H
    refine sc rfl en10 hk rfl rfl rfl (spec_BatchOf_t _ A0_ p0_ l0 _ v0_ (hs.hasD (k := 1) rfl) _ h15) ?_
    rintro _ w ⟨A16, p17, k18, rfl, o19, hG⟩ a hk
    have hs := hs.call0k hG [5] rfl
    refine sa _ rfl hk rfl rfl rfl fun a hk => ?_
    show wpList _ _ _ [] _ _
    refine wpList_nil ?_
    refine hK13 _ _ ?_
    have hs := hs.pick [(5, 5)] rfl
    apply wp_seq_k; intro K20 hK20
    apply wp_region_lit
    refine sm _ rfl hk rfl rfl rfl fun a hk => ?_
    obtain ⟨y21, h22, H⟩ := bind_some H
    refine sc rfl en11 hk rfl rfl rfl (impl_BatchText_t _ A16 p17 y14 _ o19.view (hs.hasG (k := 5) rfl) kT tT (hs.hasD (k := 3) rfl) _ h22) ?_
    rintro _ w ⟨rfl, hG⟩ a hk
    have hs := hs.call0 hG
    refine sm _ rfl hk rfl rfl rfl fun a hk => ?_
    refine sv (.string y21.1) hk rfl rfl rfl fun a hk => ?_
    refine sv (.int .i64 y21.2) hk rfl rfl rfl fun a hk => ?_
    refine sa _ rfl hk rfl rfl rfl fun a hk => ?_
    refine sa _ rfl hk rfl rfl rfl fun a hk => ?_
    show wpList _ _ _ [] _ _
    refine wpList_nil ?_
    refine hK20 _ _ ?_
    apply wp_seq_k; intro K23 hK23
    apply wp_region_lit
    refine sm _ rfl hk rfl rfl rfl fun a hk => ?_
    obtain ⟨y24, h25, H⟩ := bind_some H
    refine sc rfl en12 hk rfl rfl rfl (spec_BatchText_t _ A16 p17 y14 _ o19.view (hs.hasG (k := 5) rfl) _ h25) ?_
    rintro _ w ⟨rfl, hG⟩ a hk
    have hs := hs.call0 hG
    refine sm _ rfl hk rfl rfl rfl fun a hk => ?_
    refine sv (.string y24.1) hk rfl rfl rfl fun a hk => ?_
    refine sv (.int .i64 y24.2) hk rfl rfl rfl fun a hk => ?_
    refine sa _ rfl hk rfl rfl rfl fun a hk => ?_
    refine sa _ rfl hk rfl rfl rfl fun a hk => ?_
    show wpList _ _ _ [] _ _
    refine wpList_nil ?_
    refine hK23 _ _ ?_
    apply wp_seq_k; intro K26 hK26
    apply wp_region_lit
    refine sm _ rfl hk rfl rfl rfl fun a hk => ?_
    obtain ⟨y27, h28, H⟩ := bind_some H
    refine sc rfl en6 hk rfl rfl rfl (impl_ReadBatch_t _ y21.1 kT tT (hs.hasD (k := 3) rfl) _ h28) ?_
    rintro _ w ⟨A29, p30, k31, rfl, o32, hG⟩ a hk
    have hs := hs.call0k hG [6] rfl
    refine sm _ rfl hk rfl rfl rfl fun a hk => ?_
    refine sv (.slice A29 y27.1.length p30) hk rfl rfl rfl fun a hk => ?_
    refine sv (.int .i64 y27.2) hk rfl rfl rfl fun a hk => ?_
    refine sa _ rfl hk rfl rfl rfl fun a hk => ?_
    refine sa _ rfl hk rfl rfl rfl fun a hk => ?_
    show wpList _ _ _ [] _ _
    refine wpList_nil ?_
    refine hK26 _ _ ?_
    apply wp_seq_k; intro K33 hK33
    apply wp_region_lit
    refine sm _ rfl hk rfl rfl rfl fun a hk => ?_
    rcases ite_some H with ⟨c34, H⟩ | ⟨_, H⟩
    rotate_left
    ·cases H
    obtain ⟨b35, q36, hAc34⟩ := (o19.view).some_ (0 : Int) c34.1 c34.2
    refine si rfl hk rfl rfl rfl rfl un22 sz36 c34.1 c34.2 hAc34 fun a hk => ?_
    refine sf (padd A16 ((0 : Int).toNat * 1 + 0)) rfl hk rfl rfl rfl fd36_0 (padd_add _ _ _) fun a hk => ?_
    obtain ⟨_, ⟨_, rfl, A38, p39, rfl, v40⟩, e37⟩ := (o19.view).at_ z_Txn (0 : Int) c34.1 c34.2
    refine sl (v := (.slice A38 ((y14.getD (0 : Int).toNat z_Txn).Ops).length p39)) rfl hk rfl rfl rfl ag34 ((e37 0 _ rfl).cell (hs.hasG (k := 5) rfl)) fun a hk => ?_
    rcases ite_some H with ⟨c41, H⟩ | ⟨_, H⟩
    rotate_left
    ·cases H
    obtain ⟨b42, q43, hAc41⟩ := (v40).some_ (0 : Int) c41.1 c41.2
    refine si rfl hk rfl rfl rfl rfl un34 sz33 c41.1 c41.2 hAc41 fun a hk => ?_
    obtain ⟨_, rfl, e44⟩ := (v40).at_ z_Op (0 : Int) c41.1 c41.2
    refine sln [.int .i64 ((((y14.getD (0 : Int).toNat z_Txn).Ops).getD (0 : Int).toNat z_Op).Kind), .int .i64 ((((y14.getD (0 : Int).toNat z_Txn).Ops).getD (0 : Int).toNat z_Op).Key), .int .i64 ((((y14.getD (0 : Int).toNat z_Txn).Ops).getD (0 : Int).toNat z_Op).Value)] rfl hk rfl rfl rfl ag33 sz33 (cells_at e44 (hs.hasG (k := 5) rfl)) fun a hk => ?_
    refine salx 7 hs rfl hk rfl rfl ze33 rfl fun b45 w a hk hs => ?_
    refine ssw 7 hs rfl rfl hk rfl rfl rfl rfl sz33 (by simp [Value.oneCell']) rfl fun w a hk hs => ?_
    show wpList _ _ _ [] _ _
    refine wpList_nil ?_
    refine hK33 _ _ ?_
    have hs := hs.pick [(5, 5), (6, 6), (7, 7)] rfl
    apply wp_seq_k; intro K46 hK46
    apply wp_region_lit
    refine sln [.int .i64 ((((y14.getD (0 : Int).toNat z_Txn).Ops).getD (0 : Int).toNat z_Op).Kind), .int .i64 ((((y14.getD (0 : Int).toNat z_Txn).Ops).getD (0 : Int).toNat z_Op).Key), .int .i64 ((((y14.getD (0 : Int).toNat z_Txn).Ops).getD (0 : Int).toNat z_Op).Value)] rfl hk rfl rfl rfl ag33 sz33 (box_cells hs (k := 7) rfl) fun a hk => ?_
    obtain ⟨y47, h48, H⟩ := bind_some H
    refine sc rfl en13 hk rfl rfl rfl (impl_OpText_t _ (((y14.getD (0 : Int).toNat z_Txn).Ops).getD (0 : Int).toNat z_Op) kT tT (hs.hasD (k := 3) rfl) _ h48) ?_
    rintro _ w ⟨rfl, hG⟩ a hk
    have hs := hs.call0 hG
    refine sm _ rfl hk rfl rfl rfl fun a hk => ?_
    refine sv (.string y47.1) hk rfl rfl rfl fun a hk => ?_
    refine sv (.int .i64 y47.2) hk rfl rfl rfl fun a hk => ?_
    refine sa _ rfl hk rfl rfl rfl fun a hk => ?_
    refine sa _ rfl hk rfl rfl rfl fun a hk => ?_
    show wpList _ _ _ [] _ _
    refine wpList_nil ?_
    refine hK46 _ _ ?_
    apply wp_seq_k; intro K49 hK49
    apply wp_region_lit
    refine sm _ rfl hk rfl rfl rfl fun a hk => ?_
    obtain ⟨y50, h51, H⟩ := bind_some H
    refine sc rfl en14 hk rfl rfl rfl (impl_ReadOp_t _ y47.1 kT tT (hs.hasD (k := 3) rfl) _ h51) ?_
    rintro _ w ⟨rfl, hG⟩ a hk
    have hs := hs.call0 hG
    refine sm _ rfl hk rfl rfl rfl fun a hk => ?_
    refine sv (.agg #[.int .i64 y50.1.Kind, .int .i64 y50.1.Key, .int .i64 y50.1.Value]) hk rfl rfl rfl fun a hk => ?_
    refine sv (.int .i64 y50.2) hk rfl rfl rfl fun a hk => ?_
    refine salx 8 hs rfl hk rfl rfl ze33 rfl fun b52 w a hk hs => ?_
    refine ssw 8 hs rfl rfl hk rfl rfl rfl rfl sz33 (by simp [Value.oneCell']) rfl fun w a hk hs => ?_
    refine sa _ rfl hk rfl rfl rfl fun a hk => ?_
    show wpList _ _ _ [] _ _
    refine wpList_nil ?_
    refine hK49 _ _ ?_
    apply wp_seq_k; intro K53 hK53
    apply wp_region_lit
    refine sm _ rfl hk rfl rfl rfl fun a hk => ?_
    rcases ite_some H with ⟨c54, H⟩ | ⟨_, H⟩
    rotate_left
    ·cases H
    refine ssa rfl hk rfl rfl rfl rfl c54 fun a hk => ?_
    obtain ⟨y55, h56, H⟩ := bind_some H
    refine sc rfl en6 hk rfl rfl rfl (impl_ReadBatch_t _ (y21.1 ++ (⟨#[59]⟩ : ByteArray)) kT tT (hs.hasD (k := 3) rfl) _ h56) ?_
    rintro _ w ⟨A57, p58, k59, rfl, o60, hG⟩ a hk
    have hs := hs.call0k hG [9] rfl
    refine sm _ rfl hk rfl rfl rfl fun a hk => ?_
    refine sv (.slice A57 y55.1.length p58) hk rfl rfl rfl fun a hk => ?_
    refine sv (.int .i64 y55.2) hk rfl rfl rfl fun a hk => ?_
    refine sa _ rfl hk rfl rfl rfl fun a hk => ?_
    refine sa _ rfl hk rfl rfl rfl fun a hk => ?_
    show wpList _ _ _ [] _ _
    refine wpList_nil ?_
    refine hK53 _ _ ?_
    apply wp_seq_k; intro K61 hK61
    obtain ⟨o64, h65, HL66⟩ := bind_some H
    clear H
    obtain ⟨R67, hR67⟩ : ∃ R : Act → World → Prop, R = fun a w => ∃ (u63 : Bool), u63 = o64 ∧ Kn [(4, (.bool u63))] 107 a ∧ Sat [] w0 w [(1, k0_), (2, k1_), (3, kT)] [] := ⟨_, rfl⟩
    refine wp_cutq R67 ?_ ?_
    ·have H := h65
     apply wp_region_lit
     refine sm _ rfl hk rfl rfl rfl fun a hk => ?_
     refine sv (.bool (y21.2 == 0)) hk rfl rfl rfl fun a hk => ?_
     refine sm _ rfl hk rfl rfl rfl fun a hk => ?_
     rcases cond_some H with ⟨c68, H⟩ | ⟨c68, H⟩
     ·have hk := hk.lit 68 c68 rfl
      refine sm _ rfl hk rfl rfl rfl fun a hk => ?_
      refine sm _ rfl hk rfl rfl rfl fun a hk => ?_
      refine sv (.bool (y21.1.toList == y24.1.toList)) hk rfl rfl rfl fun a hk => ?_
      refine sv (.bool (y21.1.toList == y24.1.toList)) hk rfl rfl rfl fun a hk => ?_
      refine sm _ rfl hk rfl rfl rfl fun a hk => ?_
      rcases cond_some H with ⟨c69, H⟩ | ⟨c69, H⟩
      ·have hk := hk.lit 73 c69 rfl
       refine sm _ rfl hk rfl rfl rfl fun a hk => ?_
       refine sv (.bool (y27.2 == 0)) hk rfl rfl rfl fun a hk => ?_
       refine sv (.bool (y27.2 == 0)) hk rfl rfl rfl fun a hk => ?_
       refine sm _ rfl hk rfl rfl rfl fun a hk => ?_
       rcases cond_some H with ⟨c70, H⟩ | ⟨c70, H⟩
       ·have hk := hk.lit 77 c70 rfl
        refine sm _ rfl hk rfl rfl rfl fun a hk => ?_
        refine sm _ rfl hk rfl rfl rfl fun a hk => ?_
        obtain ⟨y71, h72, H⟩ := bind_some H
        refine sc rfl en15 hk rfl rfl rfl (impl_SameBatch_t _ A29 p30 y27.1 _ o32.view (hs.hasG (k := 6) rfl) A16 p17 y14 _ o19.view (hs.hasG (k := 5) rfl) _ h72) ?_
        rintro _ w ⟨rfl, hG⟩ a hk
        have hs := hs.call0 hG
        refine sv (.bool y71) hk rfl rfl rfl fun a hk => ?_
        refine sm _ rfl hk rfl rfl rfl fun a hk => ?_
        rcases cond_some H with ⟨c73, H⟩ | ⟨c73, H⟩
        ·have hk := hk.lit 82 c73 rfl
         refine sm _ rfl hk rfl rfl rfl fun a hk => ?_
         refine sv (.bool (y47.2 == 0)) hk rfl rfl rfl fun a hk => ?_
         refine sv (.bool (y47.2 == 0)) hk rfl rfl rfl fun a hk => ?_
         refine sm _ rfl hk rfl rfl rfl fun a hk => ?_
         rcases cond_some H with ⟨c74, H⟩ | ⟨c74, H⟩
         ·have hk := hk.lit 86 c74 rfl
          refine sm _ rfl hk rfl rfl rfl fun a hk => ?_
          refine sv (.bool (y50.2 == 0)) hk rfl rfl rfl fun a hk => ?_
          refine sv (.bool (y50.2 == 0)) hk rfl rfl rfl fun a hk => ?_
          refine sm _ rfl hk rfl rfl rfl fun a hk => ?_
          rcases cond_some H with ⟨c75, H⟩ | ⟨c75, H⟩
          ·have hk := hk.lit 90 c75 rfl
           refine sln [.int .i64 y50.1.Kind, .int .i64 y50.1.Key, .int .i64 y50.1.Value] rfl hk rfl rfl rfl ag33 sz33 (box_cells hs (k := 8) rfl) fun a hk => ?_
           refine sln [.int .i64 ((((y14.getD (0 : Int).toNat z_Txn).Ops).getD (0 : Int).toNat z_Op).Kind), .int .i64 ((((y14.getD (0 : Int).toNat z_Txn).Ops).getD (0 : Int).toNat z_Op).Key), .int .i64 ((((y14.getD (0 : Int).toNat z_Txn).Ops).getD (0 : Int).toNat z_Op).Value)] rfl hk rfl rfl rfl ag33 sz33 (box_cells hs (k := 7) rfl) fun a hk => ?_
           refine seqa (r := ((y50.1.Kind == ((((y14.getD (0 : Int).toNat z_Txn).Ops).getD (0 : Int).toNat z_Op).Kind)) && ((y50.1.Key == ((((y14.getD (0 : Int).toNat z_Txn).Ops).getD (0 : Int).toNat z_Op).Key)) && ((y50.1.Value == ((((y14.getD (0 : Int).toNat z_Txn).Ops).getD (0 : Int).toNat z_Op).Value)) && true)))) rfl hk rfl rfl rfl rfl eg33 (eq_agg Tryz.underlying33 sh33 (eqf_cons rfl ag3 rfl rfl (run_equalIn_int _ _ _ _ _ _ _ un3) (eqf_cons rfl ag3 rfl rfl (run_equalIn_int _ _ _ _ _ _ _ un3) (eqf_cons rfl ag3 rfl rfl (run_equalIn_int _ _ _ _ _ _ _ un3) eqf_nil)))) fun a hk => ?_
           refine sv (.bool ((y50.1.Kind == ((((y14.getD (0 : Int).toNat z_Txn).Ops).getD (0 : Int).toNat z_Op).Kind)) && ((y50.1.Key == ((((y14.getD (0 : Int).toNat z_Txn).Ops).getD (0 : Int).toNat z_Op).Key)) && ((y50.1.Value == ((((y14.getD (0 : Int).toNat z_Txn).Ops).getD (0 : Int).toNat z_Op).Value)) && true)))) hk rfl rfl rfl fun a hk => ?_
           refine sm _ rfl hk rfl rfl rfl fun a hk => ?_
           rcases cond_some H with ⟨c76, H⟩ | ⟨c76, H⟩
           ·have hk := hk.lit 95 c76 rfl
            refine sln [.int .i64 ((((y14.getD (0 : Int).toNat z_Txn).Ops).getD (0 : Int).toNat z_Op).Kind), .int .i64 ((((y14.getD (0 : Int).toNat z_Txn).Ops).getD (0 : Int).toNat z_Op).Key), .int .i64 ((((y14.getD (0 : Int).toNat z_Txn).Ops).getD (0 : Int).toNat z_Op).Value)] rfl hk rfl rfl rfl ag33 sz33 (box_cells hs (k := 7) rfl) fun a hk => ?_
            obtain ⟨y77, h78, H⟩ := bind_some H
            refine sc rfl en16 hk rfl rfl rfl (impl_OpOK_t _ (((y14.getD (0 : Int).toNat z_Txn).Ops).getD (0 : Int).toNat z_Op) _ h78) ?_
            rintro _ w ⟨rfl, hG⟩ a hk
            have hs := hs.call0 hG
            refine sv (.bool y77) hk rfl rfl rfl fun a hk => ?_
            refine sm _ rfl hk rfl rfl rfl fun a hk => ?_
            rcases cond_some H with ⟨c79, H⟩ | ⟨c79, H⟩
            ·have hk := hk.lit 99 c79 rfl
             refine sm _ rfl hk rfl rfl rfl fun a hk => ?_
             refine sv (.bool (y55.2 == 3)) hk rfl rfl rfl fun a hk => ?_
             refine sv (.bool (y55.2 == 3)) hk rfl rfl rfl fun a hk => ?_
             refine sm _ rfl hk rfl rfl rfl fun a hk => ?_
             rcases cond_some H with ⟨c80, H⟩ | ⟨c80, H⟩
             ·have hk := hk.lit 103 c80 rfl
              refine sm _ rfl hk rfl rfl rfl fun a hk => ?_
              obtain ⟨y81, h82, H⟩ := bind_some H
              refine sc rfl en17 hk rfl rfl rfl (impl_BatchOK_t _ A16 p17 y14 _ o19.view (hs.hasG (k := 5) rfl) _ h82) ?_
              rintro _ w ⟨rfl, hG⟩ a hk
              have hs := hs.call0 hG
              refine sv (.bool y81) hk rfl rfl rfl fun a hk => ?_
              refine sa _ rfl hk rfl rfl rfl fun a hk => ?_
              show wpList _ _ _ [] _ _
              refine wpList_nil ?_
              obtain rfl := Option.some.inj H
              show R67 _ _
              rw [hR67]
              exact ⟨y81, rfl, (hk.c 4 rfl hk.k), (hs.pick [] rfl)⟩
             ·have hk := hk.lit 103 c80 rfl
              refine sk hk rfl rfl rfl fun a hk => ?_
              refine sk hk rfl rfl rfl fun a hk => ?_
              refine sv (.bool false) hk rfl rfl rfl fun a hk => ?_
              refine sa _ rfl hk rfl rfl rfl fun a hk => ?_
              show wpList _ _ _ [] _ _
              refine wpList_nil ?_
              obtain rfl := Option.some.inj H
              show R67 _ _
              rw [hR67]
              exact ⟨false, rfl, (hk.c 4 rfl hk.k), (hs.pick [] rfl)⟩
            ·have hk := hk.lit 99 c79 rfl
             refine sk hk rfl rfl rfl fun a hk => ?_
             refine sk hk rfl rfl rfl fun a hk => ?_
             refine sv (.bool false) hk rfl rfl rfl fun a hk => ?_
             refine sm _ rfl hk rfl rfl rfl fun a hk => ?_
             refine sk hk rfl rfl rfl fun a hk => ?_
             refine sk hk rfl rfl rfl fun a hk => ?_
             refine sv (.bool false) hk rfl rfl rfl fun a hk => ?_
             refine sa _ rfl hk rfl rfl rfl fun a hk => ?_
             show wpList _ _ _ [] _ _
             refine wpList_nil ?_
             obtain rfl := Option.some.inj H
             show R67 _ _
             rw [hR67]
             exact ⟨false, rfl, (hk.c 4 rfl hk.k), (hs.pick [] rfl)⟩
           ·have hk := hk.lit 95 c76 rfl
            refine sk hk rfl rfl rfl fun a hk => ?_
            refine sk hk rfl rfl rfl fun a hk => ?_
            refine sv (.bool false) hk rfl rfl rfl fun a hk => ?_
            refine sm _ rfl hk rfl rfl rfl fun a hk => ?_
            refine sk hk rfl rfl rfl fun a hk => ?_
            refine sk hk rfl rfl rfl fun a hk => ?_
            refine sv (.bool false) hk rfl rfl rfl fun a hk => ?_
            refine sm _ rfl hk rfl rfl rfl fun a hk => ?_
            refine sk hk rfl rfl rfl fun a hk => ?_
            refine sk hk rfl rfl rfl fun a hk => ?_
            refine sv (.bool false) hk rfl rfl rfl fun a hk => ?_
            refine sa _ rfl hk rfl rfl rfl fun a hk => ?_
            show wpList _ _ _ [] _ _
            refine wpList_nil ?_
            obtain rfl := Option.some.inj H
            show R67 _ _
            rw [hR67]
            exact ⟨false, rfl, (hk.c 4 rfl hk.k), (hs.pick [] rfl)⟩
          ·have hk := hk.lit 90 c75 rfl
           refine sk hk rfl rfl rfl fun a hk => ?_
           refine sk hk rfl rfl rfl fun a hk => ?_
           refine sk hk rfl rfl rfl fun a hk => ?_
           refine sv (.bool false) hk rfl rfl rfl fun a hk => ?_
           refine sm _ rfl hk rfl rfl rfl fun a hk => ?_
           refine sk hk rfl rfl rfl fun a hk => ?_
           refine sk hk rfl rfl rfl fun a hk => ?_
           refine sv (.bool false) hk rfl rfl rfl fun a hk => ?_
           refine sm _ rfl hk rfl rfl rfl fun a hk => ?_
           refine sk hk rfl rfl rfl fun a hk => ?_
           refine sk hk rfl rfl rfl fun a hk => ?_
           refine sv (.bool false) hk rfl rfl rfl fun a hk => ?_
           refine sm _ rfl hk rfl rfl rfl fun a hk => ?_
           refine sk hk rfl rfl rfl fun a hk => ?_
           refine sk hk rfl rfl rfl fun a hk => ?_
           refine sv (.bool false) hk rfl rfl rfl fun a hk => ?_
           refine sa _ rfl hk rfl rfl rfl fun a hk => ?_
           show wpList _ _ _ [] _ _
           refine wpList_nil ?_
           obtain rfl := Option.some.inj H
           show R67 _ _
           rw [hR67]
           exact ⟨false, rfl, (hk.c 4 rfl hk.k), (hs.pick [] rfl)⟩
         ·have hk := hk.lit 86 c74 rfl
          refine sk hk rfl rfl rfl fun a hk => ?_
          refine sk hk rfl rfl rfl fun a hk => ?_
          refine sv (.bool false) hk rfl rfl rfl fun a hk => ?_
          refine sm _ rfl hk rfl rfl rfl fun a hk => ?_
          refine sk hk rfl rfl rfl fun a hk => ?_
          refine sk hk rfl rfl rfl fun a hk => ?_
          refine sk hk rfl rfl rfl fun a hk => ?_
          refine sv (.bool false) hk rfl rfl rfl fun a hk => ?_
          refine sm _ rfl hk rfl rfl rfl fun a hk => ?_
          refine sk hk rfl rfl rfl fun a hk => ?_
          refine sk hk rfl rfl rfl fun a hk => ?_
          refine sv (.bool false) hk rfl rfl rfl fun a hk => ?_
          refine sm _ rfl hk rfl rfl rfl fun a hk => ?_
          refine sk hk rfl rfl rfl fun a hk => ?_
          refine sk hk rfl rfl rfl fun a hk => ?_
          refine sv (.bool false) hk rfl rfl rfl fun a hk => ?_
          refine sm _ rfl hk rfl rfl rfl fun a hk => ?_
          refine sk hk rfl rfl rfl fun a hk => ?_
          refine sk hk rfl rfl rfl fun a hk => ?_
          refine sv (.bool false) hk rfl rfl rfl fun a hk => ?_
          refine sa _ rfl hk rfl rfl rfl fun a hk => ?_
          show wpList _ _ _ [] _ _
          refine wpList_nil ?_
          obtain rfl := Option.some.inj H
          show R67 _ _
          rw [hR67]
          exact ⟨false, rfl, (hk.c 4 rfl hk.k), (hs.pick [] rfl)⟩
        ·have hk := hk.lit 82 c73 rfl
         refine sk hk rfl rfl rfl fun a hk => ?_
         refine sk hk rfl rfl rfl fun a hk => ?_
         refine sv (.bool false) hk rfl rfl rfl fun a hk => ?_
         refine sm _ rfl hk rfl rfl rfl fun a hk => ?_
         refine sk hk rfl rfl rfl fun a hk => ?_
         refine sk hk rfl rfl rfl fun a hk => ?_
         refine sv (.bool false) hk rfl rfl rfl fun a hk => ?_
         refine sm _ rfl hk rfl rfl rfl fun a hk => ?_
         refine sk hk rfl rfl rfl fun a hk => ?_
         refine sk hk rfl rfl rfl fun a hk => ?_
         refine sk hk rfl rfl rfl fun a hk => ?_
         refine sv (.bool false) hk rfl rfl rfl fun a hk => ?_
         refine sm _ rfl hk rfl rfl rfl fun a hk => ?_
         refine sk hk rfl rfl rfl fun a hk => ?_
         refine sk hk rfl rfl rfl fun a hk => ?_
         refine sv (.bool false) hk rfl rfl rfl fun a hk => ?_
         refine sm _ rfl hk rfl rfl rfl fun a hk => ?_
         refine sk hk rfl rfl rfl fun a hk => ?_
         refine sk hk rfl rfl rfl fun a hk => ?_
         refine sv (.bool false) hk rfl rfl rfl fun a hk => ?_
         refine sm _ rfl hk rfl rfl rfl fun a hk => ?_
         refine sk hk rfl rfl rfl fun a hk => ?_
         refine sk hk rfl rfl rfl fun a hk => ?_
         refine sv (.bool false) hk rfl rfl rfl fun a hk => ?_
         refine sa _ rfl hk rfl rfl rfl fun a hk => ?_
         show wpList _ _ _ [] _ _
         refine wpList_nil ?_
         obtain rfl := Option.some.inj H
         show R67 _ _
         rw [hR67]
         exact ⟨false, rfl, (hk.c 4 rfl hk.k), (hs.pick [] rfl)⟩
       ·have hk := hk.lit 77 c70 rfl
        refine sk hk rfl rfl rfl fun a hk => ?_
        refine sk hk rfl rfl rfl fun a hk => ?_
        refine sk hk rfl rfl rfl fun a hk => ?_
        refine sv (.bool false) hk rfl rfl rfl fun a hk => ?_
        refine sm _ rfl hk rfl rfl rfl fun a hk => ?_
        refine sk hk rfl rfl rfl fun a hk => ?_
        refine sk hk rfl rfl rfl fun a hk => ?_
        refine sv (.bool false) hk rfl rfl rfl fun a hk => ?_
        refine sm _ rfl hk rfl rfl rfl fun a hk => ?_
        refine sk hk rfl rfl rfl fun a hk => ?_
        refine sk hk rfl rfl rfl fun a hk => ?_
        refine sv (.bool false) hk rfl rfl rfl fun a hk => ?_
        refine sm _ rfl hk rfl rfl rfl fun a hk => ?_
        refine sk hk rfl rfl rfl fun a hk => ?_
        refine sk hk rfl rfl rfl fun a hk => ?_
        refine sk hk rfl rfl rfl fun a hk => ?_
        refine sv (.bool false) hk rfl rfl rfl fun a hk => ?_
        refine sm _ rfl hk rfl rfl rfl fun a hk => ?_
        refine sk hk rfl rfl rfl fun a hk => ?_
        refine sk hk rfl rfl rfl fun a hk => ?_
        refine sv (.bool false) hk rfl rfl rfl fun a hk => ?_
        refine sm _ rfl hk rfl rfl rfl fun a hk => ?_
        refine sk hk rfl rfl rfl fun a hk => ?_
        refine sk hk rfl rfl rfl fun a hk => ?_
        refine sv (.bool false) hk rfl rfl rfl fun a hk => ?_
        refine sm _ rfl hk rfl rfl rfl fun a hk => ?_
        refine sk hk rfl rfl rfl fun a hk => ?_
        refine sk hk rfl rfl rfl fun a hk => ?_
        refine sv (.bool false) hk rfl rfl rfl fun a hk => ?_
        refine sa _ rfl hk rfl rfl rfl fun a hk => ?_
        show wpList _ _ _ [] _ _
        refine wpList_nil ?_
        obtain rfl := Option.some.inj H
        show R67 _ _
        rw [hR67]
        exact ⟨false, rfl, (hk.c 4 rfl hk.k), (hs.pick [] rfl)⟩
      ·have hk := hk.lit 73 c69 rfl
       refine sk hk rfl rfl rfl fun a hk => ?_
       refine sk hk rfl rfl rfl fun a hk => ?_
       refine sv (.bool false) hk rfl rfl rfl fun a hk => ?_
       refine sm _ rfl hk rfl rfl rfl fun a hk => ?_
       refine sk hk rfl rfl rfl fun a hk => ?_
       refine sk hk rfl rfl rfl fun a hk => ?_
       refine sk hk rfl rfl rfl fun a hk => ?_
       refine sv (.bool false) hk rfl rfl rfl fun a hk => ?_
       refine sm _ rfl hk rfl rfl rfl fun a hk => ?_
       refine sk hk rfl rfl rfl fun a hk => ?_
       refine sk hk rfl rfl rfl fun a hk => ?_
       refine sv (.bool false) hk rfl rfl rfl fun a hk => ?_
       refine sm _ rfl hk rfl rfl rfl fun a hk => ?_
       refine sk hk rfl rfl rfl fun a hk => ?_
       refine sk hk rfl rfl rfl fun a hk => ?_
       refine sv (.bool false) hk rfl rfl rfl fun a hk => ?_
       refine sm _ rfl hk rfl rfl rfl fun a hk => ?_
       refine sk hk rfl rfl rfl fun a hk => ?_
       refine sk hk rfl rfl rfl fun a hk => ?_
       refine sk hk rfl rfl rfl fun a hk => ?_
       refine sv (.bool false) hk rfl rfl rfl fun a hk => ?_
       refine sm _ rfl hk rfl rfl rfl fun a hk => ?_
       refine sk hk rfl rfl rfl fun a hk => ?_
       refine sk hk rfl rfl rfl fun a hk => ?_
       refine sv (.bool false) hk rfl rfl rfl fun a hk => ?_
       refine sm _ rfl hk rfl rfl rfl fun a hk => ?_
       refine sk hk rfl rfl rfl fun a hk => ?_
       refine sk hk rfl rfl rfl fun a hk => ?_
       refine sv (.bool false) hk rfl rfl rfl fun a hk => ?_
       refine sm _ rfl hk rfl rfl rfl fun a hk => ?_
       refine sk hk rfl rfl rfl fun a hk => ?_
       refine sk hk rfl rfl rfl fun a hk => ?_
       refine sv (.bool false) hk rfl rfl rfl fun a hk => ?_
       refine sa _ rfl hk rfl rfl rfl fun a hk => ?_
       show wpList _ _ _ [] _ _
       refine wpList_nil ?_
       obtain rfl := Option.some.inj H
       show R67 _ _
       rw [hR67]
       exact ⟨false, rfl, (hk.c 4 rfl hk.k), (hs.pick [] rfl)⟩
     ·have hk := hk.lit 68 c68 rfl
      refine sk hk rfl rfl rfl fun a hk => ?_
      refine sk hk rfl rfl rfl fun a hk => ?_
      refine sk hk rfl rfl rfl fun a hk => ?_
      refine sv (.bool false) hk rfl rfl rfl fun a hk => ?_
      refine sm _ rfl hk rfl rfl rfl fun a hk => ?_
      refine sk hk rfl rfl rfl fun a hk => ?_
      refine sk hk rfl rfl rfl fun a hk => ?_
      refine sv (.bool false) hk rfl rfl rfl fun a hk => ?_
      refine sm _ rfl hk rfl rfl rfl fun a hk => ?_
      refine sk hk rfl rfl rfl fun a hk => ?_
      refine sk hk rfl rfl rfl fun a hk => ?_
      refine sk hk rfl rfl rfl fun a hk => ?_
      refine sv (.bool false) hk rfl rfl rfl fun a hk => ?_
      refine sm _ rfl hk rfl rfl rfl fun a hk => ?_
      refine sk hk rfl rfl rfl fun a hk => ?_
      refine sk hk rfl rfl rfl fun a hk => ?_
      refine sv (.bool false) hk rfl rfl rfl fun a hk => ?_
      refine sm _ rfl hk rfl rfl rfl fun a hk => ?_
      refine sk hk rfl rfl rfl fun a hk => ?_
      refine sk hk rfl rfl rfl fun a hk => ?_
      refine sv (.bool false) hk rfl rfl rfl fun a hk => ?_
      refine sm _ rfl hk rfl rfl rfl fun a hk => ?_
      refine sk hk rfl rfl rfl fun a hk => ?_
      refine sk hk rfl rfl rfl fun a hk => ?_
      refine sk hk rfl rfl rfl fun a hk => ?_
      refine sv (.bool false) hk rfl rfl rfl fun a hk => ?_
      refine sm _ rfl hk rfl rfl rfl fun a hk => ?_
      refine sk hk rfl rfl rfl fun a hk => ?_
      refine sk hk rfl rfl rfl fun a hk => ?_
      refine sv (.bool false) hk rfl rfl rfl fun a hk => ?_
      refine sm _ rfl hk rfl rfl rfl fun a hk => ?_
      refine sk hk rfl rfl rfl fun a hk => ?_
      refine sk hk rfl rfl rfl fun a hk => ?_
      refine sv (.bool false) hk rfl rfl rfl fun a hk => ?_
      refine sm _ rfl hk rfl rfl rfl fun a hk => ?_
      refine sk hk rfl rfl rfl fun a hk => ?_
      refine sk hk rfl rfl rfl fun a hk => ?_
      refine sv (.bool false) hk rfl rfl rfl fun a hk => ?_
      refine sa _ rfl hk rfl rfl rfl fun a hk => ?_
      show wpList _ _ _ [] _ _
      refine wpList_nil ?_
      obtain rfl := Option.some.inj H
      show R67 _ _
      rw [hR67]
      exact ⟨false, rfl, (hk.c 4 rfl hk.k), (hs.pick [] rfl)⟩
    ·intro a w hR0
     rw [hR67] at hR0
     obtain ⟨u63, rfl, hk, hs⟩ := hR0
     have H := HL66
     try dsimp only at H
     refine hK61 _ _ ?_
     have hs := hs.pick [] rfl
     refine wp_ret ?_
     obtain rfl := Option.some.inj H
     exact fin hk _ [(.bool u63)] rfl ⟨rfl, trivial⟩ ⟨rfl, (hs.pick [] rfl).dnil⟩

end Go.Proofs.YtfjhdkmdidadiaaGreatDoor
