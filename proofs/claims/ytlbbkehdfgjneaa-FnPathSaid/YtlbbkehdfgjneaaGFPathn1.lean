/- Further functions. -/
import Derived.Test.YtlbbkehdfgjneaaGFPath
namespace Go.Proofs.Ytlbbkehdfgjneaa
open Go Go.Z Go.Proofs Go.MuLone Go.ChangeShapes Go.WideShapes Go.ChangeAt Go.RowKit
set_option linter.unusedVariables false
set_option linter.unusedSimpArgs false
noncomputable def impl_Oram_valueAt.s0 (x1 : Int) (y5 : (List S_Block)) (u13 : Int) : Option ((Int) ⊕ Ex (Unit) (Int)) :=
  (bif (decide (u13 < (y5.length : Int))) then (if 0 ≤ u13 ∧ u13 < (y5.length : Int) then (bif (((y5.getD u13.toNat z_Block).Id) == x1) then (some (.inr (.ret ((y5.getD u13.toNat z_Block).Value)))) else (some (.inl (w64 (u13 + 1))))) else none) else (some (.inr (.out ()))))
noncomputable def impl_Oram_valueAt.f (x0 : S_Oram) (x1 : Int) : Option (Int) :=
  ((impl_Oram_all.f x0).bind fun y5 => ((loopO (fun s => impl_Oram_valueAt.s0 x1 y5 s) 0).bind fun o => match o with | .out _ => (some 0) | .ret r => (some r)))
set_option maxRecDepth 100000 in
set_option maxHeartbeats 0 in
theorem impl_Oram_valueAt_t (w0 : World) (x0 : S_Oram) (A0_0 : Option Addr) (p0_0 : Nat) (k0_0 : Chunk) (v0_0 : View (Lay.int .i64) A0_0 p0_0 x0.Pos k0_0) (w0_0 : Has w0 k0_0) (A0_1 : Option Addr) (p0_1 : Nat) (k0_1 : Chunk) (v0_1 : View L_Block A0_1 p0_1 x0.Stash k0_1) (w0_1 : Has w0 k0_1) (A0_2 : Option Addr) (p0_2 : Nat) (k0_2 : Chunk) (v0_2 : View (Lay.sl L_Block 146) A0_2 p0_2 x0.Buckets k0_2) (w0_2 : Has w0 k0_2) (x1 : Int) (r : Int) (H : impl_Oram_valueAt.f x0 x1 = some r) :
    Calls Try.prog 116 #[.agg #[.slice A0_0 x0.Pos.length p0_0, .slice A0_1 x0.Stash.length p0_1, .slice A0_2 x0.Buckets.length p0_2], .int .i64 x1] w0 (Ret (fun v w => v = .int .i64 r ∧ Sat [] w0 w [] [])) := by
  have hs : Sat [] w0 w0 [(1, k0_0), (2, k0_1), (3, k0_2)] [] := Sat.init w0 [(1, k0_0), (2, k0_1), (3, k0_2)] [] (by simp only [List.mem_cons, List.not_mem_nil, or_false]; rintro x (rfl | rfl | rfl) <;> assumption) (by simp) List.nodup_nil (by simp [blks])
  unfold impl_Oram_valueAt.f at H
  refine enter Try.func116 rfl Try.ntmps116 rfl fun a hk => ?_
  apply wp_seq_k; intro K1 hK1
  apply wp_region_lit
  refine sbx 4 hs rfl hk rfl rfl rfl rfl fun b2 w a hk hs => ?_
  refine sa _ rfl hk rfl rfl rfl fun a hk => ?_
  show wpList _ _ _ [] _ _
  refine wpList_nil ?_
  refine hK1 _ _ ?_
  apply wp_seq_k; intro K3 hK3
  apply wp_seq_k; intro K4 hK4
  apply wp_region_lit
  refine sln [.slice A0_0 x0.Pos.length p0_0, .slice A0_1 x0.Stash.length p0_1, .slice A0_2 x0.Buckets.length p0_2] rfl hk rfl rfl rfl ag88 sz88 (box_cells hs (k := 4) rfl) fun a hk => ?_
  obtain ⟨y5, h6, H⟩ := bind_some H
  refine sc rfl en157 hk rfl rfl rfl (impl_Oram_all_t _ x0 A0_0 p0_0 _ v0_0 (hs.hasD (k := 1) rfl) A0_1 p0_1 _ v0_1 (hs.hasD (k := 2) rfl) A0_2 p0_2 _ v0_2 (hs.hasD (k := 3) rfl) _ h6) ?_
  rintro _ w ⟨A7, p8, k9, rfl, o10, hG⟩ a hk
  have hs := hs.call0k hG [5] rfl
  refine sle rfl hk rfl rfl rfl un85 fun a hk => ?_
  refine sm _ rfl hk rfl rfl rfl fun a hk => ?_
  show wpList _ _ _ [] _ _
  refine wpList_nil ?_
  refine hK4 _ _ ?_
  obtain ⟨o14, h15, HL16⟩ := bind_some H
  clear H
  obtain ⟨R17, hR17⟩ : ∃ R : Act → World → Prop, R = fun a w => o14 = .out () ∧ Kn [] 21 a ∧ Sat [] w0 w [(1, k0_0), (2, k0_1), (3, k0_2)] [] := ⟨_, rfl⟩
  refine wp_cutq R17 ?_ ?_
  · refine wp_block ?_
    obtain ⟨fu19, h15⟩ := loopO_some h15
    obtain ⟨I18, hI18⟩ : ∃ I : Nat → Act → World → Prop, I = fun fu a w => ∃ (u13 : Int), loopN (fun s => impl_Oram_valueAt.s0 x1 y5 s) fu u13 = some o14 ∧ Kn [(1, (.int .i64 x1)), (8, (.slice A7 y5.length p8)), (9, (.int .i64 (y5.length : Int))), (10, (.int .i64 u13))] 21 a ∧ Sat [] w0 w [(1, k0_0), (2, k0_1), (3, k0_2)] [(5, k9)] := ⟨_, rfl⟩
    refine wp_loop_ghost I18 fu19 ?_ ?_
    · rw [hI18]
      exact ⟨0, h15, (hk.c 1 rfl (hk.c 8 rfl (hk.c 9 rfl (hk.c 10 rfl hk.k)))), (hs.pick [(5, 5)] rfl)⟩
    · clear h15 hk hs
      intro fu19 a w hI0
      rw [hI18] at hI0
      obtain ⟨u13, hi, hk, hs⟩ := hI0
      obtain ⟨x20, H, h21⟩ := loop_round hi
      try dsimp only at H
      unfold impl_Oram_valueAt.s0 at H
      apply wp_seq_k; intro K22 hK22
      apply wp_region_lit
      refine sv (.bool (decide (u13 < (y5.length : Int)))) hk rfl rfl rfl fun a hk => ?_
      show wpList _ _ _ [] _ _
      refine wpList_nil ?_
      refine hK22 _ _ ?_
      apply wp_seq_k; intro K23 hK23
      rcases cond_some H with ⟨c24, H⟩ | ⟨c24, H⟩
      · have hk := hk.lit 11 c24 rfl
        refine cnd_true hk rfl rfl ?_
        refine wp_skip ?_
        refine hK23 _ _ ?_
        apply wp_seq_k; intro K25 hK25
        refine wp_block ?_
        apply wp_seq_k; intro K26 hK26
        apply wp_region_lit
        rcases ite_some H with ⟨c27, H⟩ | ⟨_, H⟩
        rotate_left
        · cases H
        obtain ⟨b28, q29, hAc27⟩ := (o10.view).some_ u13 c27.1 c27.2
        refine si rfl hk rfl rfl rfl rfl un85 sz146 c27.1 c27.2 hAc27 fun a hk => ?_
        obtain ⟨_, rfl, e30⟩ := (o10.view).at_ z_Block u13 c27.1 c27.2
        refine sln [.int .i64 ((y5.getD u13.toNat z_Block).Id), .int .i64 ((y5.getD u13.toNat z_Block).Leaf), .int .i64 ((y5.getD u13.toNat z_Block).Value)] rfl hk rfl rfl rfl ag146 sz146 (cells_at e30 (hs.hasG (k := 5) rfl)) fun a hk => ?_
        refine salx 7 hs rfl hk rfl rfl ze146 rfl fun b31 w a hk hs => ?_
        refine ssw 7 hs rfl rfl hk rfl rfl rfl rfl sz146 (by simp [Value.oneCell']) rfl fun w a hk hs => ?_
        show wpList _ _ _ [] _ _
        refine wpList_nil ?_
        refine hK26 _ _ ?_
        apply wp_seq_k; intro K32 hK32
        apply wp_region_lit
        refine sf ⟨b31, 0, none⟩ rfl hk rfl rfl rfl fd146_0 rfl fun a hk => ?_
        refine sl rfl hk rfl rfl rfl ag3 (box_cell hs (k := 7) rfl rfl) fun a hk => ?_
        refine sm _ rfl hk rfl rfl rfl fun a hk => ?_
        refine sv (.bool (((y5.getD u13.toNat z_Block).Id) == x1)) hk rfl rfl rfl fun a hk => ?_
        show wpList _ _ _ [] _ _
        refine wpList_nil ?_
        refine hK32 _ _ ?_
        rcases cond_some H with ⟨c33, H⟩ | ⟨c33, H⟩
        · have hk := hk.lit 17 c33 rfl
          refine cnd_true hk rfl rfl ?_
          apply wp_seq_k; intro K34 hK34
          apply wp_region_lit
          refine sf ⟨b31, 2, none⟩ rfl hk rfl rfl rfl fd146_2 rfl fun a hk => ?_
          refine sl rfl hk rfl rfl rfl ag3 (box_cell hs (k := 7) rfl rfl) fun a hk => ?_
          refine sa _ rfl hk rfl rfl rfl fun a hk => ?_
          show wpList _ _ _ [] _ _
          refine wpList_nil ?_
          refine hK34 _ _ ?_
          refine wp_ret ?_
          obtain rfl := Option.some.inj H
          have ho14 := h21
          try dsimp only at ho14
          subst ho14
          have H := HL16
          try dsimp only at H
          obtain rfl := Option.some.inj H
          exact fin hk _ [(.int .i64 ((y5.getD u13.toNat z_Block).Value))] rfl ⟨rfl, trivial⟩ ⟨rfl, (hs.pick [] rfl).dnil⟩
        · have hk := hk.lit 17 c33 rfl
          refine cnd_false hk rfl rfl ?_
          refine wp_skip ?_
          refine hK25 _ _ ?_
          apply wp_region_lit
          refine sv (.int .i64 (w64 (u13 + 1))) hk rfl rfl rfl fun a hk => ?_
          refine sm _ rfl hk rfl rfl rfl fun a hk => ?_
          show wpList _ _ _ [] _ _
          refine wpList_nil ?_
          obtain rfl := Option.some.inj H
          obtain ⟨m35, hmm35, h21⟩ := h21
          show ∃ n', n' < _ ∧ I18 n' _ _
          refine ⟨m35, hmm35, ?_⟩
          rw [hI18]
          exact ⟨(w64 (u13 + 1)), h21, (hk.c 1 rfl (hk.c 8 rfl (hk.c 9 rfl (hk.c 10 rfl hk.k)))), (hs.pick [(5, 5)] rfl)⟩
      · have hk := hk.lit 11 c24 rfl
        refine cnd_false hk rfl rfl ?_
        refine wp_exit ?_
        obtain rfl := Option.some.inj H
        show R17 _ _
        rw [hR17]
        exact ⟨h21.symm, hk.k, (hs.pick [] rfl)⟩
  · intro a w hR0
    rw [hR17] at hR0
    obtain ⟨rfl, hk, hs⟩ := hR0
    have H := HL16
    try dsimp only at H
    refine hK3 _ _ ?_
    apply wp_seq_k; intro K36 hK36
    apply wp_region_lit
    refine sa _ rfl hk rfl rfl rfl fun a hk => ?_
    show wpList _ _ _ [] _ _
    refine wpList_nil ?_
    refine hK36 _ _ ?_
    refine wp_ret ?_
    obtain rfl := Option.some.inj H
    exact fin hk _ [(.int .i64 0)] rfl ⟨rfl, trivial⟩ ⟨rfl, (hs.pick [] rfl).dnil⟩

noncomputable def impl_ValueAt.f (x0 : S_Oram) (x1 : Int) : Option (Int × Int) :=
  ((impl_idCode.f x0 x1).bind fun y5 => (bif (y5 != 0) then (some (0, y5)) else ((impl_Oram_valueAt.f x0 x1).bind fun y11 => (some (y11, 0)))))
set_option maxRecDepth 100000 in
set_option maxHeartbeats 0 in
theorem impl_ValueAt_t (w0 : World) (x0 : S_Oram) (A0_0 : Option Addr) (p0_0 : Nat) (k0_0 : Chunk) (v0_0 : View (Lay.int .i64) A0_0 p0_0 x0.Pos k0_0) (w0_0 : Has w0 k0_0) (A0_1 : Option Addr) (p0_1 : Nat) (k0_1 : Chunk) (v0_1 : View L_Block A0_1 p0_1 x0.Stash k0_1) (w0_1 : Has w0 k0_1) (A0_2 : Option Addr) (p0_2 : Nat) (k0_2 : Chunk) (v0_2 : View (Lay.sl L_Block 146) A0_2 p0_2 x0.Buckets k0_2) (w0_2 : Has w0 k0_2) (x1 : Int) (r : Int × Int) (H : impl_ValueAt.f x0 x1 = some r) :
    Calls Try.prog 55 #[.agg #[.slice A0_0 x0.Pos.length p0_0, .slice A0_1 x0.Stash.length p0_1, .slice A0_2 x0.Buckets.length p0_2], .int .i64 x1] w0 (Ret (fun v w => v = .tuple #[.int .i64 r.1, .int .i64 r.2] ∧ Sat [] w0 w [] [])) := by
  have hs : Sat [] w0 w0 [(1, k0_0), (2, k0_1), (3, k0_2)] [] := Sat.init w0 [(1, k0_0), (2, k0_1), (3, k0_2)] [] (by simp only [List.mem_cons, List.not_mem_nil, or_false]; rintro x (rfl | rfl | rfl) <;> assumption) (by simp) List.nodup_nil (by simp [blks])
  unfold impl_ValueAt.f at H
  refine enter Try.func55 rfl Try.ntmps55 rfl fun a hk => ?_
  apply wp_seq_k; intro K1 hK1
  apply wp_region_lit
  refine sbx 4 hs rfl hk rfl rfl rfl rfl fun b2 w a hk hs => ?_
  refine sa _ rfl hk rfl rfl rfl fun a hk => ?_
  refine sa _ rfl hk rfl rfl rfl fun a hk => ?_
  show wpList _ _ _ [] _ _
  refine wpList_nil ?_
  refine hK1 _ _ ?_
  apply wp_seq_k; intro K3 hK3
  apply wp_seq_k; intro K4 hK4
  apply wp_region_lit
  refine sln [.slice A0_0 x0.Pos.length p0_0, .slice A0_1 x0.Stash.length p0_1, .slice A0_2 x0.Buckets.length p0_2] rfl hk rfl rfl rfl ag88 sz88 (box_cells hs (k := 4) rfl) fun a hk => ?_
  refine sm _ rfl hk rfl rfl rfl fun a hk => ?_
  obtain ⟨y5, h6, H⟩ := bind_some H
  refine sc rfl en115 hk rfl rfl rfl (impl_idCode_t _ x0 A0_0 p0_0 _ v0_0 (hs.hasD (k := 1) rfl) A0_1 p0_1 _ v0_1 (hs.hasD (k := 2) rfl) A0_2 p0_2 _ v0_2 (hs.hasD (k := 3) rfl) x1 _ h6) ?_
  rintro _ w ⟨rfl, hG⟩ a hk
  have hs := hs.call0 hG
  refine sa _ rfl hk rfl rfl rfl fun a hk => ?_
  show wpList _ _ _ [] _ _
  refine wpList_nil ?_
  refine hK4 _ _ ?_
  apply wp_seq_k; intro K7 hK7
  apply wp_region_lit
  refine sm _ rfl hk rfl rfl rfl fun a hk => ?_
  refine sv (.bool (y5 != 0)) hk rfl rfl rfl fun a hk => ?_
  show wpList _ _ _ [] _ _
  refine wpList_nil ?_
  refine hK7 _ _ ?_
  rcases cond_some H with ⟨c8, H⟩ | ⟨c8, H⟩
  · have hk := hk.lit 11 c8 rfl
    refine cnd_true hk rfl rfl ?_
    apply wp_seq_k; intro K9 hK9
    apply wp_region_lit
    refine sm _ rfl hk rfl rfl rfl fun a hk => ?_
    refine sa _ rfl hk rfl rfl rfl fun a hk => ?_
    refine sa _ rfl hk rfl rfl rfl fun a hk => ?_
    show wpList _ _ _ [] _ _
    refine wpList_nil ?_
    refine hK9 _ _ ?_
    refine wp_ret ?_
    obtain rfl := Option.some.inj H
    exact fin hk _ [(.int .i64 0), (.int .i64 y5)] rfl ⟨rfl, ⟨rfl, trivial⟩⟩ ⟨rfl, (hs.pick [] rfl).dnil⟩
  · have hk := hk.lit 11 c8 rfl
    refine cnd_false hk rfl rfl ?_
    refine wp_skip ?_
    refine hK3 _ _ ?_
    apply wp_seq_k; intro K10 hK10
    apply wp_region_lit
    refine sln [.slice A0_0 x0.Pos.length p0_0, .slice A0_1 x0.Stash.length p0_1, .slice A0_2 x0.Buckets.length p0_2] rfl hk rfl rfl rfl ag88 sz88 (box_cells hs (k := 4) rfl) fun a hk => ?_
    refine sm _ rfl hk rfl rfl rfl fun a hk => ?_
    obtain ⟨y11, h12, H⟩ := bind_some H
    refine sc rfl en116 hk rfl rfl rfl (impl_Oram_valueAt_t _ x0 A0_0 p0_0 _ v0_0 (hs.hasD (k := 1) rfl) A0_1 p0_1 _ v0_1 (hs.hasD (k := 2) rfl) A0_2 p0_2 _ v0_2 (hs.hasD (k := 3) rfl) x1 _ h12) ?_
    rintro _ w ⟨rfl, hG⟩ a hk
    have hs := hs.call0 hG
    refine sa _ rfl hk rfl rfl rfl fun a hk => ?_
    refine sa _ rfl hk rfl rfl rfl fun a hk => ?_
    show wpList _ _ _ [] _ _
    refine wpList_nil ?_
    refine hK10 _ _ ?_
    refine wp_ret ?_
    obtain rfl := Option.some.inj H
    exact fin hk _ [(.int .i64 y11), (.int .i64 0)] rfl ⟨rfl, ⟨rfl, trivial⟩⟩ ⟨rfl, (hs.pick [] rfl).dnil⟩

noncomputable def impl_WhereIs_c1.f (x0 : S_Block) (x1 : Int) : Option (Bool) :=
  (some (x0.Id == x1))
set_option maxRecDepth 100000 in
set_option maxHeartbeats 0 in
theorem impl_WhereIs_c1_t (w0 : World) (x0 : S_Block) (b1_ : Nat) (x1 : Int) (h1_ : Has w0 [(b1_, .cells #[.int .i64 x1] 3 (0, 0))]) (r : Bool) (H : impl_WhereIs_c1.f x0 x1 = some r) :
    Calls Try.prog 117 #[.agg #[.int .i64 x0.Id, .int .i64 x0.Leaf, .int .i64 x0.Value], .pointer (some ⟨b1_, 0, none⟩)] w0 (Ret (fun v w => v = .bool r ∧ Sat [] w0 w [] [])) := by
  have hs : Sat [] w0 w0 [(1, [(b1_, .cells #[.int .i64 x1] 3 (0, 0))])] [] := Sat.init w0 [(1, [(b1_, .cells #[.int .i64 x1] 3 (0, 0))])] [] (by simp only [List.mem_cons, List.not_mem_nil, or_false]; rintro x (rfl) <;> assumption) (by simp) List.nodup_nil (by simp [blks])
  unfold impl_WhereIs_c1.f at H
  refine enter Try.func117 rfl Try.ntmps117 rfl fun a hk => ?_
  apply wp_seq_k; intro K1 hK1
  apply wp_region_lit
  refine sbx 2 hs rfl hk rfl rfl rfl rfl fun b2 w a hk hs => ?_
  refine sa _ rfl hk rfl rfl rfl fun a hk => ?_
  show wpList _ _ _ [] _ _
  refine wpList_nil ?_
  refine hK1 _ _ ?_
  apply wp_seq_k; intro K3 hK3
  apply wp_region_lit
  refine sf ⟨b2, 0, none⟩ rfl hk rfl rfl rfl fd146_0 rfl fun a hk => ?_
  refine sl rfl hk rfl rfl rfl ag3 (box_cell hs (k := 2) rfl rfl) fun a hk => ?_
  refine sl rfl hk rfl rfl rfl ag3 (box_cellD hs (k := 1) rfl rfl) fun a hk => ?_
  refine sv (.bool (x0.Id == x1)) hk rfl rfl rfl fun a hk => ?_
  refine sa _ rfl hk rfl rfl rfl fun a hk => ?_
  show wpList _ _ _ [] _ _
  refine wpList_nil ?_
  refine hK3 _ _ ?_
  refine wp_ret ?_
  obtain rfl := Option.some.inj H
  exact fin hk _ [(.bool (x0.Id == x1))] rfl ⟨rfl, trivial⟩ ⟨rfl, (hs.pick [] rfl).dnil⟩

noncomputable def slices_IndexFunc_impl_Block_impl_Block_L.s0 (l0 : List (List S_Block)) (q1 : (List S_Block) → Option (Bool)) (u6 : Int) : Option ((Int) ⊕ Ex (Unit) (Int)) :=
  (bif (decide (u6 < (l0.length : Int))) then (if 0 ≤ u6 ∧ u6 < (l0.length : Int) then ((q1 (l0.getD u6.toNat [])).bind fun y28 => (bif y28 then (some (.inr (.ret u6))) else (some (.inl (w64 (u6 + 1)))))) else none) else (some (.inr (.out ()))))
noncomputable def slices_IndexFunc_impl_Block_impl_Block_L.f (l0 : List (List S_Block)) (q1 : (List S_Block) → Option (Bool)) : Option (Int) :=
  ((loopO (fun s => slices_IndexFunc_impl_Block_impl_Block_L.s0 l0 q1 s) 0).bind fun o => match o with | .out _ => (some (-1)) | .ret r => (some r))
set_option maxRecDepth 100000 in
set_option maxHeartbeats 0 in
theorem slices_IndexFunc_impl_Block_impl_Block_L_t (w0 : World) (A0_ : Option Addr) (p0_ : Nat) (l0 : List (List S_Block)) (k0_ : Chunk) (v0_ : View (Lay.sl L_Block 146) A0_ p0_ l0 k0_) (w0_ : Has w0 k0_) (f1_ : FuncId) (c1_ : List Value) (e1_ : Enters Try.prog f1_) (q1 : (List S_Block) → Option (Bool)) (k1_ : Chunk) (t1_ : ∀ w, Has w k1_ → ∀ (z0A : Option Addr) (z0p : Nat) (z0 : List S_Block) (z0k : Chunk) (z0v : View L_Block z0A z0p z0 z0k) (z0w : Has w z0k) (r : Bool), q1 z0 = some r → Calls Try.prog f1_ (([.slice z0A z0.length z0p] : List Value) ++ c1_).toArray w (Ret (fun v w2 => v = .bool r ∧ Sat [] w w2 [] []))) (w1_ : Has w0 k1_) (r : Int) (H : slices_IndexFunc_impl_Block_impl_Block_L.f l0 q1 = some r) :
    Calls Try.prog 119 #[.slice A0_ l0.length p0_, .func (.func f1_) #[] c1_.toArray] w0 (Ret (fun v w => v = .int .i64 r ∧ Sat [] w0 w [] [])) := by
  have hs : Sat [] w0 w0 [(1, k0_), (2, k1_)] [] := Sat.init w0 [(1, k0_), (2, k1_)] [] (by simp only [List.mem_cons, List.not_mem_nil, or_false]; rintro x (rfl | rfl) <;> assumption) (by simp) List.nodup_nil (by simp [blks])
  unfold slices_IndexFunc_impl_Block_impl_Block_L.f at H
  refine enter Try.func119 rfl Try.ntmps119 rfl fun a hk => ?_
  apply wp_seq_k; intro K1 hK1
  apply wp_region_lit
  refine sa _ rfl hk rfl rfl rfl fun a hk => ?_
  show wpList _ _ _ [] _ _
  refine wpList_nil ?_
  refine hK1 _ _ ?_
  apply wp_seq_k; intro K2 hK2
  apply wp_seq_k; intro K3 hK3
  apply wp_region_lit
  refine sm _ rfl hk rfl rfl rfl fun a hk => ?_
  refine sle rfl hk rfl rfl rfl un86 fun a hk => ?_
  refine sm _ rfl hk rfl rfl rfl fun a hk => ?_
  show wpList _ _ _ [] _ _
  refine wpList_nil ?_
  refine hK3 _ _ ?_
  obtain ⟨o7, h8, HL9⟩ := bind_some H
  clear H
  obtain ⟨R10, hR10⟩ : ∃ R : Act → World → Prop, R = fun a w => o7 = .out () ∧ Kn [] 19 a ∧ Sat [] w0 w [(1, k0_), (2, k1_)] [] := ⟨_, rfl⟩
  refine wp_cutq R10 ?_ ?_
  · refine wp_block ?_
    obtain ⟨fu12, h8⟩ := loopO_some h8
    obtain ⟨I11, hI11⟩ : ∃ I : Nat → Act → World → Prop, I = fun fu a w => ∃ (u6 : Int), loopN (fun s => slices_IndexFunc_impl_Block_impl_Block_L.s0 l0 q1 s) fu u6 = some o7 ∧ Kn [(0, (.slice A0_ l0.length p0_)), (1, (.func (.func f1_) #[] c1_.toArray)), (7, (.int .i64 (l0.length : Int))), (8, (.int .i64 u6))] 19 a ∧ Sat [] w0 w [(1, k0_), (2, k1_)] [] := ⟨_, rfl⟩
    refine wp_loop_ghost I11 fu12 ?_ ?_
    · rw [hI11]
      exact ⟨0, h8, (hk.c 0 rfl (hk.c 1 rfl (hk.c 7 rfl (hk.c 8 rfl hk.k)))), (hs.pick [] rfl)⟩
    · clear h8 hk hs
      intro fu12 a w hI0
      rw [hI11] at hI0
      obtain ⟨u6, hi, hk, hs⟩ := hI0
      obtain ⟨x13, H, h14⟩ := loop_round hi
      try dsimp only at H
      unfold slices_IndexFunc_impl_Block_impl_Block_L.s0 at H
      apply wp_seq_k; intro K15 hK15
      apply wp_region_lit
      refine sv (.bool (decide (u6 < (l0.length : Int)))) hk rfl rfl rfl fun a hk => ?_
      show wpList _ _ _ [] _ _
      refine wpList_nil ?_
      refine hK15 _ _ ?_
      apply wp_seq_k; intro K16 hK16
      rcases cond_some H with ⟨c17, H⟩ | ⟨c17, H⟩
      · have hk := hk.lit 9 c17 rfl
        refine cnd_true hk rfl rfl ?_
        refine wp_skip ?_
        refine hK16 _ _ ?_
        apply wp_seq_k; intro K18 hK18
        refine wp_block ?_
        apply wp_seq_k; intro K19 hK19
        apply wp_region_lit
        refine sm _ rfl hk rfl rfl rfl fun a hk => ?_
        refine sa _ rfl hk rfl rfl rfl fun a hk => ?_
        show wpList _ _ _ [] _ _
        refine wpList_nil ?_
        refine hK19 _ _ ?_
        apply wp_seq_k; intro K20 hK20
        apply wp_region_lit
        refine sm _ rfl hk rfl rfl rfl fun a hk => ?_
        refine sm _ rfl hk rfl rfl rfl fun a hk => ?_
        refine sm _ rfl hk rfl rfl rfl fun a hk => ?_
        rcases ite_some H with ⟨c21, H⟩ | ⟨_, H⟩
        rotate_left
        · cases H
        obtain ⟨b22, q23, hAc21⟩ := (v0_).some_ u6 c21.1 c21.2
        refine si rfl hk rfl rfl rfl rfl un86 sz85 c21.1 c21.2 hAc21 fun a hk => ?_
        obtain ⟨_, ⟨_, rfl, A25, p26, rfl, v27⟩, e24⟩ := (v0_).at_ [] u6 c21.1 c21.2
        refine sl (v := (.slice A25 (l0.getD u6.toNat []).length p26)) rfl hk rfl rfl rfl ag85 ((e24 0 _ rfl).cell (hs.hasD (k := 1) rfl)) fun a hk => ?_
        obtain ⟨y28, h29, H⟩ := bind_some H
        refine scv (vs := ([(.slice A25 (l0.getD u6.toNat []).length p26)] : List Value) ++ c1_) rfl rfl e1_ hk rfl rfl rfl (t1_ _ (hs.hasD (k := 2) rfl) A25 p26 (l0.getD u6.toNat []) _ v27 (hs.hasD (k := 1) rfl) _ h29) ?_
        rintro _ w ⟨rfl, hG⟩ a hk
        have hs := hs.call0 hG
        show wpList _ _ _ [] _ _
        refine wpList_nil ?_
        refine hK20 _ _ ?_
        rcases cond_some H with ⟨c30, H⟩ | ⟨c30, H⟩
        · have hk := hk.lit 16 c30 rfl
          refine cnd_true hk rfl rfl ?_
          apply wp_seq_k; intro K31 hK31
          apply wp_region_lit
          refine sm _ rfl hk rfl rfl rfl fun a hk => ?_
          refine sa _ rfl hk rfl rfl rfl fun a hk => ?_
          show wpList _ _ _ [] _ _
          refine wpList_nil ?_
          refine hK31 _ _ ?_
          refine wp_ret ?_
          obtain rfl := Option.some.inj H
          have ho7 := h14
          try dsimp only at ho7
          subst ho7
          have H := HL9
          try dsimp only at H
          obtain rfl := Option.some.inj H
          exact fin hk _ [(.int .i64 u6)] rfl ⟨rfl, trivial⟩ ⟨rfl, (hs.pick [] rfl).dnil⟩
        · have hk := hk.lit 16 c30 rfl
          refine cnd_false hk rfl rfl ?_
          refine wp_skip ?_
          refine hK18 _ _ ?_
          apply wp_region_lit
          refine sv (.int .i64 (w64 (u6 + 1))) hk rfl rfl rfl fun a hk => ?_
          refine sm _ rfl hk rfl rfl rfl fun a hk => ?_
          show wpList _ _ _ [] _ _
          refine wpList_nil ?_
          obtain rfl := Option.some.inj H
          obtain ⟨m32, hmm32, h14⟩ := h14
          show ∃ n', n' < _ ∧ I11 n' _ _
          refine ⟨m32, hmm32, ?_⟩
          rw [hI11]
          exact ⟨(w64 (u6 + 1)), h14, (hk.c 0 rfl (hk.c 1 rfl (hk.c 7 rfl (hk.c 8 rfl hk.k)))), (hs.pick [] rfl)⟩
      · have hk := hk.lit 9 c17 rfl
        refine cnd_false hk rfl rfl ?_
        refine wp_exit ?_
        obtain rfl := Option.some.inj H
        show R10 _ _
        rw [hR10]
        exact ⟨h14.symm, hk.k, (hs.pick [] rfl)⟩
  · intro a w hR0
    rw [hR10] at hR0
    obtain ⟨rfl, hk, hs⟩ := hR0
    have H := HL9
    try dsimp only at H
    refine hK2 _ _ ?_
    apply wp_seq_k; intro K33 hK33
    apply wp_region_lit
    refine sa _ rfl hk rfl rfl rfl fun a hk => ?_
    show wpList _ _ _ [] _ _
    refine wpList_nil ?_
    refine hK33 _ _ ?_
    refine wp_ret ?_
    obtain rfl := Option.some.inj H
    exact fin hk _ [(.int .i64 (-1))] rfl ⟨rfl, trivial⟩ ⟨rfl, (hs.pick [] rfl).dnil⟩

noncomputable def impl_WhereIs_c2.f (l0 : List S_Block) (q1 : S_Block → Option (Bool)) : Option (Bool) :=
  ((slices_ContainsFunc_impl_Block_impl_Block.f l0 q1).bind fun y3 => (some y3))
set_option maxRecDepth 100000 in
set_option maxHeartbeats 0 in
theorem impl_WhereIs_c2_t (w0 : World) (A0_ : Option Addr) (p0_ : Nat) (l0 : List S_Block) (k0_ : Chunk) (v0_ : View L_Block A0_ p0_ l0 k0_) (w0_ : Has w0 k0_) (b1_ : Nat) (f1_ : FuncId) (c1_ : List Value) (e1_ : Enters Try.prog f1_) (q1 : S_Block → Option (Bool)) (k1_ : Chunk) (t1_ : ∀ w, Has w k1_ → ∀ (z0 : S_Block) (r : Bool), q1 z0 = some r → Calls Try.prog f1_ (([.agg #[.int .i64 z0.Id, .int .i64 z0.Leaf, .int .i64 z0.Value]] : List Value) ++ c1_).toArray w (Ret (fun v w2 => v = .bool r ∧ Sat [] w w2 [] []))) (w1_ : Has w0 k1_) (h1_ : Has w0 [(b1_, .cells #[.func (.func f1_) #[] c1_.toArray] 147 (0, 0))]) (r : Bool) (H : impl_WhereIs_c2.f l0 q1 = some r) :
    Calls Try.prog 120 #[.slice A0_ l0.length p0_, .pointer (some ⟨b1_, 0, none⟩)] w0 (Ret (fun v w => v = .bool r ∧ Sat [] w0 w [] [])) := by
  have hs : Sat [] w0 w0 [(1, k0_), (3, k1_), (2, [(b1_, .cells #[.func (.func f1_) #[] c1_.toArray] 147 (0, 0))])] [] := Sat.init w0 [(1, k0_), (3, k1_), (2, [(b1_, .cells #[.func (.func f1_) #[] c1_.toArray] 147 (0, 0))])] [] (by simp only [List.mem_cons, List.not_mem_nil, or_false]; rintro x (rfl | rfl | rfl) <;> assumption) (by simp) List.nodup_nil (by simp [blks])
  unfold impl_WhereIs_c2.f at H
  refine enter Try.func120 rfl Try.ntmps120 rfl fun a hk => ?_
  apply wp_seq_k; intro K1 hK1
  apply wp_region_lit
  refine sa _ rfl hk rfl rfl rfl fun a hk => ?_
  show wpList _ _ _ [] _ _
  refine wpList_nil ?_
  refine hK1 _ _ ?_
  apply wp_seq_k; intro K2 hK2
  apply wp_region_lit
  refine sm _ rfl hk rfl rfl rfl fun a hk => ?_
  refine sl rfl hk rfl rfl rfl ag147 (box_cellD hs (k := 2) rfl rfl) fun a hk => ?_
  obtain ⟨y3, h4, H⟩ := bind_some H
  refine sc rfl en118 hk rfl rfl rfl (slices_ContainsFunc_impl_Block_impl_Block_t _ A0_ p0_ l0 _ v0_ (hs.hasD (k := 1) rfl) f1_ c1_ e1_ q1 k1_ t1_ (hs.hasD (k := 3) rfl) _ h4) ?_
  rintro _ w ⟨rfl, hG⟩ a hk
  have hs := hs.call0 hG
  refine sa _ rfl hk rfl rfl rfl fun a hk => ?_
  show wpList _ _ _ [] _ _
  refine wpList_nil ?_
  refine hK2 _ _ ?_
  refine wp_ret ?_
  obtain rfl := Option.some.inj H
  exact fin hk _ [(.bool y3)] rfl ⟨rfl, trivial⟩ ⟨rfl, (hs.pick [] rfl).dnil⟩

noncomputable def impl_WhereIs.f (x0 : S_Oram) (x1 : Int) : Option (Int × Int) :=
  ((impl_idCode.f x0 x1).bind fun y6 => (bif (y6 != 0) then (some (0, y6)) else ((slices_ContainsFunc_impl_Block_impl_Block.f x0.Stash (fun z0 => impl_WhereIs_c1.f z0 x1)).bind fun y15 => (bif y15 then (some ((-1), 0)) else ((slices_IndexFunc_impl_Block_impl_Block_L.f x0.Buckets (fun z0 => impl_WhereIs_c2.f z0 (fun z0 => impl_WhereIs_c1.f z0 x1))).bind fun y21 => (bif (decide (y21 ≥ 0)) then (some (y21, 0)) else (some (0, 5))))))))
set_option maxRecDepth 100000 in
set_option maxHeartbeats 0 in
theorem impl_WhereIs_t (w0 : World) (x0 : S_Oram) (A0_0 : Option Addr) (p0_0 : Nat) (k0_0 : Chunk) (v0_0 : View (Lay.int .i64) A0_0 p0_0 x0.Pos k0_0) (w0_0 : Has w0 k0_0) (A0_1 : Option Addr) (p0_1 : Nat) (k0_1 : Chunk) (v0_1 : View L_Block A0_1 p0_1 x0.Stash k0_1) (w0_1 : Has w0 k0_1) (A0_2 : Option Addr) (p0_2 : Nat) (k0_2 : Chunk) (v0_2 : View (Lay.sl L_Block 146) A0_2 p0_2 x0.Buckets k0_2) (w0_2 : Has w0 k0_2) (x1 : Int) (r : Int × Int) (H : impl_WhereIs.f x0 x1 = some r) :
    Calls Try.prog 56 #[.agg #[.slice A0_0 x0.Pos.length p0_0, .slice A0_1 x0.Stash.length p0_1, .slice A0_2 x0.Buckets.length p0_2], .int .i64 x1] w0 (Ret (fun v w => v = .tuple #[.int .i64 r.1, .int .i64 r.2] ∧ Sat [] w0 w [] [])) := by
  have hs : Sat [] w0 w0 [(1, k0_0), (2, k0_1), (3, k0_2)] [] := Sat.init w0 [(1, k0_0), (2, k0_1), (3, k0_2)] [] (by simp only [List.mem_cons, List.not_mem_nil, or_false]; rintro x (rfl | rfl | rfl) <;> assumption) (by simp) List.nodup_nil (by simp [blks])
  unfold impl_WhereIs.f at H
  refine enter Try.func56 rfl Try.ntmps56 rfl fun a hk => ?_
  apply wp_seq_k; intro K1 hK1
  apply wp_region_lit
  refine sbx 4 hs rfl hk rfl rfl rfl rfl fun b2 w a hk hs => ?_
  refine sbx 5 hs rfl hk rfl rfl rfl rfl fun b3 w a hk hs => ?_
  refine sa _ rfl hk rfl rfl rfl fun a hk => ?_
  refine sa _ rfl hk rfl rfl rfl fun a hk => ?_
  show wpList _ _ _ [] _ _
  refine wpList_nil ?_
  refine hK1 _ _ ?_
  apply wp_seq_k; intro K4 hK4
  apply wp_seq_k; intro K5 hK5
  apply wp_region_lit
  refine sln [.slice A0_0 x0.Pos.length p0_0, .slice A0_1 x0.Stash.length p0_1, .slice A0_2 x0.Buckets.length p0_2] rfl hk rfl rfl rfl ag88 sz88 (box_cells hs (k := 4) rfl) fun a hk => ?_
  refine sl rfl hk rfl rfl rfl ag3 (box_cell hs (k := 5) rfl rfl) fun a hk => ?_
  obtain ⟨y6, h7, H⟩ := bind_some H
  refine sc rfl en115 hk rfl rfl rfl (impl_idCode_t _ x0 A0_0 p0_0 _ v0_0 (hs.hasD (k := 1) rfl) A0_1 p0_1 _ v0_1 (hs.hasD (k := 2) rfl) A0_2 p0_2 _ v0_2 (hs.hasD (k := 3) rfl) x1 _ h7) ?_
  rintro _ w ⟨rfl, hG⟩ a hk
  have hs := hs.call0 hG
  refine sa _ rfl hk rfl rfl rfl fun a hk => ?_
  show wpList _ _ _ [] _ _
  refine wpList_nil ?_
  refine hK5 _ _ ?_
  apply wp_seq_k; intro K8 hK8
  apply wp_region_lit
  refine sm _ rfl hk rfl rfl rfl fun a hk => ?_
  refine sv (.bool (y6 != 0)) hk rfl rfl rfl fun a hk => ?_
  show wpList _ _ _ [] _ _
  refine wpList_nil ?_
  refine hK8 _ _ ?_
  rcases cond_some H with ⟨c9, H⟩ | ⟨c9, H⟩
  · have hk := hk.lit 13 c9 rfl
    refine cnd_true hk rfl rfl ?_
    apply wp_seq_k; intro K10 hK10
    apply wp_region_lit
    refine sm _ rfl hk rfl rfl rfl fun a hk => ?_
    refine sa _ rfl hk rfl rfl rfl fun a hk => ?_
    refine sa _ rfl hk rfl rfl rfl fun a hk => ?_
    show wpList _ _ _ [] _ _
    refine wpList_nil ?_
    refine hK10 _ _ ?_
    refine wp_ret ?_
    obtain rfl := Option.some.inj H
    exact fin hk _ [(.int .i64 0), (.int .i64 y6)] rfl ⟨rfl, ⟨rfl, trivial⟩⟩ ⟨rfl, (hs.pick [] rfl).dnil⟩
  · have hk := hk.lit 13 c9 rfl
    refine cnd_false hk rfl rfl ?_
    refine wp_skip ?_
    refine hK4 _ _ ?_
    apply wp_seq_k; intro K11 hK11
    apply wp_region_lit
    refine smf (cs := [.pointer (some ⟨b3, 0, none⟩)]) rfl hk rfl rfl rfl fun a hk => ?_
    refine salx 6 hs rfl hk rfl rfl ze147 rfl fun b12 w a hk hs => ?_
    refine ssx (cs' := #[.func (.func 117) #[] #[(.pointer (some ⟨b3, 0, none⟩))]]) 6 hs rfl rfl hk rfl rfl rfl rfl sz147 rfl rfl rfl rfl fun w a hk hs => ?_
    show wpList _ _ _ [] _ _
    refine wpList_nil ?_
    refine hK11 _ _ ?_
    apply wp_seq_k; intro K13 hK13
    apply wp_seq_k; intro K14 hK14
    apply wp_region_lit
    refine sf ⟨b2, 1, none⟩ rfl hk rfl rfl rfl fd88_1 rfl fun a hk => ?_
    refine sl rfl hk rfl rfl rfl ag85 (box_cell hs (k := 4) rfl rfl) fun a hk => ?_
    refine sl rfl hk rfl rfl rfl ag147 (box_cell hs (k := 6) rfl rfl) fun a hk => ?_
    obtain ⟨y15, h16, H⟩ := bind_some H
    refine sc rfl en118 hk rfl rfl rfl (slices_ContainsFunc_impl_Block_impl_Block_t _ A0_1 p0_1 x0.Stash _ v0_1 (hs.hasD (k := 2) rfl) 117 [.pointer (some ⟨b3, 0, none⟩)] en117 (fun z0 => impl_WhereIs_c1.f z0 x1) [(b3, .cells #[.int .i64 x1] 3 (0, 0))] (fun w hz z0 r h => impl_WhereIs_c1_t w z0 _ x1 hz r h) (hs.hasG (k := 5) rfl) _ h16) ?_
    rintro _ w ⟨rfl, hG⟩ a hk
    have hs := hs.call0 hG
    show wpList _ _ _ [] _ _
    refine wpList_nil ?_
    refine hK14 _ _ ?_
    rcases cond_some H with ⟨c17, H⟩ | ⟨c17, H⟩
    · have hk := hk.lit 19 c17 rfl
      refine cnd_true hk rfl rfl ?_
      apply wp_seq_k; intro K18 hK18
      apply wp_region_lit
      refine sa _ rfl hk rfl rfl rfl fun a hk => ?_
      refine sa _ rfl hk rfl rfl rfl fun a hk => ?_
      show wpList _ _ _ [] _ _
      refine wpList_nil ?_
      refine hK18 _ _ ?_
      refine wp_ret ?_
      obtain rfl := Option.some.inj H
      exact fin hk _ [(.int .i64 (-1)), (.int .i64 0)] rfl ⟨rfl, ⟨rfl, trivial⟩⟩ ⟨rfl, (hs.pick [] rfl).dnil⟩
    · have hk := hk.lit 19 c17 rfl
      refine cnd_false hk rfl rfl ?_
      refine wp_skip ?_
      refine hK13 _ _ ?_
      apply wp_seq_k; intro K19 hK19
      apply wp_seq_k; intro K20 hK20
      apply wp_region_lit
      refine sf ⟨b2, 2, none⟩ rfl hk rfl rfl rfl fd88_2 rfl fun a hk => ?_
      refine sl rfl hk rfl rfl rfl ag86 (box_cell hs (k := 4) rfl rfl) fun a hk => ?_
      refine smf (cs := [.pointer (some ⟨b12, 0, none⟩)]) rfl hk rfl rfl rfl fun a hk => ?_
      obtain ⟨y21, h22, H⟩ := bind_some H
      refine sc rfl en119 hk rfl rfl rfl (slices_IndexFunc_impl_Block_impl_Block_L_t _ A0_2 p0_2 x0.Buckets _ v0_2 (hs.hasD (k := 3) rfl) 120 [.pointer (some ⟨b12, 0, none⟩)] en120 (fun z0 => impl_WhereIs_c2.f z0 (fun z0 => impl_WhereIs_c1.f z0 x1)) ([(b12, .cells #[.func (.func 117) #[] #[(.pointer (some ⟨b3, 0, none⟩))]] 147 (0, 0))] ++ [(b3, .cells #[.int .i64 x1] 3 (0, 0))]) (fun w hz z0A z0p z0 z0k z0v z0w r h => impl_WhereIs_c2_t w z0A z0p z0 z0k z0v z0w _ 117 [.pointer (some ⟨b3, 0, none⟩)] en117 (fun z0 => impl_WhereIs_c1.f z0 x1) [(b3, .cells #[.int .i64 x1] 3 (0, 0))] (fun w hz z0 r h => impl_WhereIs_c1_t w z0 _ x1 hz r h) (Has.right hz) (Has.left hz) r h) (Has.app (hs.hasG (k := 6) rfl) (hs.hasG (k := 5) rfl)) _ h22) ?_
      rintro _ w ⟨rfl, hG⟩ a hk
      have hs := hs.call0 hG
      refine sa _ rfl hk rfl rfl rfl fun a hk => ?_
      show wpList _ _ _ [] _ _
      refine wpList_nil ?_
      refine hK20 _ _ ?_
      apply wp_seq_k; intro K23 hK23
      apply wp_region_lit
      refine sm _ rfl hk rfl rfl rfl fun a hk => ?_
      refine sv (.bool (decide (y21 ≥ 0))) hk rfl rfl rfl fun a hk => ?_
      show wpList _ _ _ [] _ _
      refine wpList_nil ?_
      refine hK23 _ _ ?_
      rcases cond_some H with ⟨c24, H⟩ | ⟨c24, H⟩
      · have hk := hk.lit 25 c24 rfl
        refine cnd_true hk rfl rfl ?_
        apply wp_seq_k; intro K25 hK25
        apply wp_region_lit
        refine sm _ rfl hk rfl rfl rfl fun a hk => ?_
        refine sa _ rfl hk rfl rfl rfl fun a hk => ?_
        refine sa _ rfl hk rfl rfl rfl fun a hk => ?_
        show wpList _ _ _ [] _ _
        refine wpList_nil ?_
        refine hK25 _ _ ?_
        refine wp_ret ?_
        obtain rfl := Option.some.inj H
        exact fin hk _ [(.int .i64 y21), (.int .i64 0)] rfl ⟨rfl, ⟨rfl, trivial⟩⟩ ⟨rfl, (hs.pick [] rfl).dnil⟩
      · have hk := hk.lit 25 c24 rfl
        refine cnd_false hk rfl rfl ?_
        refine wp_skip ?_
        refine hK19 _ _ ?_
        apply wp_seq_k; intro K26 hK26
        apply wp_region_lit
        refine sa _ rfl hk rfl rfl rfl fun a hk => ?_
        refine sa _ rfl hk rfl rfl rfl fun a hk => ?_
        show wpList _ _ _ [] _ _
        refine wpList_nil ?_
        refine hK26 _ _ ?_
        refine wp_ret ?_
        obtain rfl := Option.some.inj H
        exact fin hk _ [(.int .i64 0), (.int .i64 5)] rfl ⟨rfl, ⟨rfl, trivial⟩⟩ ⟨rfl, (hs.pick [] rfl).dnil⟩

noncomputable def laws_FnPath.s0 (y7 : Int) (y10 : (List Int) × Int) (u41 : Int) : Option ((Int) ⊕ Ex (Unit) (Bool)) :=
  (bif (decide (u41 < 15)) then ((impl_OnPath.f u41 y7).bind fun y55 => (((if 0 ≤ (0 : Int) ∧ (0 : Int) < (y10.1.length : Int) then (bif ((y10.1.getD (0 : Int).toNat 0) == u41) then (some true) else (if 0 ≤ (1 : Int) ∧ (1 : Int) < (y10.1.length : Int) then (bif ((y10.1.getD (1 : Int).toNat 0) == u41) then (some true) else (if 0 ≤ (2 : Int) ∧ (2 : Int) < (y10.1.length : Int) then (bif ((y10.1.getD (2 : Int).toNat 0) == u41) then (some true) else (if 0 ≤ (3 : Int) ∧ (3 : Int) < (y10.1.length : Int) then (some ((y10.1.getD (3 : Int).toNat 0) == u41)) else none)) else none)) else none)) else none) : Option (Bool)).bind fun u59 => (((bif (y55.2 != 0) then (some true) else (some (!(y55.1 == u59)))) : Option (Bool)).bind fun u85 => (bif u85 then (some (.inr (.ret false))) else (some (.inl (w64 (u41 + 1)))))))) else (some (.inr (.out ()))))
noncomputable def laws_FnPath.f (l0 : List Int) : Option (Bool) :=
  (bif (decide ((l0.length : Int) > 1048576)) then (some true) else ((laws_at.f l0 0 8).bind fun y7 => ((impl_PathOf.f y7).bind fun y10 => (((bif (y10.2 != 0) then (some true) else (bif ((y10.1.length : Int) != 4) then (some true) else (if 0 ≤ (0 : Int) ∧ (0 : Int) < (y10.1.length : Int) then (bif ((y10.1.getD (0 : Int).toNat 0) != 0) then (some true) else (if 0 ≤ (3 : Int) ∧ (3 : Int) < (y10.1.length : Int) then (some ((y10.1.getD (3 : Int).toNat 0) != (w64 (7 + y7)))) else none)) else none))) : Option (Bool)).bind fun u19 => (bif u19 then (some false) else ((loopO (fun s => laws_FnPath.s0 y7 y10 s) 0).bind fun o => match o with | .out _ => ((spec_DrawsOf.f l0 12).bind fun y95 => ((impl_NewOram.f y95).bind fun y101 => ((laws_at.f l0 1 12).bind fun y118 => ((impl_ValueAt.f y101.1 y118).bind fun y120 => ((laws_at.f l0 1 12).bind fun y124 => ((impl_WhereIs.f y101.1 y124).bind fun y126 => (((if 0 ≤ (1 : Int) ∧ (1 : Int) < (y10.1.length : Int) then (bif (decide ((y10.1.getD (1 : Int).toNat 0) ≥ 1)) then (if 0 ≤ (1 : Int) ∧ (1 : Int) < (y10.1.length : Int) then (bif (decide ((y10.1.getD (1 : Int).toNat 0) ≤ 2)) then (if 0 ≤ (2 : Int) ∧ (2 : Int) < (y10.1.length : Int) then (if 0 ≤ (1 : Int) ∧ (1 : Int) < (y10.1.length : Int) then (bif ((y10.1.getD (2 : Int).toNat 0) == (w64 ((w64 (2 * (y10.1.getD (1 : Int).toNat 0))) + 1))) then (bif (y101.2 == 0) then (bif (y120.2 == 0) then (bif (y120.1 == 0) then (some (y126.2 == 5)) else (some false)) else (some false)) else (some false)) else (if 0 ≤ (2 : Int) ∧ (2 : Int) < (y10.1.length : Int) then (if 0 ≤ (1 : Int) ∧ (1 : Int) < (y10.1.length : Int) then (bif ((y10.1.getD (2 : Int).toNat 0) == (w64 ((w64 (2 * (y10.1.getD (1 : Int).toNat 0))) + 2))) then (bif (y101.2 == 0) then (bif (y120.2 == 0) then (bif (y120.1 == 0) then (some (y126.2 == 5)) else (some false)) else (some false)) else (some false)) else (some false)) else none) else none)) else none) else none) else (some false)) else none) else (some false)) else none) : Option (Bool)).bind fun u130 => (some u130)))))))) | .ret r => (some r)))))))
set_option maxRecDepth 100000 in
set_option maxHeartbeats 0 in
theorem laws_FnPath_t (w0 : World) (A0_ : Option Addr) (p0_ : Nat) (l0 : List Int) (k0_ : Chunk) (v0_ : View (Lay.int .u8) A0_ p0_ l0 k0_) (w0_ : Has w0 k0_) (r : Bool) (H : laws_FnPath.f l0 = some r) :
    Calls Try.prog 9 #[.slice A0_ l0.length p0_] w0 (Ret (fun v w => v = .bool r ∧ Sat [] w0 w [] [])) := by
  have hs : Sat [] w0 w0 [(1, k0_)] [] := Sat.init w0 [(1, k0_)] [] (by simp only [List.mem_cons, List.not_mem_nil, or_false]; rintro x (rfl) <;> assumption) (by simp) List.nodup_nil (by simp [blks])
  unfold laws_FnPath.f at H
  refine enter Try.func9 rfl Try.ntmps9 rfl fun a hk => ?_
  apply wp_seq_k; intro K1 hK1
  apply wp_region_lit
  refine sa _ rfl hk rfl rfl rfl fun a hk => ?_
  show wpList _ _ _ [] _ _
  refine wpList_nil ?_
  refine hK1 _ _ ?_
  apply wp_seq_k; intro K2 hK2
  apply wp_seq_k; intro K3 hK3
  apply wp_region_lit
  refine sm _ rfl hk rfl rfl rfl fun a hk => ?_
  refine sle rfl hk rfl rfl rfl un55 fun a hk => ?_
  refine sv (.bool (decide ((l0.length : Int) > 1048576))) hk rfl rfl rfl fun a hk => ?_
  show wpList _ _ _ [] _ _
  refine wpList_nil ?_
  refine hK3 _ _ ?_
  rcases cond_some H with ⟨c4, H⟩ | ⟨c4, H⟩
  · have hk := hk.lit 18 c4 rfl
    refine cnd_true hk rfl rfl ?_
    apply wp_seq_k; intro K5 hK5
    apply wp_region_lit
    refine sa _ rfl hk rfl rfl rfl fun a hk => ?_
    show wpList _ _ _ [] _ _
    refine wpList_nil ?_
    refine hK5 _ _ ?_
    refine wp_ret ?_
    obtain rfl := Option.some.inj H
    exact fin hk _ [(.bool true)] rfl ⟨rfl, trivial⟩ ⟨rfl, (hs.pick [] rfl).dnil⟩
  · have hk := hk.lit 18 c4 rfl
    refine cnd_false hk rfl rfl ?_
    refine wp_skip ?_
    refine hK2 _ _ ?_
    apply wp_seq_k; intro K6 hK6
    apply wp_region_lit
    refine sm _ rfl hk rfl rfl rfl fun a hk => ?_
    obtain ⟨y7, h8, H⟩ := bind_some H
    refine sc rfl en32 hk rfl rfl rfl (laws_at_t _ A0_ p0_ l0 _ v0_ (hs.hasD (k := 1) rfl) 0 8 _ h8) ?_
    rintro _ w ⟨rfl, hG⟩ a hk
    have hs := hs.call0 hG
    refine sa _ rfl hk rfl rfl rfl fun a hk => ?_
    show wpList _ _ _ [] _ _
    refine wpList_nil ?_
    refine hK6 _ _ ?_
    apply wp_seq_k; intro K9 hK9
    apply wp_region_lit
    refine sm _ rfl hk rfl rfl rfl fun a hk => ?_
    obtain ⟨y10, h11, H⟩ := bind_some H
    refine sc rfl en51 hk rfl rfl rfl (impl_PathOf_t _ y7 _ h11) ?_
    rintro _ w ⟨A12, p13, k14, rfl, o15, hG⟩ a hk
    have hs := hs.call0k hG [2] rfl
    refine sm _ rfl hk rfl rfl rfl fun a hk => ?_
    refine sv (.slice A12 y10.1.length p13) hk rfl rfl rfl fun a hk => ?_
    refine sv (.int .i64 y10.2) hk rfl rfl rfl fun a hk => ?_
    refine sa _ rfl hk rfl rfl rfl fun a hk => ?_
    refine sa _ rfl hk rfl rfl rfl fun a hk => ?_
    show wpList _ _ _ [] _ _
    refine wpList_nil ?_
    refine hK9 _ _ ?_
    apply wp_seq_k; intro K16 hK16
    apply wp_seq_k; intro K17 hK17
    obtain ⟨o20, h21, HL22⟩ := bind_some H
    clear H
    obtain ⟨R23, hR23⟩ : ∃ R : Act → World → Prop, R = fun a w => ∃ (u19 : Bool), u19 = o20 ∧ Kn [(0, (.slice A0_ l0.length p0_)), (3, (.int .i64 y7)), (4, (.slice A12 y10.1.length p13)), (46, (.bool u19))] 158 a ∧ Sat [] w0 w [(1, k0_)] [(2, k14)] := ⟨_, rfl⟩
    refine wp_cutq R23 ?_ ?_
    · have H := h21
      apply wp_region_lit
      refine sm _ rfl hk rfl rfl rfl fun a hk => ?_
      refine sv (.bool (y10.2 != 0)) hk rfl rfl rfl fun a hk => ?_
      refine sm _ rfl hk rfl rfl rfl fun a hk => ?_
      rcases cond_some H with ⟨c24, H⟩ | ⟨c24, H⟩
      · have hk := hk.lit 28 c24 rfl
        refine sk hk rfl rfl rfl fun a hk => ?_
        refine sk hk rfl rfl rfl fun a hk => ?_
        refine sk hk rfl rfl rfl fun a hk => ?_
        refine sv (.bool true) hk rfl rfl rfl fun a hk => ?_
        refine sm _ rfl hk rfl rfl rfl fun a hk => ?_
        refine sk hk rfl rfl rfl fun a hk => ?_
        refine sk hk rfl rfl rfl fun a hk => ?_
        refine sk hk rfl rfl rfl fun a hk => ?_
        refine sk hk rfl rfl rfl fun a hk => ?_
        refine sv (.bool true) hk rfl rfl rfl fun a hk => ?_
        refine sm _ rfl hk rfl rfl rfl fun a hk => ?_
        refine sk hk rfl rfl rfl fun a hk => ?_
        refine sk hk rfl rfl rfl fun a hk => ?_
        refine sk hk rfl rfl rfl fun a hk => ?_
        refine sk hk rfl rfl rfl fun a hk => ?_
        refine sk hk rfl rfl rfl fun a hk => ?_
        refine sk hk rfl rfl rfl fun a hk => ?_
        refine sv (.bool true) hk rfl rfl rfl fun a hk => ?_
        show wpList _ _ _ [] _ _
        refine wpList_nil ?_
        obtain rfl := Option.some.inj H
        show R23 _ _
        rw [hR23]
        exact ⟨true, rfl, (hk.c 0 rfl (hk.c 3 rfl (hk.c 4 rfl (hk.c 46 rfl hk.k)))), (hs.pick [(2, 2)] rfl)⟩
      · have hk := hk.lit 28 c24 rfl
        refine sm _ rfl hk rfl rfl rfl fun a hk => ?_
        refine sle rfl hk rfl rfl rfl un27 fun a hk => ?_
        refine sv (.bool ((y10.1.length : Int) != 4)) hk rfl rfl rfl fun a hk => ?_
        refine sv (.bool ((y10.1.length : Int) != 4)) hk rfl rfl rfl fun a hk => ?_
        refine sm _ rfl hk rfl rfl rfl fun a hk => ?_
        rcases cond_some H with ⟨c25, H⟩ | ⟨c25, H⟩
        · have hk := hk.lit 33 c25 rfl
          refine sk hk rfl rfl rfl fun a hk => ?_
          refine sk hk rfl rfl rfl fun a hk => ?_
          refine sk hk rfl rfl rfl fun a hk => ?_
          refine sk hk rfl rfl rfl fun a hk => ?_
          refine sv (.bool true) hk rfl rfl rfl fun a hk => ?_
          refine sm _ rfl hk rfl rfl rfl fun a hk => ?_
          refine sk hk rfl rfl rfl fun a hk => ?_
          refine sk hk rfl rfl rfl fun a hk => ?_
          refine sk hk rfl rfl rfl fun a hk => ?_
          refine sk hk rfl rfl rfl fun a hk => ?_
          refine sk hk rfl rfl rfl fun a hk => ?_
          refine sk hk rfl rfl rfl fun a hk => ?_
          refine sv (.bool true) hk rfl rfl rfl fun a hk => ?_
          show wpList _ _ _ [] _ _
          refine wpList_nil ?_
          obtain rfl := Option.some.inj H
          show R23 _ _
          rw [hR23]
          exact ⟨true, rfl, (hk.c 0 rfl (hk.c 3 rfl (hk.c 4 rfl (hk.c 46 rfl hk.k)))), (hs.pick [(2, 2)] rfl)⟩
        · have hk := hk.lit 33 c25 rfl
          refine sm _ rfl hk rfl rfl rfl fun a hk => ?_
          rcases ite_some H with ⟨c26, H⟩ | ⟨_, H⟩
          rotate_left
          · cases H
          obtain ⟨b27, q28, hAc26⟩ := (o15.view).some_ (0 : Int) c26.1 c26.2
          refine si rfl hk rfl rfl rfl rfl un27 sz3 c26.1 c26.2 hAc26 fun a hk => ?_
          obtain ⟨_, rfl, e29⟩ := (o15.view).at_ 0 (0 : Int) c26.1 c26.2
          refine sl (v := (.int .i64 (y10.1.getD (0 : Int).toNat 0))) rfl hk rfl rfl rfl ag3 ((e29 0 _ rfl).cell (hs.hasG (k := 2) rfl)) fun a hk => ?_
          refine sv (.bool ((y10.1.getD (0 : Int).toNat 0) != 0)) hk rfl rfl rfl fun a hk => ?_
          refine sv (.bool ((y10.1.getD (0 : Int).toNat 0) != 0)) hk rfl rfl rfl fun a hk => ?_
          refine sm _ rfl hk rfl rfl rfl fun a hk => ?_
          rcases cond_some H with ⟨c30, H⟩ | ⟨c30, H⟩
          · have hk := hk.lit 39 c30 rfl
            refine sk hk rfl rfl rfl fun a hk => ?_
            refine sk hk rfl rfl rfl fun a hk => ?_
            refine sk hk rfl rfl rfl fun a hk => ?_
            refine sk hk rfl rfl rfl fun a hk => ?_
            refine sk hk rfl rfl rfl fun a hk => ?_
            refine sk hk rfl rfl rfl fun a hk => ?_
            refine sv (.bool true) hk rfl rfl rfl fun a hk => ?_
            show wpList _ _ _ [] _ _
            refine wpList_nil ?_
            obtain rfl := Option.some.inj H
            show R23 _ _
            rw [hR23]
            exact ⟨true, rfl, (hk.c 0 rfl (hk.c 3 rfl (hk.c 4 rfl (hk.c 46 rfl hk.k)))), (hs.pick [(2, 2)] rfl)⟩
          · have hk := hk.lit 39 c30 rfl
            refine sm _ rfl hk rfl rfl rfl fun a hk => ?_
            rcases ite_some H with ⟨c31, H⟩ | ⟨_, H⟩
            rotate_left
            · cases H
            obtain ⟨b32, q33, hAc31⟩ := (o15.view).some_ (3 : Int) c31.1 c31.2
            refine si rfl hk rfl rfl rfl rfl un27 sz3 c31.1 c31.2 hAc31 fun a hk => ?_
            obtain ⟨_, rfl, e34⟩ := (o15.view).at_ 0 (3 : Int) c31.1 c31.2
            refine sl (v := (.int .i64 (y10.1.getD (3 : Int).toNat 0))) rfl hk rfl rfl rfl ag3 ((e34 0 _ rfl).cell (hs.hasG (k := 2) rfl)) fun a hk => ?_
            refine sm _ rfl hk rfl rfl rfl fun a hk => ?_
            refine sv (.int .i64 (w64 (7 + y7))) hk rfl rfl rfl fun a hk => ?_
            refine sv (.bool ((y10.1.getD (3 : Int).toNat 0) != (w64 (7 + y7)))) hk rfl rfl rfl fun a hk => ?_
            refine sv (.bool ((y10.1.getD (3 : Int).toNat 0) != (w64 (7 + y7)))) hk rfl rfl rfl fun a hk => ?_
            show wpList _ _ _ [] _ _
            refine wpList_nil ?_
            obtain rfl := Option.some.inj H
            show R23 _ _
            rw [hR23]
            exact ⟨((y10.1.getD (3 : Int).toNat 0) != (w64 (7 + y7))), rfl, (hk.c 0 rfl (hk.c 3 rfl (hk.c 4 rfl (hk.c 46 rfl hk.k)))), (hs.pick [(2, 2)] rfl)⟩
    · intro a w hR0
      rw [hR23] at hR0
      obtain ⟨u19, rfl, hk, hs⟩ := hR0
      have H := HL22
      try dsimp only at H
      refine hK17 _ _ ?_
      rcases cond_some H with ⟨c35, H⟩ | ⟨c35, H⟩
      · have hk := hk.lit 46 c35 rfl
        refine cnd_true hk rfl rfl ?_
        apply wp_seq_k; intro K36 hK36
        apply wp_region_lit
        refine sa _ rfl hk rfl rfl rfl fun a hk => ?_
        show wpList _ _ _ [] _ _
        refine wpList_nil ?_
        refine hK36 _ _ ?_
        refine wp_ret ?_
        obtain rfl := Option.some.inj H
        exact fin hk _ [(.bool false)] rfl ⟨rfl, trivial⟩ ⟨rfl, (hs.pick [] rfl).dnil⟩
      · have hk := hk.lit 46 c35 rfl
        refine cnd_false hk rfl rfl ?_
        refine wp_skip ?_
        refine hK16 _ _ ?_
        apply wp_seq_k; intro K37 hK37
        apply wp_seq_k; intro K38 hK38
        apply wp_region_lit
        refine sa _ rfl hk rfl rfl rfl fun a hk => ?_
        show wpList _ _ _ [] _ _
        refine wpList_nil ?_
        refine hK38 _ _ ?_
        obtain ⟨o42, h43, HL44⟩ := bind_some H
        clear H
        obtain ⟨R45, hR45⟩ : ∃ R : Act → World → Prop, R = fun a w => o42 = .out () ∧ Kn [(0, (.slice A0_ l0.length p0_)), (4, (.slice A12 y10.1.length p13))] 158 a ∧ Sat [] w0 w [(1, k0_)] [(2, k14)] := ⟨_, rfl⟩
        refine wp_cutq R45 ?_ ?_
        · refine wp_block ?_
          obtain ⟨fu47, h43⟩ := loopO_some h43
          obtain ⟨I46, hI46⟩ : ∃ I : Nat → Act → World → Prop, I = fun fu a w => ∃ (u41 : Int), loopN (fun s => laws_FnPath.s0 y7 y10 s) fu u41 = some o42 ∧ Kn [(0, (.slice A0_ l0.length p0_)), (3, (.int .i64 y7)), (4, (.slice A12 y10.1.length p13)), (6, (.int .i64 u41))] 158 a ∧ Sat [] w0 w [(1, k0_)] [(2, k14)] := ⟨_, rfl⟩
          refine wp_loop_ghost I46 fu47 ?_ ?_
          · rw [hI46]
            exact ⟨0, h43, (hk.c 0 rfl (hk.c 3 rfl (hk.c 4 rfl (hk.c 6 rfl hk.k)))), (hs.pick [(2, 2)] rfl)⟩
          · clear h43 hk hs
            intro fu47 a w hI0
            rw [hI46] at hI0
            obtain ⟨u41, hi, hk, hs⟩ := hI0
            obtain ⟨x48, H, h49⟩ := loop_round hi
            try dsimp only at H
            unfold laws_FnPath.s0 at H
            apply wp_seq_k; intro K50 hK50
            apply wp_seq_k; intro K51 hK51
            apply wp_region_lit
            refine sm _ rfl hk rfl rfl rfl fun a hk => ?_
            refine sv (.bool (decide (u41 < 15))) hk rfl rfl rfl fun a hk => ?_
            show wpList _ _ _ [] _ _
            refine wpList_nil ?_
            refine hK51 _ _ ?_
            rcases cond_some H with ⟨c52, H⟩ | ⟨c52, H⟩
            · have hk := hk.lit 48 c52 rfl
              refine cnd_true hk rfl rfl ?_
              refine wp_skip ?_
              refine hK50 _ _ ?_
              apply wp_seq_k; intro K53 hK53
              refine wp_block ?_
              apply wp_seq_k; intro K54 hK54
              apply wp_region_lit
              refine sm _ rfl hk rfl rfl rfl fun a hk => ?_
              refine sm _ rfl hk rfl rfl rfl fun a hk => ?_
              obtain ⟨y55, h56, H⟩ := bind_some H
              refine sc rfl en52 hk rfl rfl rfl (impl_OnPath_t _ u41 y7 _ h56) ?_
              rintro _ w ⟨rfl, hG⟩ a hk
              have hs := hs.call0 hG
              refine sm _ rfl hk rfl rfl rfl fun a hk => ?_
              refine sv (.bool y55.1) hk rfl rfl rfl fun a hk => ?_
              refine sv (.int .i64 y55.2) hk rfl rfl rfl fun a hk => ?_
              refine sa _ rfl hk rfl rfl rfl fun a hk => ?_
              refine sa _ rfl hk rfl rfl rfl fun a hk => ?_
              show wpList _ _ _ [] _ _
              refine wpList_nil ?_
              refine hK54 _ _ ?_
              apply wp_seq_k; intro K57 hK57
              obtain ⟨o60, h61, HL62⟩ := bind_some H
              clear H
              obtain ⟨R63, hR63⟩ : ∃ R : Act → World → Prop, R = fun a w => ∃ (u59 : Bool), u59 = o60 ∧ Kn [(0, (.slice A0_ l0.length p0_)), (3, (.int .i64 y7)), (4, (.slice A12 y10.1.length p13)), (6, (.int .i64 u41)), (7, (.bool y55.1)), (8, (.int .i64 y55.2)), (9, (.bool u59))] 158 a ∧ Sat [] w0 w [(1, k0_)] [(2, k14)] := ⟨_, rfl⟩
              refine wp_cutq R63 ?_ ?_
              · have H := h61
                apply wp_region_lit
                refine sm _ rfl hk rfl rfl rfl fun a hk => ?_
                rcases ite_some H with ⟨c64, H⟩ | ⟨_, H⟩
                rotate_left
                · cases H
                obtain ⟨b65, q66, hAc64⟩ := (o15.view).some_ (0 : Int) c64.1 c64.2
                refine si rfl hk rfl rfl rfl rfl un27 sz3 c64.1 c64.2 hAc64 fun a hk => ?_
                obtain ⟨_, rfl, e67⟩ := (o15.view).at_ 0 (0 : Int) c64.1 c64.2
                refine sl (v := (.int .i64 (y10.1.getD (0 : Int).toNat 0))) rfl hk rfl rfl rfl ag3 ((e67 0 _ rfl).cell (hs.hasG (k := 2) rfl)) fun a hk => ?_
                refine sm _ rfl hk rfl rfl rfl fun a hk => ?_
                refine sv (.bool ((y10.1.getD (0 : Int).toNat 0) == u41)) hk rfl rfl rfl fun a hk => ?_
                refine sm _ rfl hk rfl rfl rfl fun a hk => ?_
                rcases cond_some H with ⟨c68, H⟩ | ⟨c68, H⟩
                · have hk := hk.lit 62 c68 rfl
                  refine sk hk rfl rfl rfl fun a hk => ?_
                  refine sk hk rfl rfl rfl fun a hk => ?_
                  refine sk hk rfl rfl rfl fun a hk => ?_
                  refine sk hk rfl rfl rfl fun a hk => ?_
                  refine sk hk rfl rfl rfl fun a hk => ?_
                  refine sv (.bool true) hk rfl rfl rfl fun a hk => ?_
                  refine sm _ rfl hk rfl rfl rfl fun a hk => ?_
                  refine sk hk rfl rfl rfl fun a hk => ?_
                  refine sk hk rfl rfl rfl fun a hk => ?_
                  refine sk hk rfl rfl rfl fun a hk => ?_
                  refine sk hk rfl rfl rfl fun a hk => ?_
                  refine sk hk rfl rfl rfl fun a hk => ?_
                  refine sv (.bool true) hk rfl rfl rfl fun a hk => ?_
                  refine sm _ rfl hk rfl rfl rfl fun a hk => ?_
                  refine sk hk rfl rfl rfl fun a hk => ?_
                  refine sk hk rfl rfl rfl fun a hk => ?_
                  refine sk hk rfl rfl rfl fun a hk => ?_
                  refine sk hk rfl rfl rfl fun a hk => ?_
                  refine sk hk rfl rfl rfl fun a hk => ?_
                  refine sv (.bool true) hk rfl rfl rfl fun a hk => ?_
                  refine sa _ rfl hk rfl rfl rfl fun a hk => ?_
                  show wpList _ _ _ [] _ _
                  refine wpList_nil ?_
                  obtain rfl := Option.some.inj H
                  show R63 _ _
                  rw [hR63]
                  exact ⟨true, rfl, (hk.c 0 rfl (hk.c 3 rfl (hk.c 4 rfl (hk.c 6 rfl (hk.c 7 rfl (hk.c 8 rfl (hk.c 9 rfl hk.k))))))), (hs.pick [(2, 2)] rfl)⟩
                · have hk := hk.lit 62 c68 rfl
                  refine sm _ rfl hk rfl rfl rfl fun a hk => ?_
                  rcases ite_some H with ⟨c69, H⟩ | ⟨_, H⟩
                  rotate_left
                  · cases H
                  obtain ⟨b70, q71, hAc69⟩ := (o15.view).some_ (1 : Int) c69.1 c69.2
                  refine si rfl hk rfl rfl rfl rfl un27 sz3 c69.1 c69.2 hAc69 fun a hk => ?_
                  obtain ⟨_, rfl, e72⟩ := (o15.view).at_ 0 (1 : Int) c69.1 c69.2
                  refine sl (v := (.int .i64 (y10.1.getD (1 : Int).toNat 0))) rfl hk rfl rfl rfl ag3 ((e72 0 _ rfl).cell (hs.hasG (k := 2) rfl)) fun a hk => ?_
                  refine sm _ rfl hk rfl rfl rfl fun a hk => ?_
                  refine sv (.bool ((y10.1.getD (1 : Int).toNat 0) == u41)) hk rfl rfl rfl fun a hk => ?_
                  refine sv (.bool ((y10.1.getD (1 : Int).toNat 0) == u41)) hk rfl rfl rfl fun a hk => ?_
                  refine sm _ rfl hk rfl rfl rfl fun a hk => ?_
                  rcases cond_some H with ⟨c73, H⟩ | ⟨c73, H⟩
                  · have hk := hk.lit 69 c73 rfl
                    refine sk hk rfl rfl rfl fun a hk => ?_
                    refine sk hk rfl rfl rfl fun a hk => ?_
                    refine sk hk rfl rfl rfl fun a hk => ?_
                    refine sk hk rfl rfl rfl fun a hk => ?_
                    refine sk hk rfl rfl rfl fun a hk => ?_
                    refine sv (.bool true) hk rfl rfl rfl fun a hk => ?_
                    refine sm _ rfl hk rfl rfl rfl fun a hk => ?_
                    refine sk hk rfl rfl rfl fun a hk => ?_
                    refine sk hk rfl rfl rfl fun a hk => ?_
                    refine sk hk rfl rfl rfl fun a hk => ?_
                    refine sk hk rfl rfl rfl fun a hk => ?_
                    refine sk hk rfl rfl rfl fun a hk => ?_
                    refine sv (.bool true) hk rfl rfl rfl fun a hk => ?_
                    refine sa _ rfl hk rfl rfl rfl fun a hk => ?_
                    show wpList _ _ _ [] _ _
                    refine wpList_nil ?_
                    obtain rfl := Option.some.inj H
                    show R63 _ _
                    rw [hR63]
                    exact ⟨true, rfl, (hk.c 0 rfl (hk.c 3 rfl (hk.c 4 rfl (hk.c 6 rfl (hk.c 7 rfl (hk.c 8 rfl (hk.c 9 rfl hk.k))))))), (hs.pick [(2, 2)] rfl)⟩
                  · have hk := hk.lit 69 c73 rfl
                    refine sm _ rfl hk rfl rfl rfl fun a hk => ?_
                    rcases ite_some H with ⟨c74, H⟩ | ⟨_, H⟩
                    rotate_left
                    · cases H
                    obtain ⟨b75, q76, hAc74⟩ := (o15.view).some_ (2 : Int) c74.1 c74.2
                    refine si rfl hk rfl rfl rfl rfl un27 sz3 c74.1 c74.2 hAc74 fun a hk => ?_
                    obtain ⟨_, rfl, e77⟩ := (o15.view).at_ 0 (2 : Int) c74.1 c74.2
                    refine sl (v := (.int .i64 (y10.1.getD (2 : Int).toNat 0))) rfl hk rfl rfl rfl ag3 ((e77 0 _ rfl).cell (hs.hasG (k := 2) rfl)) fun a hk => ?_
                    refine sm _ rfl hk rfl rfl rfl fun a hk => ?_
                    refine sv (.bool ((y10.1.getD (2 : Int).toNat 0) == u41)) hk rfl rfl rfl fun a hk => ?_
                    refine sv (.bool ((y10.1.getD (2 : Int).toNat 0) == u41)) hk rfl rfl rfl fun a hk => ?_
                    refine sm _ rfl hk rfl rfl rfl fun a hk => ?_
                    rcases cond_some H with ⟨c78, H⟩ | ⟨c78, H⟩
                    · have hk := hk.lit 76 c78 rfl
                      refine sk hk rfl rfl rfl fun a hk => ?_
                      refine sk hk rfl rfl rfl fun a hk => ?_
                      refine sk hk rfl rfl rfl fun a hk => ?_
                      refine sk hk rfl rfl rfl fun a hk => ?_
                      refine sk hk rfl rfl rfl fun a hk => ?_
                      refine sv (.bool true) hk rfl rfl rfl fun a hk => ?_
                      refine sa _ rfl hk rfl rfl rfl fun a hk => ?_
                      show wpList _ _ _ [] _ _
                      refine wpList_nil ?_
                      obtain rfl := Option.some.inj H
                      show R63 _ _
                      rw [hR63]
                      exact ⟨true, rfl, (hk.c 0 rfl (hk.c 3 rfl (hk.c 4 rfl (hk.c 6 rfl (hk.c 7 rfl (hk.c 8 rfl (hk.c 9 rfl hk.k))))))), (hs.pick [(2, 2)] rfl)⟩
                    · have hk := hk.lit 76 c78 rfl
                      refine sm _ rfl hk rfl rfl rfl fun a hk => ?_
                      rcases ite_some H with ⟨c79, H⟩ | ⟨_, H⟩
                      rotate_left
                      · cases H
                      obtain ⟨b80, q81, hAc79⟩ := (o15.view).some_ (3 : Int) c79.1 c79.2
                      refine si rfl hk rfl rfl rfl rfl un27 sz3 c79.1 c79.2 hAc79 fun a hk => ?_
                      obtain ⟨_, rfl, e82⟩ := (o15.view).at_ 0 (3 : Int) c79.1 c79.2
                      refine sl (v := (.int .i64 (y10.1.getD (3 : Int).toNat 0))) rfl hk rfl rfl rfl ag3 ((e82 0 _ rfl).cell (hs.hasG (k := 2) rfl)) fun a hk => ?_
                      refine sm _ rfl hk rfl rfl rfl fun a hk => ?_
                      refine sv (.bool ((y10.1.getD (3 : Int).toNat 0) == u41)) hk rfl rfl rfl fun a hk => ?_
                      refine sv (.bool ((y10.1.getD (3 : Int).toNat 0) == u41)) hk rfl rfl rfl fun a hk => ?_
                      refine sa _ rfl hk rfl rfl rfl fun a hk => ?_
                      show wpList _ _ _ [] _ _
                      refine wpList_nil ?_
                      obtain rfl := Option.some.inj H
                      show R63 _ _
                      rw [hR63]
                      exact ⟨((y10.1.getD (3 : Int).toNat 0) == u41), rfl, (hk.c 0 rfl (hk.c 3 rfl (hk.c 4 rfl (hk.c 6 rfl (hk.c 7 rfl (hk.c 8 rfl (hk.c 9 rfl hk.k))))))), (hs.pick [(2, 2)] rfl)⟩
              · intro a w hR0
                rw [hR63] at hR0
                obtain ⟨u59, rfl, hk, hs⟩ := hR0
                have H := HL62
                try dsimp only at H
                refine hK57 _ _ ?_
                apply wp_seq_k; intro K83 hK83
                obtain ⟨o86, h87, HL88⟩ := bind_some H
                clear H
                obtain ⟨R89, hR89⟩ : ∃ R : Act → World → Prop, R = fun a w => ∃ (u85 : Bool), u85 = o86 ∧ Kn [(0, (.slice A0_ l0.length p0_)), (3, (.int .i64 y7)), (4, (.slice A12 y10.1.length p13)), (6, (.int .i64 u41)), (89, (.bool u85))] 158 a ∧ Sat [] w0 w [(1, k0_)] [(2, k14)] := ⟨_, rfl⟩
                refine wp_cutq R89 ?_ ?_
                · have H := h87
                  apply wp_region_lit
                  refine sm _ rfl hk rfl rfl rfl fun a hk => ?_
                  refine sv (.bool (y55.2 != 0)) hk rfl rfl rfl fun a hk => ?_
                  refine sm _ rfl hk rfl rfl rfl fun a hk => ?_
                  rcases cond_some H with ⟨c90, H⟩ | ⟨c90, H⟩
                  · have hk := hk.lit 85 c90 rfl
                    refine sk hk rfl rfl rfl fun a hk => ?_
                    refine sk hk rfl rfl rfl fun a hk => ?_
                    refine sk hk rfl rfl rfl fun a hk => ?_
                    refine sv (.bool true) hk rfl rfl rfl fun a hk => ?_
                    show wpList _ _ _ [] _ _
                    refine wpList_nil ?_
                    obtain rfl := Option.some.inj H
                    show R89 _ _
                    rw [hR89]
                    exact ⟨true, rfl, (hk.c 0 rfl (hk.c 3 rfl (hk.c 4 rfl (hk.c 6 rfl (hk.c 89 rfl hk.k))))), (hs.pick [(2, 2)] rfl)⟩
                  · have hk := hk.lit 85 c90 rfl
                    refine sm _ rfl hk rfl rfl rfl fun a hk => ?_
                    refine sm _ rfl hk rfl rfl rfl fun a hk => ?_
                    refine sbn rfl hk rfl rfl rfl rfl un4 fun a hk => ?_
                    refine sv (.bool (!(y55.1 == u59))) hk rfl rfl rfl fun a hk => ?_
                    show wpList _ _ _ [] _ _
                    refine wpList_nil ?_
                    obtain rfl := Option.some.inj H
                    show R89 _ _
                    rw [hR89]
                    exact ⟨(!(y55.1 == u59)), rfl, (hk.c 0 rfl (hk.c 3 rfl (hk.c 4 rfl (hk.c 6 rfl (hk.c 89 rfl hk.k))))), (hs.pick [(2, 2)] rfl)⟩
                · intro a w hR0
                  rw [hR89] at hR0
                  obtain ⟨u85, rfl, hk, hs⟩ := hR0
                  have H := HL88
                  try dsimp only at H
                  refine hK83 _ _ ?_
                  rcases cond_some H with ⟨c91, H⟩ | ⟨c91, H⟩
                  · have hk := hk.lit 89 c91 rfl
                    refine cnd_true hk rfl rfl ?_
                    apply wp_seq_k; intro K92 hK92
                    apply wp_region_lit
                    refine sa _ rfl hk rfl rfl rfl fun a hk => ?_
                    show wpList _ _ _ [] _ _
                    refine wpList_nil ?_
                    refine hK92 _ _ ?_
                    refine wp_ret ?_
                    obtain rfl := Option.some.inj H
                    have ho42 := h49
                    try dsimp only at ho42
                    subst ho42
                    have H := HL44
                    try dsimp only at H
                    obtain rfl := Option.some.inj H
                    exact fin hk _ [(.bool false)] rfl ⟨rfl, trivial⟩ ⟨rfl, (hs.pick [] rfl).dnil⟩
                  · have hk := hk.lit 89 c91 rfl
                    refine cnd_false hk rfl rfl ?_
                    refine wp_skip ?_
                    refine hK53 _ _ ?_
                    apply wp_region_lit
                    refine sm _ rfl hk rfl rfl rfl fun a hk => ?_
                    refine sv (.int .i64 (w64 (u41 + 1))) hk rfl rfl rfl fun a hk => ?_
                    refine sa _ rfl hk rfl rfl rfl fun a hk => ?_
                    show wpList _ _ _ [] _ _
                    refine wpList_nil ?_
                    obtain rfl := Option.some.inj H
                    obtain ⟨m93, hmm93, h49⟩ := h49
                    show ∃ n', n' < _ ∧ I46 n' _ _
                    refine ⟨m93, hmm93, ?_⟩
                    rw [hI46]
                    exact ⟨(w64 (u41 + 1)), h49, (hk.c 0 rfl (hk.c 3 rfl (hk.c 4 rfl (hk.c 6 rfl hk.k)))), (hs.pick [(2, 2)] rfl)⟩
            · have hk := hk.lit 48 c52 rfl
              refine cnd_false hk rfl rfl ?_
              refine wp_exit ?_
              obtain rfl := Option.some.inj H
              show R45 _ _
              rw [hR45]
              exact ⟨h49.symm, (hk.c 0 rfl (hk.c 4 rfl hk.k)), (hs.pick [(2, 2)] rfl)⟩
        · intro a w hR0
          rw [hR45] at hR0
          obtain ⟨rfl, hk, hs⟩ := hR0
          have H := HL44
          try dsimp only at H
          refine hK37 _ _ ?_
          apply wp_seq_k; intro K94 hK94
          apply wp_region_lit
          refine sm _ rfl hk rfl rfl rfl fun a hk => ?_
          obtain ⟨y95, h96, H⟩ := bind_some H
          refine sc rfl en54 hk rfl rfl rfl (spec_DrawsOf_t _ A0_ p0_ l0 _ v0_ (hs.hasD (k := 1) rfl) 12 _ h96) ?_
          rintro _ w ⟨A97, p98, k99, rfl, o100, hG⟩ a hk
          have hs := hs.call0k hG [7] rfl
          obtain ⟨y101, h102, H⟩ := bind_some H
          refine sc rfl en53 hk rfl rfl rfl (impl_NewOram_t _ A97 p98 y95 _ o100.view (hs.hasG (k := 7) rfl) _ h102) ?_
          rintro _ w ⟨A103, p104, k105, A107, p108, k109, A111, p112, k113, rfl, o106, o110, o114, hG⟩ a hk
          have hs := hs.call0k hG [8, 9, 10] rfl
          refine sm _ rfl hk rfl rfl rfl fun a hk => ?_
          refine sv (.agg #[.slice A103 y101.1.Pos.length p104, .slice A107 y101.1.Stash.length p108, .slice A111 y101.1.Buckets.length p112]) hk rfl rfl rfl fun a hk => ?_
          refine sv (.int .i64 y101.2) hk rfl rfl rfl fun a hk => ?_
          refine salx 11 hs rfl hk rfl rfl ze88 rfl fun b115 w a hk hs => ?_
          refine ssw 11 hs rfl rfl hk rfl rfl rfl rfl sz88 (by simp [Value.oneCell']) rfl fun w a hk hs => ?_
          refine sa _ rfl hk rfl rfl rfl fun a hk => ?_
          show wpList _ _ _ [] _ _
          refine wpList_nil ?_
          refine hK94 _ _ ?_
          apply wp_seq_k; intro K116 hK116
          refine wp_region_tree (.q 0 (.alt 1 (.alt 2 (.alt 3 (.alt 4 (.q 5 (.q 6 (.alt 7 (.last 8) .stop))) .stop) .stop) .stop) .stop)) mo (by kernel_rfl) (hs.pick [(11, 11), (10, 10), (9, 9), (8, 8), (7, 7), (2, 2)] rfl) fun _ => ?_
          have hs := hs.drew
          refine tqst (.agg #[.slice A103 y101.1.Pos.length p104, .slice A107 y101.1.Stash.length p108, .slice A111 y101.1.Buckets.length p112]) hk rfl rfl rfl rfl (fun w hs => sln [.slice A103 y101.1.Pos.length p104, .slice A107 y101.1.Stash.length p108, .slice A111 y101.1.Buckets.length p112] rfl hk rfl rfl rfl ag88 sz88 (box_cells hs (k := 11) rfl) fun a hk => qe hk) fun a hk => ?_
          refine tsst hk rfl rfl (fun K_r117_1 hK_r117_1 w hF => ?_) wt_stop
          have hs := hs.f hF
          refine sm _ rfl hk rfl rfl rfl fun a hk => ?_
          refine se (hs.pick [(11, 11), (10, 10), (9, 9), (8, 8), (7, 7), (2, 2)] rfl) hk (hK_r117_1 _ _ ?_)
          refine tsst hk rfl rfl (fun K_r117_2 hK_r117_2 w hF => ?_) wt_stop
          have hs := hs.f hF
          obtain ⟨y118, h119, H⟩ := bind_some H
          refine sc rfl en32 hk rfl rfl rfl (laws_at_t _ A0_ p0_ l0 _ v0_ (hs.hasD (k := 1) rfl) 1 12 _ h119) ?_
          rintro _ w ⟨rfl, hG⟩ a hk
          have hs := hs.call0 hG
          refine se (hs.pick [(11, 11), (10, 10), (9, 9), (8, 8), (7, 7), (2, 2)] rfl) hk (hK_r117_2 _ _ ?_)
          refine tsst hk rfl rfl (fun K_r117_3 hK_r117_3 w hF => ?_) wt_stop
          have hs := hs.f hF
          obtain ⟨y120, h121, H⟩ := bind_some H
          refine sc rfl en55 hk rfl rfl rfl (impl_ValueAt_t _ y101.1 A103 p104 _ o106.view (hs.hasG (k := 8) rfl) A107 p108 _ o110.view (hs.hasG (k := 9) rfl) A111 p112 _ o114.view (hs.hasG (k := 10) rfl) y118 _ h121) ?_
          rintro _ w ⟨rfl, hG⟩ a hk
          have hs := hs.call0 hG
          refine se (hs.pick [(11, 11), (10, 10), (9, 9), (8, 8), (7, 7), (2, 2)] rfl) hk (hK_r117_3 _ _ ?_)
          refine tsst hk rfl rfl (fun K_r117_4 hK_r117_4 w hF => ?_) wt_stop
          have hs := hs.f hF
          refine sm _ rfl hk rfl rfl rfl fun a hk => ?_
          refine se (hs.pick [(11, 11), (10, 10), (9, 9), (8, 8), (7, 7), (2, 2)] rfl) hk (hK_r117_4 _ _ ?_)
          refine tqst (.int .i64 y120.1) hk rfl rfl rfl rfl (fun w hs => sv (.int .i64 y120.1) hk rfl rfl rfl fun a hk => qe hk) fun a hk => ?_
          refine tqst (.int .i64 y120.2) hk rfl rfl rfl rfl (fun w hs => sv (.int .i64 y120.2) hk rfl rfl rfl fun a hk => qe hk) fun a hk => ?_
          refine tsst hk rfl rfl (fun K_r117_7 hK_r117_7 w hF => ?_) wt_stop
          have hs := hs.f hF
          refine sa _ rfl hk rfl rfl rfl fun a hk => ?_
          refine se (hs.pick [(11, 11), (10, 10), (9, 9), (8, 8), (7, 7), (2, 2)] rfl) hk (hK_r117_7 _ _ ?_)
          refine tlst hk rfl rfl fun K_r117_8 hK_r117_8 w hF => ?_
          have hs := hs.f hF
          refine sa _ rfl hk rfl rfl rfl fun a hk => ?_
          refine se trivial hk (hK_r117_8 _ _ fun w hF => ?_)
          have hs := hs.f hF
          refine hK116 _ _ ?_
          apply wp_seq_k; intro K122 hK122
          refine wp_region_tree (.q 0 (.alt 1 (.alt 2 (.alt 3 (.alt 4 (.q 5 (.q 6 (.alt 7 (.last 8) .stop))) .stop) .stop) .stop) .stop)) mo (by kernel_rfl) (hs.pick [(11, 11), (10, 10), (9, 9), (8, 8), (7, 7), (2, 2)] rfl) fun _ => ?_
          have hs := hs.drew
          refine tqst (.agg #[.slice A103 y101.1.Pos.length p104, .slice A107 y101.1.Stash.length p108, .slice A111 y101.1.Buckets.length p112]) hk rfl rfl rfl rfl (fun w hs => sln [.slice A103 y101.1.Pos.length p104, .slice A107 y101.1.Stash.length p108, .slice A111 y101.1.Buckets.length p112] rfl hk rfl rfl rfl ag88 sz88 (box_cells hs (k := 11) rfl) fun a hk => qe hk) fun a hk => ?_
          refine tsst hk rfl rfl (fun K_r123_1 hK_r123_1 w hF => ?_) wt_stop
          have hs := hs.f hF
          refine sm _ rfl hk rfl rfl rfl fun a hk => ?_
          refine se (hs.pick [(11, 11), (10, 10), (9, 9), (8, 8), (7, 7), (2, 2)] rfl) hk (hK_r123_1 _ _ ?_)
          refine tsst hk rfl rfl (fun K_r123_2 hK_r123_2 w hF => ?_) wt_stop
          have hs := hs.f hF
          obtain ⟨y124, h125, H⟩ := bind_some H
          refine sc rfl en32 hk rfl rfl rfl (laws_at_t _ A0_ p0_ l0 _ v0_ (hs.hasD (k := 1) rfl) 1 12 _ h125) ?_
          rintro _ w ⟨rfl, hG⟩ a hk
          have hs := hs.call0 hG
          refine se (hs.pick [(11, 11), (10, 10), (9, 9), (8, 8), (7, 7), (2, 2)] rfl) hk (hK_r123_2 _ _ ?_)
          refine tsst hk rfl rfl (fun K_r123_3 hK_r123_3 w hF => ?_) wt_stop
          have hs := hs.f hF
          obtain ⟨y126, h127, H⟩ := bind_some H
          refine sc rfl en56 hk rfl rfl rfl (impl_WhereIs_t _ y101.1 A103 p104 _ o106.view (hs.hasG (k := 8) rfl) A107 p108 _ o110.view (hs.hasG (k := 9) rfl) A111 p112 _ o114.view (hs.hasG (k := 10) rfl) y124 _ h127) ?_
          rintro _ w ⟨rfl, hG⟩ a hk
          have hs := hs.call0 hG
          refine se (hs.pick [(11, 11), (10, 10), (9, 9), (8, 8), (7, 7), (2, 2)] rfl) hk (hK_r123_3 _ _ ?_)
          refine tsst hk rfl rfl (fun K_r123_4 hK_r123_4 w hF => ?_) wt_stop
          have hs := hs.f hF
          refine sm _ rfl hk rfl rfl rfl fun a hk => ?_
          refine se (hs.pick [(11, 11), (10, 10), (9, 9), (8, 8), (7, 7), (2, 2)] rfl) hk (hK_r123_4 _ _ ?_)
          refine tqst (.int .i64 y126.1) hk rfl rfl rfl rfl (fun w hs => sv (.int .i64 y126.1) hk rfl rfl rfl fun a hk => qe hk) fun a hk => ?_
          refine tqst (.int .i64 y126.2) hk rfl rfl rfl rfl (fun w hs => sv (.int .i64 y126.2) hk rfl rfl rfl fun a hk => qe hk) fun a hk => ?_
          refine tsst hk rfl rfl (fun K_r123_7 hK_r123_7 w hF => ?_) wt_stop
          have hs := hs.f hF
          refine sa _ rfl hk rfl rfl rfl fun a hk => ?_
          refine se (hs.pick [(11, 11), (10, 10), (9, 9), (8, 8), (7, 7), (2, 2)] rfl) hk (hK_r123_7 _ _ ?_)
          refine tlst hk rfl rfl fun K_r123_8 hK_r123_8 w hF => ?_
          have hs := hs.f hF
          refine sa _ rfl hk rfl rfl rfl fun a hk => ?_
          refine se trivial hk (hK_r123_8 _ _ fun w hF => ?_)
          have hs := hs.f hF
          refine hK122 _ _ ?_
          apply wp_seq_k; intro K128 hK128
          obtain ⟨o131, h132, HL133⟩ := bind_some H
          clear H
          obtain ⟨R134, hR134⟩ : ∃ R : Act → World → Prop, R = fun a w => ∃ (u130 : Bool), u130 = o131 ∧ Kn [(2, (.bool u130))] 158 a ∧ Sat [] w0 w [(1, k0_)] [] := ⟨_, rfl⟩
          refine wp_cutq R134 ?_ ?_
          · have H := h132
            refine wp_region_mix [(0, true), (1, true), (2, true), (3, true), (4, true), (5, true), (6, true), (7, true), (8, true), (9, true), (10, true), (11, true), (12, true), (13, true), (14, true), (15, true), (16, true), (17, true), (18, true), (19, true), (20, true), (21, true), (22, true), (23, true), (24, true), (25, true), (26, true), (27, true), (28, true), (29, true), (30, true), (31, true), (32, true), (33, true), (34, true), (35, true), (36, true), (37, true), (38, true), (39, true), (40, true), (41, true), (42, true), (43, true), (44, true), (45, true), (46, true), (47, true), (48, true)] mo (by kernel_rfl) hs fun _ => ?_
            have hs := hs.drew
            refine qst (.slice A12 y10.1.length p13) hk rfl rfl rfl rfl (fun w hs => sm _ rfl hk rfl rfl rfl fun a hk => qe hk) fun a hk => ?_
            rcases ite_some H with ⟨c135, H⟩ | ⟨_, H⟩
            rotate_left
            · cases H
            obtain ⟨b136, q137, hAc135⟩ := (o15.view).some_ (1 : Int) c135.1 c135.2
            refine qst (.pointer (some (padd A12 ((1 : Int).toNat * 1)))) hk rfl rfl rfl rfl (fun w hs => si rfl hk rfl rfl rfl rfl un27 sz3 c135.1 c135.2 hAc135 fun a hk => qe hk) fun a hk => ?_
            obtain ⟨_, rfl, e138⟩ := (o15.view).at_ 0 (1 : Int) c135.1 c135.2
            refine qst (.int .i64 (y10.1.getD (1 : Int).toNat 0)) hk rfl rfl rfl rfl (fun w hs => sl (v := (.int .i64 (y10.1.getD (1 : Int).toNat 0))) rfl hk rfl rfl rfl ag3 ((e138 0 _ rfl).cell (hs.hasG (k := 2) rfl)) fun a hk => qe hk) fun a hk => ?_
            refine qst (.bool (decide ((y10.1.getD (1 : Int).toNat 0) ≥ 1))) hk rfl rfl rfl rfl (fun w hs => sv (.bool (decide ((y10.1.getD (1 : Int).toNat 0) ≥ 1))) hk rfl rfl rfl fun a hk => qe hk) fun a hk => ?_
            refine qst (.bool (decide ((y10.1.getD (1 : Int).toNat 0) ≥ 1))) hk rfl rfl rfl rfl (fun w hs => sm _ rfl hk rfl rfl rfl fun a hk => qe hk) fun a hk => ?_
            rcases cond_some H with ⟨c139, H⟩ | ⟨c139, H⟩
            · have hk := hk.lit 114 c139 rfl
              refine qst (.slice A12 y10.1.length p13) hk rfl rfl rfl rfl (fun w hs => sm _ rfl hk rfl rfl rfl fun a hk => qe hk) fun a hk => ?_
              rcases ite_some H with ⟨c140, H⟩ | ⟨_, H⟩
              rotate_left
              · cases H
              obtain ⟨b141, q142, hAc140⟩ := (o15.view).some_ (1 : Int) c140.1 c140.2
              refine qst (.pointer (some (padd A12 ((1 : Int).toNat * 1)))) hk rfl rfl rfl rfl (fun w hs => si rfl hk rfl rfl rfl rfl un27 sz3 c140.1 c140.2 hAc140 fun a hk => qe hk) fun a hk => ?_
              obtain ⟨_, rfl, e143⟩ := (o15.view).at_ 0 (1 : Int) c140.1 c140.2
              refine qst (.int .i64 (y10.1.getD (1 : Int).toNat 0)) hk rfl rfl rfl rfl (fun w hs => sl (v := (.int .i64 (y10.1.getD (1 : Int).toNat 0))) rfl hk rfl rfl rfl ag3 ((e143 0 _ rfl).cell (hs.hasG (k := 2) rfl)) fun a hk => qe hk) fun a hk => ?_
              refine qst (.bool (decide ((y10.1.getD (1 : Int).toNat 0) ≤ 2))) hk rfl rfl rfl rfl (fun w hs => sv (.bool (decide ((y10.1.getD (1 : Int).toNat 0) ≤ 2))) hk rfl rfl rfl fun a hk => qe hk) fun a hk => ?_
              refine qst (.bool (decide ((y10.1.getD (1 : Int).toNat 0) ≤ 2))) hk rfl rfl rfl rfl (fun w hs => sv (.bool (decide ((y10.1.getD (1 : Int).toNat 0) ≤ 2))) hk rfl rfl rfl fun a hk => qe hk) fun a hk => ?_
              refine qst (.bool (decide ((y10.1.getD (1 : Int).toNat 0) ≤ 2))) hk rfl rfl rfl rfl (fun w hs => sm _ rfl hk rfl rfl rfl fun a hk => qe hk) fun a hk => ?_
              rcases cond_some H with ⟨c144, H⟩ | ⟨c144, H⟩
              · have hk := hk.lit 120 c144 rfl
                refine qst (.slice A12 y10.1.length p13) hk rfl rfl rfl rfl (fun w hs => sm _ rfl hk rfl rfl rfl fun a hk => qe hk) fun a hk => ?_
                rcases ite_some H with ⟨c145, H⟩ | ⟨_, H⟩
                rotate_left
                · cases H
                obtain ⟨b146, q147, hAc145⟩ := (o15.view).some_ (2 : Int) c145.1 c145.2
                refine qst (.pointer (some (padd A12 ((2 : Int).toNat * 1)))) hk rfl rfl rfl rfl (fun w hs => si rfl hk rfl rfl rfl rfl un27 sz3 c145.1 c145.2 hAc145 fun a hk => qe hk) fun a hk => ?_
                obtain ⟨_, rfl, e148⟩ := (o15.view).at_ 0 (2 : Int) c145.1 c145.2
                refine qst (.int .i64 (y10.1.getD (2 : Int).toNat 0)) hk rfl rfl rfl rfl (fun w hs => sl (v := (.int .i64 (y10.1.getD (2 : Int).toNat 0))) rfl hk rfl rfl rfl ag3 ((e148 0 _ rfl).cell (hs.hasG (k := 2) rfl)) fun a hk => qe hk) fun a hk => ?_
                refine qst (.slice A12 y10.1.length p13) hk rfl rfl rfl rfl (fun w hs => sm _ rfl hk rfl rfl rfl fun a hk => qe hk) fun a hk => ?_
                rcases ite_some H with ⟨c149, H⟩ | ⟨_, H⟩
                rotate_left
                · cases H
                obtain ⟨b150, q151, hAc149⟩ := (o15.view).some_ (1 : Int) c149.1 c149.2
                refine qst (.pointer (some (padd A12 ((1 : Int).toNat * 1)))) hk rfl rfl rfl rfl (fun w hs => si rfl hk rfl rfl rfl rfl un27 sz3 c149.1 c149.2 hAc149 fun a hk => qe hk) fun a hk => ?_
                obtain ⟨_, rfl, e152⟩ := (o15.view).at_ 0 (1 : Int) c149.1 c149.2
                refine qst (.int .i64 (y10.1.getD (1 : Int).toNat 0)) hk rfl rfl rfl rfl (fun w hs => sl (v := (.int .i64 (y10.1.getD (1 : Int).toNat 0))) rfl hk rfl rfl rfl ag3 ((e152 0 _ rfl).cell (hs.hasG (k := 2) rfl)) fun a hk => qe hk) fun a hk => ?_
                refine qst (.int .i64 (w64 (2 * (y10.1.getD (1 : Int).toNat 0)))) hk rfl rfl rfl rfl (fun w hs => sv (.int .i64 (w64 (2 * (y10.1.getD (1 : Int).toNat 0)))) hk rfl rfl rfl fun a hk => qe hk) fun a hk => ?_
                refine qst (.int .i64 (w64 ((w64 (2 * (y10.1.getD (1 : Int).toNat 0))) + 1))) hk rfl rfl rfl rfl (fun w hs => sv (.int .i64 (w64 ((w64 (2 * (y10.1.getD (1 : Int).toNat 0))) + 1))) hk rfl rfl rfl fun a hk => qe hk) fun a hk => ?_
                refine qst (.bool ((y10.1.getD (2 : Int).toNat 0) == (w64 ((w64 (2 * (y10.1.getD (1 : Int).toNat 0))) + 1)))) hk rfl rfl rfl rfl (fun w hs => sv (.bool ((y10.1.getD (2 : Int).toNat 0) == (w64 ((w64 (2 * (y10.1.getD (1 : Int).toNat 0))) + 1)))) hk rfl rfl rfl fun a hk => qe hk) fun a hk => ?_
                refine qst (.bool ((y10.1.getD (2 : Int).toNat 0) == (w64 ((w64 (2 * (y10.1.getD (1 : Int).toNat 0))) + 1)))) hk rfl rfl rfl rfl (fun w hs => sm _ rfl hk rfl rfl rfl fun a hk => qe hk) fun a hk => ?_
                rcases cond_some H with ⟨c153, H⟩ | ⟨c153, H⟩
                · have hk := hk.lit 130 c153 rfl
                  refine qsk hk rfl rfl rfl rfl fun a hk => ?_
                  refine qsk hk rfl rfl rfl rfl fun a hk => ?_
                  refine qsk hk rfl rfl rfl rfl fun a hk => ?_
                  refine qsk hk rfl rfl rfl rfl fun a hk => ?_
                  refine qsk hk rfl rfl rfl rfl fun a hk => ?_
                  refine qsk hk rfl rfl rfl rfl fun a hk => ?_
                  refine qsk hk rfl rfl rfl rfl fun a hk => ?_
                  refine qsk hk rfl rfl rfl rfl fun a hk => ?_
                  refine qsk hk rfl rfl rfl rfl fun a hk => ?_
                  refine qst (.bool true) hk rfl rfl rfl rfl (fun w hs => sv (.bool true) hk rfl rfl rfl fun a hk => qe hk) fun a hk => ?_
                  refine qst (.bool true) hk rfl rfl rfl rfl (fun w hs => sv (.bool true) hk rfl rfl rfl fun a hk => qe hk) fun a hk => ?_
                  refine qst (.bool true) hk rfl rfl rfl rfl (fun w hs => sm _ rfl hk rfl rfl rfl fun a hk => qe hk) fun a hk => ?_
                  refine qst (.int .i64 y101.2) hk rfl rfl rfl rfl (fun w hs => sm _ rfl hk rfl rfl rfl fun a hk => qe hk) fun a hk => ?_
                  refine qst (.bool (y101.2 == 0)) hk rfl rfl rfl rfl (fun w hs => sv (.bool (y101.2 == 0)) hk rfl rfl rfl fun a hk => qe hk) fun a hk => ?_
                  refine qst (.bool (y101.2 == 0)) hk rfl rfl rfl rfl (fun w hs => sv (.bool (y101.2 == 0)) hk rfl rfl rfl fun a hk => qe hk) fun a hk => ?_
                  refine qst (.bool (y101.2 == 0)) hk rfl rfl rfl rfl (fun w hs => sm _ rfl hk rfl rfl rfl fun a hk => qe hk) fun a hk => ?_
                  rcases cond_some H with ⟨c154, H⟩ | ⟨c154, H⟩
                  · have hk := hk.lit 146 c154 rfl
                    refine qst (.int .i64 y120.2) hk rfl rfl rfl rfl (fun w hs => sm _ rfl hk rfl rfl rfl fun a hk => qe hk) fun a hk => ?_
                    refine qst (.bool (y120.2 == 0)) hk rfl rfl rfl rfl (fun w hs => sv (.bool (y120.2 == 0)) hk rfl rfl rfl fun a hk => qe hk) fun a hk => ?_
                    refine qst (.bool (y120.2 == 0)) hk rfl rfl rfl rfl (fun w hs => sv (.bool (y120.2 == 0)) hk rfl rfl rfl fun a hk => qe hk) fun a hk => ?_
                    refine qst (.bool (y120.2 == 0)) hk rfl rfl rfl rfl (fun w hs => sm _ rfl hk rfl rfl rfl fun a hk => qe hk) fun a hk => ?_
                    rcases cond_some H with ⟨c155, H⟩ | ⟨c155, H⟩
                    · have hk := hk.lit 150 c155 rfl
                      refine qst (.int .i64 y120.1) hk rfl rfl rfl rfl (fun w hs => sm _ rfl hk rfl rfl rfl fun a hk => qe hk) fun a hk => ?_
                      refine qst (.bool (y120.1 == 0)) hk rfl rfl rfl rfl (fun w hs => sv (.bool (y120.1 == 0)) hk rfl rfl rfl fun a hk => qe hk) fun a hk => ?_
                      refine qst (.bool (y120.1 == 0)) hk rfl rfl rfl rfl (fun w hs => sv (.bool (y120.1 == 0)) hk rfl rfl rfl fun a hk => qe hk) fun a hk => ?_
                      refine qst (.bool (y120.1 == 0)) hk rfl rfl rfl rfl (fun w hs => sm _ rfl hk rfl rfl rfl fun a hk => qe hk) fun a hk => ?_
                      rcases cond_some H with ⟨c156, H⟩ | ⟨c156, H⟩
                      · have hk := hk.lit 154 c156 rfl
                        refine qst (.int .i64 y126.2) hk rfl rfl rfl rfl (fun w hs => sm _ rfl hk rfl rfl rfl fun a hk => qe hk) fun a hk => ?_
                        refine qst (.bool (y126.2 == 5)) hk rfl rfl rfl rfl (fun w hs => sv (.bool (y126.2 == 5)) hk rfl rfl rfl fun a hk => qe hk) fun a hk => ?_
                        refine qst (.bool (y126.2 == 5)) hk rfl rfl rfl rfl (fun w hs => sv (.bool (y126.2 == 5)) hk rfl rfl rfl fun a hk => qe hk) fun a hk => ?_
                        refine qst (.bool (y126.2 == 5)) hk rfl rfl rfl rfl (fun w hs => sa _ rfl hk rfl rfl rfl fun a hk => qe hk) fun a hk => ?_
                        refine wml_nil fun w hF _ => ?_
                        have hs := hs.f hF
                        obtain rfl := Option.some.inj H
                        show R134 _ _
                        rw [hR134]
                        exact ⟨(y126.2 == 5), rfl, (hk.c 2 rfl hk.k), (hs.pick [] rfl)⟩
                      · have hk := hk.lit 154 c156 rfl
                        refine qsk hk rfl rfl rfl rfl fun a hk => ?_
                        refine qsk hk rfl rfl rfl rfl fun a hk => ?_
                        refine qst (.bool false) hk rfl rfl rfl rfl (fun w hs => sv (.bool false) hk rfl rfl rfl fun a hk => qe hk) fun a hk => ?_
                        refine qst (.bool false) hk rfl rfl rfl rfl (fun w hs => sa _ rfl hk rfl rfl rfl fun a hk => qe hk) fun a hk => ?_
                        refine wml_nil fun w hF _ => ?_
                        have hs := hs.f hF
                        obtain rfl := Option.some.inj H
                        show R134 _ _
                        rw [hR134]
                        exact ⟨false, rfl, (hk.c 2 rfl hk.k), (hs.pick [] rfl)⟩
                    · have hk := hk.lit 150 c155 rfl
                      refine qsk hk rfl rfl rfl rfl fun a hk => ?_
                      refine qsk hk rfl rfl rfl rfl fun a hk => ?_
                      refine qst (.bool false) hk rfl rfl rfl rfl (fun w hs => sv (.bool false) hk rfl rfl rfl fun a hk => qe hk) fun a hk => ?_
                      refine qst (.bool false) hk rfl rfl rfl rfl (fun w hs => sm _ rfl hk rfl rfl rfl fun a hk => qe hk) fun a hk => ?_
                      refine qsk hk rfl rfl rfl rfl fun a hk => ?_
                      refine qsk hk rfl rfl rfl rfl fun a hk => ?_
                      refine qst (.bool false) hk rfl rfl rfl rfl (fun w hs => sv (.bool false) hk rfl rfl rfl fun a hk => qe hk) fun a hk => ?_
                      refine qst (.bool false) hk rfl rfl rfl rfl (fun w hs => sa _ rfl hk rfl rfl rfl fun a hk => qe hk) fun a hk => ?_
                      refine wml_nil fun w hF _ => ?_
                      have hs := hs.f hF
                      obtain rfl := Option.some.inj H
                      show R134 _ _
                      rw [hR134]
                      exact ⟨false, rfl, (hk.c 2 rfl hk.k), (hs.pick [] rfl)⟩
                  · have hk := hk.lit 146 c154 rfl
                    refine qsk hk rfl rfl rfl rfl fun a hk => ?_
                    refine qsk hk rfl rfl rfl rfl fun a hk => ?_
                    refine qst (.bool false) hk rfl rfl rfl rfl (fun w hs => sv (.bool false) hk rfl rfl rfl fun a hk => qe hk) fun a hk => ?_
                    refine qst (.bool false) hk rfl rfl rfl rfl (fun w hs => sm _ rfl hk rfl rfl rfl fun a hk => qe hk) fun a hk => ?_
                    refine qsk hk rfl rfl rfl rfl fun a hk => ?_
                    refine qsk hk rfl rfl rfl rfl fun a hk => ?_
                    refine qst (.bool false) hk rfl rfl rfl rfl (fun w hs => sv (.bool false) hk rfl rfl rfl fun a hk => qe hk) fun a hk => ?_
                    refine qst (.bool false) hk rfl rfl rfl rfl (fun w hs => sm _ rfl hk rfl rfl rfl fun a hk => qe hk) fun a hk => ?_
                    refine qsk hk rfl rfl rfl rfl fun a hk => ?_
                    refine qsk hk rfl rfl rfl rfl fun a hk => ?_
                    refine qst (.bool false) hk rfl rfl rfl rfl (fun w hs => sv (.bool false) hk rfl rfl rfl fun a hk => qe hk) fun a hk => ?_
                    refine qst (.bool false) hk rfl rfl rfl rfl (fun w hs => sa _ rfl hk rfl rfl rfl fun a hk => qe hk) fun a hk => ?_
                    refine wml_nil fun w hF _ => ?_
                    have hs := hs.f hF
                    obtain rfl := Option.some.inj H
                    show R134 _ _
                    rw [hR134]
                    exact ⟨false, rfl, (hk.c 2 rfl hk.k), (hs.pick [] rfl)⟩
                · have hk := hk.lit 130 c153 rfl
                  refine qst (.slice A12 y10.1.length p13) hk rfl rfl rfl rfl (fun w hs => sm _ rfl hk rfl rfl rfl fun a hk => qe hk) fun a hk => ?_
                  rcases ite_some H with ⟨c157, H⟩ | ⟨_, H⟩
                  rotate_left
                  · cases H
                  obtain ⟨b158, q159, hAc157⟩ := (o15.view).some_ (2 : Int) c157.1 c157.2
                  refine qst (.pointer (some (padd A12 ((2 : Int).toNat * 1)))) hk rfl rfl rfl rfl (fun w hs => si rfl hk rfl rfl rfl rfl un27 sz3 c157.1 c157.2 hAc157 fun a hk => qe hk) fun a hk => ?_
                  obtain ⟨_, rfl, e160⟩ := (o15.view).at_ 0 (2 : Int) c157.1 c157.2
                  refine qst (.int .i64 (y10.1.getD (2 : Int).toNat 0)) hk rfl rfl rfl rfl (fun w hs => sl (v := (.int .i64 (y10.1.getD (2 : Int).toNat 0))) rfl hk rfl rfl rfl ag3 ((e160 0 _ rfl).cell (hs.hasG (k := 2) rfl)) fun a hk => qe hk) fun a hk => ?_
                  refine qst (.slice A12 y10.1.length p13) hk rfl rfl rfl rfl (fun w hs => sm _ rfl hk rfl rfl rfl fun a hk => qe hk) fun a hk => ?_
                  rcases ite_some H with ⟨c161, H⟩ | ⟨_, H⟩
                  rotate_left
                  · cases H
                  obtain ⟨b162, q163, hAc161⟩ := (o15.view).some_ (1 : Int) c161.1 c161.2
                  refine qst (.pointer (some (padd A12 ((1 : Int).toNat * 1)))) hk rfl rfl rfl rfl (fun w hs => si rfl hk rfl rfl rfl rfl un27 sz3 c161.1 c161.2 hAc161 fun a hk => qe hk) fun a hk => ?_
                  obtain ⟨_, rfl, e164⟩ := (o15.view).at_ 0 (1 : Int) c161.1 c161.2
                  refine qst (.int .i64 (y10.1.getD (1 : Int).toNat 0)) hk rfl rfl rfl rfl (fun w hs => sl (v := (.int .i64 (y10.1.getD (1 : Int).toNat 0))) rfl hk rfl rfl rfl ag3 ((e164 0 _ rfl).cell (hs.hasG (k := 2) rfl)) fun a hk => qe hk) fun a hk => ?_
                  refine qst (.int .i64 (w64 (2 * (y10.1.getD (1 : Int).toNat 0)))) hk rfl rfl rfl rfl (fun w hs => sv (.int .i64 (w64 (2 * (y10.1.getD (1 : Int).toNat 0)))) hk rfl rfl rfl fun a hk => qe hk) fun a hk => ?_
                  refine qst (.int .i64 (w64 ((w64 (2 * (y10.1.getD (1 : Int).toNat 0))) + 2))) hk rfl rfl rfl rfl (fun w hs => sv (.int .i64 (w64 ((w64 (2 * (y10.1.getD (1 : Int).toNat 0))) + 2))) hk rfl rfl rfl fun a hk => qe hk) fun a hk => ?_
                  refine qst (.bool ((y10.1.getD (2 : Int).toNat 0) == (w64 ((w64 (2 * (y10.1.getD (1 : Int).toNat 0))) + 2)))) hk rfl rfl rfl rfl (fun w hs => sv (.bool ((y10.1.getD (2 : Int).toNat 0) == (w64 ((w64 (2 * (y10.1.getD (1 : Int).toNat 0))) + 2)))) hk rfl rfl rfl fun a hk => qe hk) fun a hk => ?_
                  refine qst (.bool ((y10.1.getD (2 : Int).toNat 0) == (w64 ((w64 (2 * (y10.1.getD (1 : Int).toNat 0))) + 2)))) hk rfl rfl rfl rfl (fun w hs => sv (.bool ((y10.1.getD (2 : Int).toNat 0) == (w64 ((w64 (2 * (y10.1.getD (1 : Int).toNat 0))) + 2)))) hk rfl rfl rfl fun a hk => qe hk) fun a hk => ?_
                  refine qst (.bool ((y10.1.getD (2 : Int).toNat 0) == (w64 ((w64 (2 * (y10.1.getD (1 : Int).toNat 0))) + 2)))) hk rfl rfl rfl rfl (fun w hs => sv (.bool ((y10.1.getD (2 : Int).toNat 0) == (w64 ((w64 (2 * (y10.1.getD (1 : Int).toNat 0))) + 2)))) hk rfl rfl rfl fun a hk => qe hk) fun a hk => ?_
                  refine qst (.bool ((y10.1.getD (2 : Int).toNat 0) == (w64 ((w64 (2 * (y10.1.getD (1 : Int).toNat 0))) + 2)))) hk rfl rfl rfl rfl (fun w hs => sm _ rfl hk rfl rfl rfl fun a hk => qe hk) fun a hk => ?_
                  rcases cond_some H with ⟨c165, H⟩ | ⟨c165, H⟩
                  · have hk := hk.lit 142 c165 rfl
                    refine qst (.int .i64 y101.2) hk rfl rfl rfl rfl (fun w hs => sm _ rfl hk rfl rfl rfl fun a hk => qe hk) fun a hk => ?_
                    refine qst (.bool (y101.2 == 0)) hk rfl rfl rfl rfl (fun w hs => sv (.bool (y101.2 == 0)) hk rfl rfl rfl fun a hk => qe hk) fun a hk => ?_
                    refine qst (.bool (y101.2 == 0)) hk rfl rfl rfl rfl (fun w hs => sv (.bool (y101.2 == 0)) hk rfl rfl rfl fun a hk => qe hk) fun a hk => ?_
                    refine qst (.bool (y101.2 == 0)) hk rfl rfl rfl rfl (fun w hs => sm _ rfl hk rfl rfl rfl fun a hk => qe hk) fun a hk => ?_
                    rcases cond_some H with ⟨c166, H⟩ | ⟨c166, H⟩
                    · have hk := hk.lit 146 c166 rfl
                      refine qst (.int .i64 y120.2) hk rfl rfl rfl rfl (fun w hs => sm _ rfl hk rfl rfl rfl fun a hk => qe hk) fun a hk => ?_
                      refine qst (.bool (y120.2 == 0)) hk rfl rfl rfl rfl (fun w hs => sv (.bool (y120.2 == 0)) hk rfl rfl rfl fun a hk => qe hk) fun a hk => ?_
                      refine qst (.bool (y120.2 == 0)) hk rfl rfl rfl rfl (fun w hs => sv (.bool (y120.2 == 0)) hk rfl rfl rfl fun a hk => qe hk) fun a hk => ?_
                      refine qst (.bool (y120.2 == 0)) hk rfl rfl rfl rfl (fun w hs => sm _ rfl hk rfl rfl rfl fun a hk => qe hk) fun a hk => ?_
                      rcases cond_some H with ⟨c167, H⟩ | ⟨c167, H⟩
                      · have hk := hk.lit 150 c167 rfl
                        refine qst (.int .i64 y120.1) hk rfl rfl rfl rfl (fun w hs => sm _ rfl hk rfl rfl rfl fun a hk => qe hk) fun a hk => ?_
                        refine qst (.bool (y120.1 == 0)) hk rfl rfl rfl rfl (fun w hs => sv (.bool (y120.1 == 0)) hk rfl rfl rfl fun a hk => qe hk) fun a hk => ?_
                        refine qst (.bool (y120.1 == 0)) hk rfl rfl rfl rfl (fun w hs => sv (.bool (y120.1 == 0)) hk rfl rfl rfl fun a hk => qe hk) fun a hk => ?_
                        refine qst (.bool (y120.1 == 0)) hk rfl rfl rfl rfl (fun w hs => sm _ rfl hk rfl rfl rfl fun a hk => qe hk) fun a hk => ?_
                        rcases cond_some H with ⟨c168, H⟩ | ⟨c168, H⟩
                        · have hk := hk.lit 154 c168 rfl
                          refine qst (.int .i64 y126.2) hk rfl rfl rfl rfl (fun w hs => sm _ rfl hk rfl rfl rfl fun a hk => qe hk) fun a hk => ?_
                          refine qst (.bool (y126.2 == 5)) hk rfl rfl rfl rfl (fun w hs => sv (.bool (y126.2 == 5)) hk rfl rfl rfl fun a hk => qe hk) fun a hk => ?_
                          refine qst (.bool (y126.2 == 5)) hk rfl rfl rfl rfl (fun w hs => sv (.bool (y126.2 == 5)) hk rfl rfl rfl fun a hk => qe hk) fun a hk => ?_
                          refine qst (.bool (y126.2 == 5)) hk rfl rfl rfl rfl (fun w hs => sa _ rfl hk rfl rfl rfl fun a hk => qe hk) fun a hk => ?_
                          refine wml_nil fun w hF _ => ?_
                          have hs := hs.f hF
                          obtain rfl := Option.some.inj H
                          show R134 _ _
                          rw [hR134]
                          exact ⟨(y126.2 == 5), rfl, (hk.c 2 rfl hk.k), (hs.pick [] rfl)⟩
                        · have hk := hk.lit 154 c168 rfl
                          refine qsk hk rfl rfl rfl rfl fun a hk => ?_
                          refine qsk hk rfl rfl rfl rfl fun a hk => ?_
                          refine qst (.bool false) hk rfl rfl rfl rfl (fun w hs => sv (.bool false) hk rfl rfl rfl fun a hk => qe hk) fun a hk => ?_
                          refine qst (.bool false) hk rfl rfl rfl rfl (fun w hs => sa _ rfl hk rfl rfl rfl fun a hk => qe hk) fun a hk => ?_
                          refine wml_nil fun w hF _ => ?_
                          have hs := hs.f hF
                          obtain rfl := Option.some.inj H
                          show R134 _ _
                          rw [hR134]
                          exact ⟨false, rfl, (hk.c 2 rfl hk.k), (hs.pick [] rfl)⟩
                      · have hk := hk.lit 150 c167 rfl
                        refine qsk hk rfl rfl rfl rfl fun a hk => ?_
                        refine qsk hk rfl rfl rfl rfl fun a hk => ?_
                        refine qst (.bool false) hk rfl rfl rfl rfl (fun w hs => sv (.bool false) hk rfl rfl rfl fun a hk => qe hk) fun a hk => ?_
                        refine qst (.bool false) hk rfl rfl rfl rfl (fun w hs => sm _ rfl hk rfl rfl rfl fun a hk => qe hk) fun a hk => ?_
                        refine qsk hk rfl rfl rfl rfl fun a hk => ?_
                        refine qsk hk rfl rfl rfl rfl fun a hk => ?_
                        refine qst (.bool false) hk rfl rfl rfl rfl (fun w hs => sv (.bool false) hk rfl rfl rfl fun a hk => qe hk) fun a hk => ?_
                        refine qst (.bool false) hk rfl rfl rfl rfl (fun w hs => sa _ rfl hk rfl rfl rfl fun a hk => qe hk) fun a hk => ?_
                        refine wml_nil fun w hF _ => ?_
                        have hs := hs.f hF
                        obtain rfl := Option.some.inj H
                        show R134 _ _
                        rw [hR134]
                        exact ⟨false, rfl, (hk.c 2 rfl hk.k), (hs.pick [] rfl)⟩
                    · have hk := hk.lit 146 c166 rfl
                      refine qsk hk rfl rfl rfl rfl fun a hk => ?_
                      refine qsk hk rfl rfl rfl rfl fun a hk => ?_
                      refine qst (.bool false) hk rfl rfl rfl rfl (fun w hs => sv (.bool false) hk rfl rfl rfl fun a hk => qe hk) fun a hk => ?_
                      refine qst (.bool false) hk rfl rfl rfl rfl (fun w hs => sm _ rfl hk rfl rfl rfl fun a hk => qe hk) fun a hk => ?_
                      refine qsk hk rfl rfl rfl rfl fun a hk => ?_
                      refine qsk hk rfl rfl rfl rfl fun a hk => ?_
                      refine qst (.bool false) hk rfl rfl rfl rfl (fun w hs => sv (.bool false) hk rfl rfl rfl fun a hk => qe hk) fun a hk => ?_
                      refine qst (.bool false) hk rfl rfl rfl rfl (fun w hs => sm _ rfl hk rfl rfl rfl fun a hk => qe hk) fun a hk => ?_
                      refine qsk hk rfl rfl rfl rfl fun a hk => ?_
                      refine qsk hk rfl rfl rfl rfl fun a hk => ?_
                      refine qst (.bool false) hk rfl rfl rfl rfl (fun w hs => sv (.bool false) hk rfl rfl rfl fun a hk => qe hk) fun a hk => ?_
                      refine qst (.bool false) hk rfl rfl rfl rfl (fun w hs => sa _ rfl hk rfl rfl rfl fun a hk => qe hk) fun a hk => ?_
                      refine wml_nil fun w hF _ => ?_
                      have hs := hs.f hF
                      obtain rfl := Option.some.inj H
                      show R134 _ _
                      rw [hR134]
                      exact ⟨false, rfl, (hk.c 2 rfl hk.k), (hs.pick [] rfl)⟩
                  · have hk := hk.lit 142 c165 rfl
                    refine qsk hk rfl rfl rfl rfl fun a hk => ?_
                    refine qsk hk rfl rfl rfl rfl fun a hk => ?_
                    refine qst (.bool false) hk rfl rfl rfl rfl (fun w hs => sv (.bool false) hk rfl rfl rfl fun a hk => qe hk) fun a hk => ?_
                    refine qst (.bool false) hk rfl rfl rfl rfl (fun w hs => sm _ rfl hk rfl rfl rfl fun a hk => qe hk) fun a hk => ?_
                    refine qsk hk rfl rfl rfl rfl fun a hk => ?_
                    refine qsk hk rfl rfl rfl rfl fun a hk => ?_
                    refine qst (.bool false) hk rfl rfl rfl rfl (fun w hs => sv (.bool false) hk rfl rfl rfl fun a hk => qe hk) fun a hk => ?_
                    refine qst (.bool false) hk rfl rfl rfl rfl (fun w hs => sm _ rfl hk rfl rfl rfl fun a hk => qe hk) fun a hk => ?_
                    refine qsk hk rfl rfl rfl rfl fun a hk => ?_
                    refine qsk hk rfl rfl rfl rfl fun a hk => ?_
                    refine qst (.bool false) hk rfl rfl rfl rfl (fun w hs => sv (.bool false) hk rfl rfl rfl fun a hk => qe hk) fun a hk => ?_
                    refine qst (.bool false) hk rfl rfl rfl rfl (fun w hs => sm _ rfl hk rfl rfl rfl fun a hk => qe hk) fun a hk => ?_
                    refine qsk hk rfl rfl rfl rfl fun a hk => ?_
                    refine qsk hk rfl rfl rfl rfl fun a hk => ?_
                    refine qst (.bool false) hk rfl rfl rfl rfl (fun w hs => sv (.bool false) hk rfl rfl rfl fun a hk => qe hk) fun a hk => ?_
                    refine qst (.bool false) hk rfl rfl rfl rfl (fun w hs => sa _ rfl hk rfl rfl rfl fun a hk => qe hk) fun a hk => ?_
                    refine wml_nil fun w hF _ => ?_
                    have hs := hs.f hF
                    obtain rfl := Option.some.inj H
                    show R134 _ _
                    rw [hR134]
                    exact ⟨false, rfl, (hk.c 2 rfl hk.k), (hs.pick [] rfl)⟩
              · have hk := hk.lit 120 c144 rfl
                refine qsk hk rfl rfl rfl rfl fun a hk => ?_
                refine qsk hk rfl rfl rfl rfl fun a hk => ?_
                refine qsk hk rfl rfl rfl rfl fun a hk => ?_
                refine qsk hk rfl rfl rfl rfl fun a hk => ?_
                refine qsk hk rfl rfl rfl rfl fun a hk => ?_
                refine qsk hk rfl rfl rfl rfl fun a hk => ?_
                refine qsk hk rfl rfl rfl rfl fun a hk => ?_
                refine qsk hk rfl rfl rfl rfl fun a hk => ?_
                refine qsk hk rfl rfl rfl rfl fun a hk => ?_
                refine qsk hk rfl rfl rfl rfl fun a hk => ?_
                refine qsk hk rfl rfl rfl rfl fun a hk => ?_
                refine qsk hk rfl rfl rfl rfl fun a hk => ?_
                refine qsk hk rfl rfl rfl rfl fun a hk => ?_
                refine qsk hk rfl rfl rfl rfl fun a hk => ?_
                refine qsk hk rfl rfl rfl rfl fun a hk => ?_
                refine qsk hk rfl rfl rfl rfl fun a hk => ?_
                refine qsk hk rfl rfl rfl rfl fun a hk => ?_
                refine qsk hk rfl rfl rfl rfl fun a hk => ?_
                refine qsk hk rfl rfl rfl rfl fun a hk => ?_
                refine qsk hk rfl rfl rfl rfl fun a hk => ?_
                refine qst (.bool false) hk rfl rfl rfl rfl (fun w hs => sv (.bool false) hk rfl rfl rfl fun a hk => qe hk) fun a hk => ?_
                refine qst (.bool false) hk rfl rfl rfl rfl (fun w hs => sm _ rfl hk rfl rfl rfl fun a hk => qe hk) fun a hk => ?_
                refine qsk hk rfl rfl rfl rfl fun a hk => ?_
                refine qsk hk rfl rfl rfl rfl fun a hk => ?_
                refine qst (.bool false) hk rfl rfl rfl rfl (fun w hs => sv (.bool false) hk rfl rfl rfl fun a hk => qe hk) fun a hk => ?_
                refine qst (.bool false) hk rfl rfl rfl rfl (fun w hs => sm _ rfl hk rfl rfl rfl fun a hk => qe hk) fun a hk => ?_
                refine qsk hk rfl rfl rfl rfl fun a hk => ?_
                refine qsk hk rfl rfl rfl rfl fun a hk => ?_
                refine qst (.bool false) hk rfl rfl rfl rfl (fun w hs => sv (.bool false) hk rfl rfl rfl fun a hk => qe hk) fun a hk => ?_
                refine qst (.bool false) hk rfl rfl rfl rfl (fun w hs => sm _ rfl hk rfl rfl rfl fun a hk => qe hk) fun a hk => ?_
                refine qsk hk rfl rfl rfl rfl fun a hk => ?_
                refine qsk hk rfl rfl rfl rfl fun a hk => ?_
                refine qst (.bool false) hk rfl rfl rfl rfl (fun w hs => sv (.bool false) hk rfl rfl rfl fun a hk => qe hk) fun a hk => ?_
                refine qst (.bool false) hk rfl rfl rfl rfl (fun w hs => sm _ rfl hk rfl rfl rfl fun a hk => qe hk) fun a hk => ?_
                refine qsk hk rfl rfl rfl rfl fun a hk => ?_
                refine qsk hk rfl rfl rfl rfl fun a hk => ?_
                refine qst (.bool false) hk rfl rfl rfl rfl (fun w hs => sv (.bool false) hk rfl rfl rfl fun a hk => qe hk) fun a hk => ?_
                refine qst (.bool false) hk rfl rfl rfl rfl (fun w hs => sa _ rfl hk rfl rfl rfl fun a hk => qe hk) fun a hk => ?_
                refine wml_nil fun w hF _ => ?_
                have hs := hs.f hF
                obtain rfl := Option.some.inj H
                show R134 _ _
                rw [hR134]
                exact ⟨false, rfl, (hk.c 2 rfl hk.k), (hs.pick [] rfl)⟩
            · have hk := hk.lit 114 c139 rfl
              refine qsk hk rfl rfl rfl rfl fun a hk => ?_
              refine qsk hk rfl rfl rfl rfl fun a hk => ?_
              refine qsk hk rfl rfl rfl rfl fun a hk => ?_
              refine qsk hk rfl rfl rfl rfl fun a hk => ?_
              refine qst (.bool false) hk rfl rfl rfl rfl (fun w hs => sv (.bool false) hk rfl rfl rfl fun a hk => qe hk) fun a hk => ?_
              refine qst (.bool false) hk rfl rfl rfl rfl (fun w hs => sm _ rfl hk rfl rfl rfl fun a hk => qe hk) fun a hk => ?_
              refine qsk hk rfl rfl rfl rfl fun a hk => ?_
              refine qsk hk rfl rfl rfl rfl fun a hk => ?_
              refine qsk hk rfl rfl rfl rfl fun a hk => ?_
              refine qsk hk rfl rfl rfl rfl fun a hk => ?_
              refine qsk hk rfl rfl rfl rfl fun a hk => ?_
              refine qsk hk rfl rfl rfl rfl fun a hk => ?_
              refine qsk hk rfl rfl rfl rfl fun a hk => ?_
              refine qsk hk rfl rfl rfl rfl fun a hk => ?_
              refine qsk hk rfl rfl rfl rfl fun a hk => ?_
              refine qsk hk rfl rfl rfl rfl fun a hk => ?_
              refine qsk hk rfl rfl rfl rfl fun a hk => ?_
              refine qsk hk rfl rfl rfl rfl fun a hk => ?_
              refine qsk hk rfl rfl rfl rfl fun a hk => ?_
              refine qsk hk rfl rfl rfl rfl fun a hk => ?_
              refine qsk hk rfl rfl rfl rfl fun a hk => ?_
              refine qsk hk rfl rfl rfl rfl fun a hk => ?_
              refine qsk hk rfl rfl rfl rfl fun a hk => ?_
              refine qsk hk rfl rfl rfl rfl fun a hk => ?_
              refine qsk hk rfl rfl rfl rfl fun a hk => ?_
              refine qsk hk rfl rfl rfl rfl fun a hk => ?_
              refine qst (.bool false) hk rfl rfl rfl rfl (fun w hs => sv (.bool false) hk rfl rfl rfl fun a hk => qe hk) fun a hk => ?_
              refine qst (.bool false) hk rfl rfl rfl rfl (fun w hs => sm _ rfl hk rfl rfl rfl fun a hk => qe hk) fun a hk => ?_
              refine qsk hk rfl rfl rfl rfl fun a hk => ?_
              refine qsk hk rfl rfl rfl rfl fun a hk => ?_
              refine qst (.bool false) hk rfl rfl rfl rfl (fun w hs => sv (.bool false) hk rfl rfl rfl fun a hk => qe hk) fun a hk => ?_
              refine qst (.bool false) hk rfl rfl rfl rfl (fun w hs => sm _ rfl hk rfl rfl rfl fun a hk => qe hk) fun a hk => ?_
              refine qsk hk rfl rfl rfl rfl fun a hk => ?_
              refine qsk hk rfl rfl rfl rfl fun a hk => ?_
              refine qst (.bool false) hk rfl rfl rfl rfl (fun w hs => sv (.bool false) hk rfl rfl rfl fun a hk => qe hk) fun a hk => ?_
              refine qst (.bool false) hk rfl rfl rfl rfl (fun w hs => sm _ rfl hk rfl rfl rfl fun a hk => qe hk) fun a hk => ?_
              refine qsk hk rfl rfl rfl rfl fun a hk => ?_
              refine qsk hk rfl rfl rfl rfl fun a hk => ?_
              refine qst (.bool false) hk rfl rfl rfl rfl (fun w hs => sv (.bool false) hk rfl rfl rfl fun a hk => qe hk) fun a hk => ?_
              refine qst (.bool false) hk rfl rfl rfl rfl (fun w hs => sm _ rfl hk rfl rfl rfl fun a hk => qe hk) fun a hk => ?_
              refine qsk hk rfl rfl rfl rfl fun a hk => ?_
              refine qsk hk rfl rfl rfl rfl fun a hk => ?_
              refine qst (.bool false) hk rfl rfl rfl rfl (fun w hs => sv (.bool false) hk rfl rfl rfl fun a hk => qe hk) fun a hk => ?_
              refine qst (.bool false) hk rfl rfl rfl rfl (fun w hs => sa _ rfl hk rfl rfl rfl fun a hk => qe hk) fun a hk => ?_
              refine wml_nil fun w hF _ => ?_
              have hs := hs.f hF
              obtain rfl := Option.some.inj H
              show R134 _ _
              rw [hR134]
              exact ⟨false, rfl, (hk.c 2 rfl hk.k), (hs.pick [] rfl)⟩
          · intro a w hR0
            rw [hR134] at hR0
            obtain ⟨u130, rfl, hk, hs⟩ := hR0
            have H := HL133
            try dsimp only at H
            refine hK128 _ _ ?_
            refine wp_ret ?_
            obtain rfl := Option.some.inj H
            exact fin hk _ [(.bool u130)] rfl ⟨rfl, trivial⟩ ⟨rfl, (hs.pick [] rfl).dnil⟩

end Go.Proofs.Ytlbbkehdfgjneaa
