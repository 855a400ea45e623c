/- Further functions. -/
import Derived.Test.YtlbbkehdfgjneaaGFScan
namespace Go.Proofs.Ytlbbkehdfgjneaa
open Go Go.Z Go.Proofs Go.MuLone Go.ChangeShapes Go.WideShapes Go.ChangeAt Go.RowKit
set_option linter.unusedVariables false
set_option linter.unusedSimpArgs false
noncomputable def spec_l10Put.s0 (l0 : List S_Entry) (x1 : Int) (u6 : Int) : Option ((Int) ⊕ Ex (Int) ((List S_Entry))) :=
  (((bif (decide (u6 < (l0.length : Int))) then (if 0 ≤ u6 ∧ u6 < (l0.length : Int) then (some (decide (((l0.getD u6.toNat z_Entry).Key) < x1))) else none) else (some false)) : Option (Bool)).bind fun u19 => (bif u19 then (some (.inl (w64 (u6 + 1)))) else (some (.inr (.out u6)))))
noncomputable def spec_l10Put.f (l0 : List S_Entry) (x1 : Int) (x2 : Int) : Option ((List S_Entry)) :=
  ((loopO (fun s => spec_l10Put.s0 l0 x1 s) 0).bind fun o => match o with | .out u7 => (if 0 ≤ u7 ∧ u7 ≤ (l0.length : Int) then (((bif (decide (u7 < (l0.length : Int))) then (if 0 ≤ u7 ∧ u7 < (l0.length : Int) then (some (((l0.getD u7.toNat z_Entry).Key) == x1)) else none) else (some false)) : Option (Bool)).bind fun u38 => (((bif u38 then (if 0 ≤ (w64 (u7 + 1)) ∧ (w64 (u7 + 1)) ≤ (l0.length : Int) then (some (l0.drop (w64 (u7 + 1)).toNat)) else none) else (some (l0.drop u7.toNat))) : Option ((List S_Entry))).bind fun u49 => (if 0 ≤ u7 ∧ u7 ≤ (l0.length : Int) then (if ([] : List S_Entry).length + (l0.take u7.toNat).length ≤ 1073741824 then (if (([] : List S_Entry) ++ (l0.take u7.toNat)).length + ([(⟨x1, x2⟩ : S_Entry)]).length ≤ 1073741824 then (if ((([] : List S_Entry) ++ (l0.take u7.toNat)) ++ ([(⟨x1, x2⟩ : S_Entry)])).length + u49.length ≤ 1073741824 then (some (((([] : List S_Entry) ++ (l0.take u7.toNat)) ++ ([(⟨x1, x2⟩ : S_Entry)])) ++ u49)) else none) else none) else none) else none))) else none) | .ret r => (some r))
set_option maxRecDepth 100000 in
set_option maxHeartbeats 0 in
theorem spec_l10Put_t (w0 : World) (A0_ : Option Addr) (p0_ : Nat) (l0 : List S_Entry) (k0_ : Chunk) (v0_ : View L_Entry A0_ p0_ l0 k0_) (w0_ : Has w0 k0_) (x1 : Int) (x2 : Int) (r : (List S_Entry)) (H : spec_l10Put.f l0 x1 x2 = some r) :
    Calls Try.prog 127 #[.slice A0_ l0.length p0_, .int .i64 x1, .int .i64 x2] w0 (Ret (fun v w => ∃ (A0 : Option Addr) (p0 : Nat) (k0 : Chunk), v = .slice A0 r.length p0 ∧ Own L_Entry 62 A0 p0 r k0 ∧ Sat [] w0 w [] [(0, k0)])) := by
  have hs : Sat [] w0 w0 [(1, k0_)] [] := Sat.init w0 [(1, k0_)] [] (by simp only [List.mem_cons, List.not_mem_nil, or_false]; rintro x (rfl) <;> assumption) (by simp) List.nodup_nil (by simp [blks])
  unfold spec_l10Put.f at H
  refine enter Try.func127 rfl Try.ntmps127 rfl fun a hk => ?_
  apply wp_seq_k; intro K1 hK1
  apply wp_region_lit
  refine sa _ rfl hk rfl rfl rfl fun a hk => ?_
  show wpList _ _ _ [] _ _
  refine wpList_nil ?_
  refine hK1 _ _ ?_
  apply wp_seq_k; intro K2 hK2
  apply wp_region_lit
  refine sa _ rfl hk rfl rfl rfl fun a hk => ?_
  show wpList _ _ _ [] _ _
  refine wpList_nil ?_
  refine hK2 _ _ ?_
  apply wp_seq_k; intro K3 hK3
  obtain ⟨o8, h9, HL10⟩ := bind_some H
  clear H
  obtain ⟨R11, hR11⟩ : ∃ R : Act → World → Prop, R = fun a w => ∃ (u7 : Int), o8 = .out u7 ∧ Kn [(0, (.slice A0_ l0.length p0_)), (1, (.int .i64 x1)), (2, (.int .i64 x2)), (7, (.int .i64 u7))] 56 a ∧ Sat [] w0 w [(1, k0_)] [] := ⟨_, rfl⟩
  refine wp_cutq R11 ?_ ?_
  · refine wp_block ?_
    obtain ⟨fu13, h9⟩ := loopO_some h9
    obtain ⟨I12, hI12⟩ : ∃ I : Nat → Act → World → Prop, I = fun fu a w => ∃ (u6 : Int), loopN (fun s => spec_l10Put.s0 l0 x1 s) fu u6 = some o8 ∧ Kn [(0, (.slice A0_ l0.length p0_)), (1, (.int .i64 x1)), (2, (.int .i64 x2)), (7, (.int .i64 u6))] 56 a ∧ Sat [] w0 w [(1, k0_)] [] := ⟨_, rfl⟩
    refine wp_loop_ghost I12 fu13 ?_ ?_
    · rw [hI12]
      exact ⟨0, h9, (hk.c 0 rfl (hk.c 1 rfl (hk.c 2 rfl (hk.c 7 rfl hk.k)))), (hs.pick [] rfl)⟩
    · clear h9 hk hs
      intro fu13 a w hI0
      rw [hI12] at hI0
      obtain ⟨u6, hi, hk, hs⟩ := hI0
      obtain ⟨x14, H, h15⟩ := loop_round hi
      try dsimp only at H
      unfold spec_l10Put.s0 at H
      apply wp_seq_k; intro K16 hK16
      apply wp_seq_k; intro K17 hK17
      obtain ⟨o20, h21, HL22⟩ := bind_some H
      clear H
      obtain ⟨R23, hR23⟩ : ∃ R : Act → World → Prop, R = fun a w => ∃ (u19 : Bool), u19 = o20 ∧ Kn [(0, (.slice A0_ l0.length p0_)), (1, (.int .i64 x1)), (2, (.int .i64 x2)), (7, (.int .i64 u6)), (21, (.bool u19))] 56 a ∧ Sat [] w0 w [(1, k0_)] [] := ⟨_, rfl⟩
      refine wp_cutq R23 ?_ ?_
      · have H := h21
        apply wp_region_lit
        refine sm _ rfl hk rfl rfl rfl fun a hk => ?_
        refine sm _ rfl hk rfl rfl rfl fun a hk => ?_
        refine sle rfl hk rfl rfl rfl un26 fun a hk => ?_
        refine sv (.bool (decide (u6 < (l0.length : Int)))) hk rfl rfl rfl fun a hk => ?_
        refine sm _ rfl hk rfl rfl rfl fun a hk => ?_
        rcases cond_some H with ⟨c24, H⟩ | ⟨c24, H⟩
        · have hk := hk.lit 13 c24 rfl
          refine sm _ rfl hk rfl rfl rfl fun a hk => ?_
          refine sm _ rfl hk rfl rfl rfl fun a hk => ?_
          rcases ite_some H with ⟨c25, H⟩ | ⟨_, H⟩
          rotate_left
          · cases H
          obtain ⟨b26, q27, hAc25⟩ := (v0_).some_ u6 c25.1 c25.2
          refine si rfl hk rfl rfl rfl rfl un26 sz62 c25.1 c25.2 hAc25 fun a hk => ?_
          refine sf (padd A0_ (u6.toNat * 2 + 0)) rfl hk rfl rfl rfl fd62_0 (padd_add _ _ _) fun a hk => ?_
          obtain ⟨_, rfl, e28⟩ := (v0_).at_ z_Entry u6 c25.1 c25.2
          refine sl (v := (.int .i64 ((l0.getD u6.toNat z_Entry).Key))) rfl hk rfl rfl rfl ag3 ((e28 0 _ rfl).cell (hs.hasD (k := 1) rfl)) fun a hk => ?_
          refine sm _ rfl hk rfl rfl rfl fun a hk => ?_
          refine sv (.bool (decide (((l0.getD u6.toNat z_Entry).Key) < x1))) hk rfl rfl rfl fun a hk => ?_
          refine sv (.bool (decide (((l0.getD u6.toNat z_Entry).Key) < x1))) hk rfl rfl rfl fun a hk => ?_
          show wpList _ _ _ [] _ _
          refine wpList_nil ?_
          obtain rfl := Option.some.inj H
          show R23 _ _
          rw [hR23]
          exact ⟨(decide (((l0.getD u6.toNat z_Entry).Key) < x1)), rfl, (hk.c 0 rfl (hk.c 1 rfl (hk.c 2 rfl (hk.c 7 rfl (hk.c 21 rfl hk.k))))), (hs.pick [] rfl)⟩
        · have hk := hk.lit 13 c24 rfl
          refine sk hk rfl rfl rfl fun a hk => ?_
          refine sk hk rfl rfl rfl fun a hk => ?_
          refine sk hk rfl rfl rfl fun a hk => ?_
          refine sk hk rfl rfl rfl fun a hk => ?_
          refine sk hk rfl rfl rfl fun a hk => ?_
          refine sk hk rfl rfl rfl fun a hk => ?_
          refine sk hk rfl rfl rfl fun a hk => ?_
          refine sv (.bool false) hk rfl rfl rfl fun a hk => ?_
          show wpList _ _ _ [] _ _
          refine wpList_nil ?_
          obtain rfl := Option.some.inj H
          show R23 _ _
          rw [hR23]
          exact ⟨false, rfl, (hk.c 0 rfl (hk.c 1 rfl (hk.c 2 rfl (hk.c 7 rfl (hk.c 21 rfl hk.k))))), (hs.pick [] rfl)⟩
      · intro a w hR0
        rw [hR23] at hR0
        obtain ⟨u19, rfl, hk, hs⟩ := hR0
        have H := HL22
        try dsimp only at H
        refine hK17 _ _ ?_
        rcases cond_some H with ⟨c29, H⟩ | ⟨c29, H⟩
        · have hk := hk.lit 21 c29 rfl
          refine cnd_true hk rfl rfl ?_
          refine wp_skip ?_
          refine hK16 _ _ ?_
          refine wp_block ?_
          apply wp_region_lit
          refine sm _ rfl hk rfl rfl rfl fun a hk => ?_
          refine sv (.int .i64 (w64 (u6 + 1))) hk rfl rfl rfl fun a hk => ?_
          refine sa _ rfl hk rfl rfl rfl fun a hk => ?_
          show wpList _ _ _ [] _ _
          refine wpList_nil ?_
          obtain rfl := Option.some.inj H
          obtain ⟨m30, hmm30, h15⟩ := h15
          show ∃ n', n' < _ ∧ I12 n' _ _
          refine ⟨m30, hmm30, ?_⟩
          rw [hI12]
          exact ⟨(w64 (u6 + 1)), h15, (hk.c 0 rfl (hk.c 1 rfl (hk.c 2 rfl (hk.c 7 rfl hk.k)))), (hs.pick [] rfl)⟩
        · have hk := hk.lit 21 c29 rfl
          refine cnd_false hk rfl rfl ?_
          refine wp_exit ?_
          obtain rfl := Option.some.inj H
          show R11 _ _
          rw [hR11]
          exact ⟨u6, h15.symm, (hk.c 0 rfl (hk.c 1 rfl (hk.c 2 rfl (hk.c 7 rfl hk.k)))), (hs.pick [] rfl)⟩
  · intro a w hR0
    rw [hR11] at hR0
    obtain ⟨u7, rfl, hk, hs⟩ := hR0
    have H := HL10
    try dsimp only at H
    refine hK3 _ _ ?_
    apply wp_seq_k; intro K31 hK31
    apply wp_region_lit
    refine sm _ rfl hk rfl rfl rfl fun a hk => ?_
    refine sm _ rfl hk rfl rfl rfl fun a hk => ?_
    rcases ite_some H with ⟨c32, H⟩ | ⟨_, H⟩
    rotate_left
    · cases H
    refine sll_l rfl hk rfl rfl rfl rfl un26 sz62 c32.1 c32.2 fun a hk => ?_
    have v33 : View L_Entry (if p0_ = u7.toNat then A0_ else (A0_ : Option Addr).map (·.add (u7.toNat * 2))) (p0_ - u7.toNat) (l0.drop u7.toNat) k0_ := (v0_).dropv u7.toNat (by omega)
    have lh34 : (l0.drop u7.toNat).length = (l0.length - u7.toNat) := (by rw [List.length_drop])
    refine sa _ rfl hk rfl rfl rfl fun a hk => ?_
    show wpList _ _ _ [] _ _
    refine wpList_nil ?_
    refine hK31 _ _ ?_
    apply wp_seq_k; intro K35 hK35
    apply wp_seq_k; intro K36 hK36
    obtain ⟨o39, h40, HL41⟩ := bind_some H
    clear H
    obtain ⟨R42, hR42⟩ : ∃ R : Act → World → Prop, R = fun a w => ∃ (u38 : Bool), u38 = o39 ∧ Kn [(0, (.slice A0_ l0.length p0_)), (1, (.int .i64 x1)), (2, (.int .i64 x2)), (7, (.int .i64 u7)), (8, (.slice (if p0_ = u7.toNat then A0_ else (A0_ : Option Addr).map (·.add (u7.toNat * 2))) (l0.length - u7.toNat) (p0_ - u7.toNat))), (39, (.bool u38))] 56 a ∧ Sat [] w0 w [(1, k0_)] [] := ⟨_, rfl⟩
    refine wp_cutq R42 ?_ ?_
    · have H := h40
      apply wp_region_lit
      refine sm _ rfl hk rfl rfl rfl fun a hk => ?_
      refine sm _ rfl hk rfl rfl rfl fun a hk => ?_
      refine sle rfl hk rfl rfl rfl un26 fun a hk => ?_
      refine sv (.bool (decide (u7 < (l0.length : Int)))) hk rfl rfl rfl fun a hk => ?_
      refine sm _ rfl hk rfl rfl rfl fun a hk => ?_
      rcases cond_some H with ⟨c43, H⟩ | ⟨c43, H⟩
      · have hk := hk.lit 31 c43 rfl
        refine sm _ rfl hk rfl rfl rfl fun a hk => ?_
        refine sm _ rfl hk rfl rfl rfl fun a hk => ?_
        rcases ite_some H with ⟨c44, H⟩ | ⟨_, H⟩
        rotate_left
        · cases H
        obtain ⟨b45, q46, hAc44⟩ := (v0_).some_ u7 c44.1 c44.2
        refine si rfl hk rfl rfl rfl rfl un26 sz62 c44.1 c44.2 hAc44 fun a hk => ?_
        refine sf (padd A0_ (u7.toNat * 2 + 0)) rfl hk rfl rfl rfl fd62_0 (padd_add _ _ _) fun a hk => ?_
        obtain ⟨_, rfl, e47⟩ := (v0_).at_ z_Entry u7 c44.1 c44.2
        refine sl (v := (.int .i64 ((l0.getD u7.toNat z_Entry).Key))) rfl hk rfl rfl rfl ag3 ((e47 0 _ rfl).cell (hs.hasD (k := 1) rfl)) fun a hk => ?_
        refine sm _ rfl hk rfl rfl rfl fun a hk => ?_
        refine sv (.bool (((l0.getD u7.toNat z_Entry).Key) == x1)) hk rfl rfl rfl fun a hk => ?_
        refine sv (.bool (((l0.getD u7.toNat z_Entry).Key) == x1)) hk rfl rfl rfl fun a hk => ?_
        show wpList _ _ _ [] _ _
        refine wpList_nil ?_
        obtain rfl := Option.some.inj H
        show R42 _ _
        rw [hR42]
        exact ⟨(((l0.getD u7.toNat z_Entry).Key) == x1), rfl, (hk.c 0 rfl (hk.c 1 rfl (hk.c 2 rfl (hk.c 7 rfl (hk.c 8 rfl (hk.c 39 rfl hk.k)))))), (hs.pick [] rfl)⟩
      · have hk := hk.lit 31 c43 rfl
        refine sk hk rfl rfl rfl fun a hk => ?_
        refine sk hk rfl rfl rfl fun a hk => ?_
        refine sk hk rfl rfl rfl fun a hk => ?_
        refine sk hk rfl rfl rfl fun a hk => ?_
        refine sk hk rfl rfl rfl fun a hk => ?_
        refine sk hk rfl rfl rfl fun a hk => ?_
        refine sk hk rfl rfl rfl fun a hk => ?_
        refine sv (.bool false) hk rfl rfl rfl fun a hk => ?_
        show wpList _ _ _ [] _ _
        refine wpList_nil ?_
        obtain rfl := Option.some.inj H
        show R42 _ _
        rw [hR42]
        exact ⟨false, rfl, (hk.c 0 rfl (hk.c 1 rfl (hk.c 2 rfl (hk.c 7 rfl (hk.c 8 rfl (hk.c 39 rfl hk.k)))))), (hs.pick [] rfl)⟩
    · intro a w hR0
      rw [hR42] at hR0
      obtain ⟨u38, rfl, hk, hs⟩ := hR0
      have H := HL41
      try dsimp only at H
      refine hK36 _ _ ?_
      obtain ⟨o53, h54, HL55⟩ := bind_some H
      clear H
      obtain ⟨R56, hR56⟩ : ∃ R : Act → World → Prop, R = fun a w => ∃ (u49 : List S_Entry) (A50 : Option Addr) (p51 : Nat), u49 = o53 ∧ Kn [(0, (.slice A0_ l0.length p0_)), (1, (.int .i64 x1)), (2, (.int .i64 x2)), (7, (.int .i64 u7)), (8, (.slice A50 u49.length p51))] 56 a ∧ Sat [] w0 w [(1, k0_)] [] ∧ View L_Entry A50 p51 u49 k0_ := ⟨_, rfl⟩
      refine wp_cutq R56 ?_ ?_
      · have H := h54
        rcases cond_some H with ⟨c57, H⟩ | ⟨c57, H⟩
        · have hk := hk.lit 39 c57 rfl
          refine cnd_true hk rfl rfl ?_
          apply wp_region_lit
          refine sm _ rfl hk rfl rfl rfl fun a hk => ?_
          refine sm _ rfl hk rfl rfl rfl fun a hk => ?_
          refine sv (.int .i64 (w64 (u7 + 1))) hk rfl rfl rfl fun a hk => ?_
          rcases ite_some H with ⟨c58, H⟩ | ⟨_, H⟩
          rotate_left
          · cases H
          refine sll_l rfl hk rfl rfl rfl rfl un26 sz62 c58.1 c58.2 fun a hk => ?_
          have v59 : View L_Entry (if p0_ = (w64 (u7 + 1)).toNat then A0_ else (A0_ : Option Addr).map (·.add ((w64 (u7 + 1)).toNat * 2))) (p0_ - (w64 (u7 + 1)).toNat) (l0.drop (w64 (u7 + 1)).toNat) k0_ := (v0_).dropv (w64 (u7 + 1)).toNat (by omega)
          have lh60 : (l0.drop (w64 (u7 + 1)).toNat).length = (l0.length - (w64 (u7 + 1)).toNat) := (by rw [List.length_drop])
          refine sa _ rfl hk rfl rfl rfl fun a hk => ?_
          show wpList _ _ _ [] _ _
          refine wpList_nil ?_
          obtain rfl := Option.some.inj H
          show R56 _ _
          rw [hR56]
          exact ⟨(l0.drop (w64 (u7 + 1)).toNat), (if p0_ = (w64 (u7 + 1)).toNat then A0_ else (A0_ : Option Addr).map (·.add ((w64 (u7 + 1)).toNat * 2))), (p0_ - (w64 (u7 + 1)).toNat), rfl, (hk.c 0 rfl (hk.c 1 rfl (hk.c 2 rfl (hk.c 7 rfl (hk.cl 8 rfl (by rw [lh60]) hk.k))))), (hs.pick [] rfl), v59⟩
        · have hk := hk.lit 39 c57 rfl
          refine cnd_false hk rfl rfl ?_
          refine wp_skip ?_
          obtain rfl := Option.some.inj H
          show R56 _ _
          rw [hR56]
          exact ⟨(l0.drop u7.toNat), (if p0_ = u7.toNat then A0_ else (A0_ : Option Addr).map (·.add (u7.toNat * 2))), (p0_ - u7.toNat), rfl, (hk.c 0 rfl (hk.c 1 rfl (hk.c 2 rfl (hk.c 7 rfl (hk.cl 8 rfl (by rw [lh34]) hk.k))))), (hs.pick [] rfl), v33⟩
      · intro a w hR0
        rw [hR56] at hR0
        obtain ⟨u49, A50, p51, rfl, hk, hs, v52⟩ := hR0
        have H := HL55
        try dsimp only at H
        refine hK35 _ _ ?_
        apply wp_seq_k; intro K61 hK61
        apply wp_region_lit
        refine sbs0 6 L_Entry hs rfl hk rfl rfl un26 sz62 fun b62 k63 w a hk o64 hs => ?_
        refine sm _ rfl hk rfl rfl rfl fun a hk => ?_
        refine sm _ rfl hk rfl rfl rfl fun a hk => ?_
        rcases ite_some H with ⟨c65, H⟩ | ⟨_, H⟩
        rotate_left
        · cases H
        refine sll_h rfl hk rfl rfl rfl rfl un26 sz62 c65.1 (by have := (v0_).le_cap; omega) fun a hk => ?_
        have v66 : View L_Entry (if p0_ = 0 then A0_ else (A0_ : Option Addr).map (·.add (0 * 2))) (p0_ - 0) (l0.take u7.toNat) k0_ := (v0_).takev u7.toNat (by omega)
        have lh67 : (l0.take u7.toNat).length = (u7.toNat - 0) := (by rw [List.length_take]; omega)
        rcases ite_some H with ⟨c68, H⟩ | ⟨_, H⟩
        rotate_left
        · cases H
        refine sap 6 (xs := ([] : List S_Entry)) (ys := (l0.take u7.toNat)) (flat_flat : (L_Entry).Flat) hs rfl o64 v66 (hs.hasD (k := 1) rfl) rfl hk rfl rfl rfl rfl lh67.symm rfl un26 mk62 rfl rfl rfl c68 fun A69 p70 k71 w a hk o72 hs => ?_
        refine sm _ rfl hk rfl rfl rfl fun a hk => ?_
        refine sm _ rfl hk rfl rfl rfl fun a hk => ?_
        refine sbd (pv := [(0, (.int .i64 x1)), (1, (.int .i64 x2))]) rfl hk rfl rfl rfl (bd62_1 x1 x2) fun a hk => ?_
        refine sbs (L := L_Entry) (pv := [(0, (.agg #[.int .i64 x1, .int .i64 x2]))]) (xs := [(⟨x1, x2⟩ : S_Entry)]) (ess := [[.int .i64 x1, .int .i64 x2]]) 7 hs rfl hk rfl rfl rfl un26 (bs62_2 x1 x2) (AllOwn.cons0 ⟨rfl, rfl⟩ AllOwn.nil) rfl rfl rfl fun b73 k74 w a hk o75 hs => ?_
        rcases ite_some H with ⟨c76, H⟩ | ⟨_, H⟩
        rotate_left
        · cases H
        refine sap 6 (xs := (([] : List S_Entry) ++ (l0.take u7.toNat))) (ys := [(⟨x1, x2⟩ : S_Entry)]) (flat_flat : (L_Entry).Flat) hs rfl o72 o75.view (hs.hasG (k := 7) rfl) rfl hk rfl rfl rfl rfl rfl rfl un26 mk62 rfl rfl rfl c76 fun A77 p78 k79 w a hk o80 hs => ?_
        refine sm _ rfl hk rfl rfl rfl fun a hk => ?_
        rcases ite_some H with ⟨c81, H⟩ | ⟨_, H⟩
        rotate_left
        · cases H
        refine sap 6 (xs := ((([] : List S_Entry) ++ (l0.take u7.toNat)) ++ ([(⟨x1, x2⟩ : S_Entry)]))) (ys := u49) (flat_flat : (L_Entry).Flat) hs rfl o80 v52 (hs.hasD (k := 1) rfl) rfl hk rfl rfl rfl rfl rfl rfl un26 mk62 rfl rfl rfl c81 fun A82 p83 k84 w a hk o85 hs => ?_
        refine sa _ rfl hk rfl rfl rfl fun a hk => ?_
        show wpList _ _ _ [] _ _
        refine wpList_nil ?_
        refine hK61 _ _ ?_
        refine wp_ret ?_
        obtain rfl := Option.some.inj H
        exact fin hk _ [(.slice A82 (((([] : List S_Entry) ++ (l0.take u7.toNat)) ++ ([(⟨x1, x2⟩ : S_Entry)])) ++ u49).length p83)] rfl ⟨rfl, trivial⟩ ⟨A82, p83, _, rfl, o85, (hs.pick [(0, 6)] rfl).dnil⟩

noncomputable def spec_l10Do.s0 (l0 : List S_Entry) (x1 : S_Op) (u105 : List Int) (u104 : Int) : Option (((List Int) × Int) ⊕ Ex ((List Int)) ((List S_Entry) × (List Int) × Int)) :=
  (((bif (decide (u104 < (l0.length : Int))) then (some (decide ((u105.length : Int) < (w64 (2 * x1.Value))))) else (some false)) : Option (Bool)).bind fun u126 => (bif u126 then (if 0 ≤ u104 ∧ u104 < (l0.length : Int) then (((bif (decide (((l0.getD u104.toNat z_Entry).Key) ≥ x1.Key)) then (if 0 ≤ u104 ∧ u104 < (l0.length : Int) then (if 0 ≤ u104 ∧ u104 < (l0.length : Int) then (if u105.length + ([(l0.getD u104.toNat z_Entry).Key, (l0.getD u104.toNat z_Entry).Value]).length ≤ 1073741824 then (some (u105 ++ ([(l0.getD u104.toNat z_Entry).Key, (l0.getD u104.toNat z_Entry).Value]))) else none) else none) else none) else (some u105)) : Option ((List Int))).bind fun u141 => (some (.inl (u141, (w64 (u104 + 1)))))) else none) else (some (.inr (.out u105)))))
noncomputable def spec_l10Do.s1 (x1 : S_Op) (u176 : List Int) : Option (((List Int)) ⊕ Ex ((List Int)) ((List S_Entry) × (List Int) × Int)) :=
  (bif (decide ((u176.length : Int) < (w64 (2 * x1.Value)))) then (if u176.length + ([0]).length ≤ 1073741824 then (some (.inl (u176 ++ ([0])))) else none) else (some (.inr (.out u176))))
noncomputable def spec_l10Do.f (l0 : List S_Entry) (x1 : S_Op) : Option ((List S_Entry) × (List Int) × Int) :=
  ((spec_l10Find.f l0 x1.Key).bind fun y4 => (((bif (decide (y4 ≥ 0)) then (if 0 ≤ y4 ∧ y4 < (l0.length : Int) then (some ((l0.getD y4.toNat z_Entry).Value)) else none) else (some 0)) : Option (Int)).bind fun u10 => (bif (x1.Kind == 1) then ((spec_l01Bit.f (decide (y4 ≥ 0))).bind fun y25 => (some (l0, [y25, u10], 0))) else (bif (x1.Kind == 3) then (((bif (decide (y4 ≥ 0)) then (if 0 ≤ y4 ∧ y4 ≤ (l0.length : Int) then (if 0 ≤ (w64 (y4 + 1)) ∧ (w64 (y4 + 1)) ≤ (l0.length : Int) then (if ([] : List S_Entry).length + (l0.take y4.toNat).length ≤ 1073741824 then (if (([] : List S_Entry) ++ (l0.take y4.toNat)).length + (l0.drop (w64 (y4 + 1)).toNat).length ≤ 1073741824 then (some ((([] : List S_Entry) ++ (l0.take y4.toNat)) ++ (l0.drop (w64 (y4 + 1)).toNat))) else none) else none) else none) else none) else (some l0)) : Option ((List S_Entry))).bind fun u35 => ((spec_l01Bit.f (decide (y4 ≥ 0))).bind fun y65 => (some (u35, [y65], 0)))) else (bif (x1.Kind == 4) then (((bif (decide (y4 < 0)) then (some true) else (some (u10 != x1.Value))) : Option (Bool)).bind fun u75 => (bif u75 then (some (l0, ([] : List Int), 14)) else (some (l0, ([] : List Int), 0)))) else (bif (x1.Kind == 6) then ((loopO (fun s => spec_l10Do.s0 l0 x1 s.1 s.2) (([] : List Int), 0)).bind fun o => match o with | .out u110 => ((loopO (fun s => spec_l10Do.s1 x1 s) u110).bind fun o => match o with | .out u181 => (some (l0, u181, 0)) | .ret r => (some r)) | .ret r => (some r)) else (((bif (decide (y4 < 0)) then (some ((l0.length : Int) == 11)) else (some false)) : Option (Bool)).bind fun u210 => (bif u210 then (some (l0, ([] : List Int), 7)) else (bif (x1.Kind == 2) then ((spec_l10Put.f l0 x1.Key x1.Value).bind fun y225 => (some (y225, ([] : List Int), 0))) else (bif (decide ((w64 (u10 + x1.Value)) > 999999)) then (some (l0, ([] : List Int), 4)) else ((spec_l10Put.f l0 x1.Key (w64 (u10 + x1.Value))).bind fun y_r242_7_1 => (some (y_r242_7_1, [(w64 (u10 + x1.Value))], 0)))))))))))))
set_option maxRecDepth 100000 in
set_option maxHeartbeats 0 in
theorem spec_l10Do_t (w0 : World) (A0_ : Option Addr) (p0_ : Nat) (l0 : List S_Entry) (k0_ : Chunk) (v0_ : View L_Entry A0_ p0_ l0 k0_) (w0_ : Has w0 k0_) (x1 : S_Op) (r : (List S_Entry) × (List Int) × Int) (H : spec_l10Do.f l0 x1 = some r) :
    Calls Try.prog 65 #[.slice A0_ l0.length p0_, .agg #[.int .i64 x1.Kind, .int .i64 x1.Key, .int .i64 x1.Value]] w0 (Ret (fun v w => ∃ (A0 : Option Addr) (p0 : Nat), ∃ (A1 : Option Addr) (p1 : Nat) (k1 : Chunk), ∃ (kS : Chunk), v = .tuple #[.slice A0 r.1.length p0, .slice A1 r.2.1.length p1, .int .i64 r.2.2] ∧ View L_Entry A0 p0 r.1 (k0_ ++ kS) ∧ Own (Lay.int .i64) 3 A1 p1 r.2.1 k1 ∧ Sat [] w0 w [] [(0, k1), (1, kS)])) := by
  have hs : Sat [] w0 w0 [(1, k0_)] [] := Sat.init w0 [(1, k0_)] [] (by simp only [List.mem_cons, List.not_mem_nil, or_false]; rintro x (rfl) <;> assumption) (by simp) List.nodup_nil (by simp [blks])
  unfold spec_l10Do.f at H
  refine enter Try.func65 rfl Try.ntmps65 rfl fun a hk => ?_
  apply wp_seq_k; intro K1 hK1
  apply wp_region_lit
  refine sbx 2 hs rfl hk rfl rfl rfl rfl fun b2 w a hk hs => ?_
  refine sa _ rfl hk rfl rfl rfl fun a hk => ?_
  refine sa _ rfl hk rfl rfl rfl fun a hk => ?_
  refine sa _ rfl hk rfl rfl rfl fun a hk => ?_
  show wpList _ _ _ [] _ _
  refine wpList_nil ?_
  refine hK1 _ _ ?_
  apply wp_seq_k; intro K3 hK3
  apply wp_region_lit
  refine sm _ rfl hk rfl rfl rfl fun a hk => ?_
  refine sf ⟨b2, 1, none⟩ rfl hk rfl rfl rfl fd31_1 rfl fun a hk => ?_
  refine sl rfl hk rfl rfl rfl ag3 (box_cell hs (k := 2) rfl rfl) fun a hk => ?_
  obtain ⟨y4, h5, H⟩ := bind_some H
  refine sc rfl en125 hk rfl rfl rfl (spec_l10Find_t _ A0_ p0_ l0 _ v0_ (hs.hasD (k := 1) rfl) x1.Key _ h5) ?_
  rintro _ w ⟨rfl, hG⟩ a hk
  have hs := hs.call0 hG
  refine sa _ rfl hk rfl rfl rfl fun a hk => ?_
  show wpList _ _ _ [] _ _
  refine wpList_nil ?_
  refine hK3 _ _ ?_
  apply wp_seq_k; intro K6 hK6
  apply wp_region_lit
  refine sa _ rfl hk rfl rfl rfl fun a hk => ?_
  show wpList _ _ _ [] _ _
  refine wpList_nil ?_
  refine hK6 _ _ ?_
  apply wp_seq_k; intro K7 hK7
  apply wp_seq_k; intro K8 hK8
  apply wp_region_lit
  refine sm _ rfl hk rfl rfl rfl fun a hk => ?_
  refine sv (.bool (decide (y4 ≥ 0))) hk rfl rfl rfl fun a hk => ?_
  show wpList _ _ _ [] _ _
  refine wpList_nil ?_
  refine hK8 _ _ ?_
  obtain ⟨o11, h12, HL13⟩ := bind_some H
  clear H
  obtain ⟨R14, hR14⟩ : ∃ R : Act → World → Prop, R = fun a w => ∃ (u10 : Int), u10 = o11 ∧ Kn [(0, (.slice A0_ l0.length p0_)), (3, (.pointer (some ⟨b2, 0, none⟩))), (7, (.int .i64 y4)), (8, (.int .i64 u10))] 153 a ∧ Sat [] w0 w [(1, k0_)] [(2, [(b2, .cells #[.int .i64 x1.Kind, .int .i64 x1.Key, .int .i64 x1.Value] 31 (0, 0))])] := ⟨_, rfl⟩
  refine wp_cutq R14 ?_ ?_
  · have H := h12
    rcases cond_some H with ⟨c15, H⟩ | ⟨c15, H⟩
    · have hk := hk.lit 16 c15 rfl
      refine cnd_true hk rfl rfl ?_
      apply wp_region_lit
      refine sm _ rfl hk rfl rfl rfl fun a hk => ?_
      refine sm _ rfl hk rfl rfl rfl fun a hk => ?_
      rcases ite_some H with ⟨c16, H⟩ | ⟨_, H⟩
      rotate_left
      · cases H
      obtain ⟨b17, q18, hAc16⟩ := (v0_).some_ y4 c16.1 c16.2
      refine si rfl hk rfl rfl rfl rfl un26 sz62 c16.1 c16.2 hAc16 fun a hk => ?_
      refine sf (padd A0_ (y4.toNat * 2 + 1)) rfl hk rfl rfl rfl fd62_1 (padd_add _ _ _) fun a hk => ?_
      obtain ⟨_, rfl, e19⟩ := (v0_).at_ z_Entry y4 c16.1 c16.2
      refine sl (v := (.int .i64 ((l0.getD y4.toNat z_Entry).Value))) rfl hk rfl rfl rfl ag3 ((e19 1 _ rfl).cell (hs.hasD (k := 1) rfl)) fun a hk => ?_
      refine sa _ rfl hk rfl rfl rfl fun a hk => ?_
      show wpList _ _ _ [] _ _
      refine wpList_nil ?_
      obtain rfl := Option.some.inj H
      show R14 _ _
      rw [hR14]
      exact ⟨(l0.getD y4.toNat z_Entry).Value, rfl, (hk.c 0 rfl (hk.c 3 rfl (hk.c 7 rfl (hk.c 8 rfl hk.k)))), (hs.pick [(2, 2)] rfl)⟩
    · have hk := hk.lit 16 c15 rfl
      refine cnd_false hk rfl rfl ?_
      refine wp_skip ?_
      obtain rfl := Option.some.inj H
      show R14 _ _
      rw [hR14]
      exact ⟨0, rfl, (hk.c 0 rfl (hk.c 3 rfl (hk.c 7 rfl (hk.c 8 rfl hk.k)))), (hs.pick [(2, 2)] rfl)⟩
  · intro a w hR0
    rw [hR14] at hR0
    obtain ⟨u10, rfl, hk, hs⟩ := hR0
    have H := HL13
    try dsimp only at H
    refine hK7 _ _ ?_
    apply wp_seq_k; intro K20 hK20
    apply wp_seq_k; intro K21 hK21
    apply wp_region_lit
    refine sf ⟨b2, 0, none⟩ rfl hk rfl rfl rfl fd31_0 rfl fun a hk => ?_
    refine sl rfl hk rfl rfl rfl ag3 (box_cell hs (k := 2) rfl rfl) fun a hk => ?_
    show wpList _ _ _ [] _ _
    refine wpList_nil ?_
    refine hK21 _ _ ?_
    refine wp_block ?_
    apply wp_seq_k; intro K22 hK22
    apply wp_region_lit
    refine sv (.bool (x1.Kind == 1)) hk rfl rfl rfl fun a hk => ?_
    refine sa _ rfl hk rfl rfl rfl fun a hk => ?_
    show wpList _ _ _ [] _ _
    refine wpList_nil ?_
    refine hK22 _ _ ?_
    rcases cond_some H with ⟨c23, H⟩ | ⟨c23, H⟩
    · have hk := hk.lit 24 c23 rfl
      refine cnd_true hk rfl rfl ?_
      apply wp_seq_k; intro K24 hK24
      apply wp_region_lit
      refine sm _ rfl hk rfl rfl rfl fun a hk => ?_
      refine sm _ rfl hk rfl rfl rfl fun a hk => ?_
      refine sv (.bool (decide (y4 ≥ 0))) hk rfl rfl rfl fun a hk => ?_
      obtain ⟨y25, h26, H⟩ := bind_some H
      refine sc rfl en126 hk rfl rfl rfl (spec_l01Bit_t _ (decide (y4 ≥ 0)) _ h26) ?_
      rintro _ w ⟨rfl, hG⟩ a hk
      have hs := hs.call0 hG
      refine sm _ rfl hk rfl rfl rfl fun a hk => ?_
      refine sbs (L := (Lay.int .i64)) (pv := [(0, (.int .i64 y25)), (1, (.int .i64 u10))]) (xs := [y25, u10]) (ess := [[.int .i64 y25], [.int .i64 u10]]) 4 hs rfl hk rfl rfl rfl un27 (bs3_0 y25 u10) (AllOwn.cons0 ⟨rfl, rfl⟩ (AllOwn.cons0 ⟨rfl, rfl⟩ AllOwn.nil)) rfl rfl rfl fun b27 k28 w a hk o29 hs => ?_
      refine sa _ rfl hk rfl rfl rfl fun a hk => ?_
      refine sa _ rfl hk rfl rfl rfl fun a hk => ?_
      refine sa _ rfl hk rfl rfl rfl fun a hk => ?_
      show wpList _ _ _ [] _ _
      refine wpList_nil ?_
      refine hK24 _ _ ?_
      refine wp_ret ?_
      obtain rfl := Option.some.inj H
      exact fin hk _ [(.slice A0_ l0.length p0_), (.slice (some ⟨b27, 0, none⟩) 2 2), (.int .i64 0)] rfl ⟨rfl, ⟨rfl, ⟨rfl, trivial⟩⟩⟩ ⟨A0_, p0_, (some ⟨b27, 0, none⟩), 2, _, _, rfl, (v0_).sub (Sub.l _ (Sub.refl _)), o29, ((hs.addNil 3000).pick [(0, 4), (1, 3000)] rfl).dnil⟩
    · have hk := hk.lit 24 c23 rfl
      refine cnd_false hk rfl rfl ?_
      apply wp_seq_k; intro K30 hK30
      apply wp_region_lit
      refine sv (.bool (x1.Kind == 3)) hk rfl rfl rfl fun a hk => ?_
      refine sa _ rfl hk rfl rfl rfl fun a hk => ?_
      show wpList _ _ _ [] _ _
      refine wpList_nil ?_
      refine hK30 _ _ ?_
      rcases cond_some H with ⟨c31, H⟩ | ⟨c31, H⟩
      · have hk := hk.lit 32 c31 rfl
        refine cnd_true hk rfl rfl ?_
        apply wp_seq_k; intro K32 hK32
        apply wp_seq_k; intro K33 hK33
        apply wp_region_lit
        refine sm _ rfl hk rfl rfl rfl fun a hk => ?_
        refine sv (.bool (decide (y4 ≥ 0))) hk rfl rfl rfl fun a hk => ?_
        show wpList _ _ _ [] _ _
        refine wpList_nil ?_
        refine hK33 _ _ ?_
        obtain ⟨o39, h40, HL41⟩ := bind_some H
        clear H
        obtain ⟨R42, hR42⟩ : ∃ R : Act → World → Prop, R = fun a w => ∃ (u35 : List S_Entry) (A36 : Option Addr) (p37 : Nat) (kf34 : Chunk), u35 = o39 ∧ Kn [(0, (.slice A36 u35.length p37)), (7, (.int .i64 y4))] 153 a ∧ Sat [] w0 w [(1, k0_)] [(5, kf34)] ∧ View L_Entry A36 p37 u35 (k0_ ++ kf34) := ⟨_, rfl⟩
        refine wp_cutq R42 ?_ ?_
        · have H := h40
          rcases cond_some H with ⟨c43, H⟩ | ⟨c43, H⟩
          · have hk := hk.lit 35 c43 rfl
            refine cnd_true hk rfl rfl ?_
            refine wp_region_tree (.q 1 (.q 2 (.q 3 (.q 5 (.q 6 (.q 7 (.q 8 (.alt 0 (.alt 4 (.alt 9 (.last 10) .stop) .stop) .stop)))))))) mo (by kernel_rfl) (hs.pick [(2, 2)] rfl) fun _ => ?_
            have hs := hs.drew
            refine tqst (.slice A0_ l0.length p0_) hk rfl rfl rfl rfl (fun w hs => sm _ rfl hk rfl rfl rfl fun a hk => qe hk) fun a hk => ?_
            refine tqst (.int .i64 y4) hk rfl rfl rfl rfl (fun w hs => sm _ rfl hk rfl rfl rfl fun a hk => qe hk) fun a hk => ?_
            rcases ite_some H with ⟨c45, H⟩ | ⟨_, H⟩
            rotate_left
            · cases H
            refine tqst (.slice (if p0_ = 0 then A0_ else (A0_ : Option Addr).map (·.add (0 * 2))) (y4.toNat - 0) (p0_ - 0)) hk rfl rfl rfl rfl (fun w hs => sll_h rfl hk rfl rfl rfl rfl un26 sz62 c45.1 (by have := (v0_).le_cap; omega) fun a hk => qe hk) fun a hk => ?_
            have v46 : View L_Entry (if p0_ = 0 then A0_ else (A0_ : Option Addr).map (·.add (0 * 2))) (p0_ - 0) (l0.take y4.toNat) k0_ := (v0_).takev y4.toNat (by omega)
            have lh47 : (l0.take y4.toNat).length = (y4.toNat - 0) := (by rw [List.length_take]; omega)
            refine tqst (.slice A0_ l0.length p0_) hk rfl rfl rfl rfl (fun w hs => sm _ rfl hk rfl rfl rfl fun a hk => qe hk) fun a hk => ?_
            refine tqst (.int .i64 y4) hk rfl rfl rfl rfl (fun w hs => sm _ rfl hk rfl rfl rfl fun a hk => qe hk) fun a hk => ?_
            refine tqst (.int .i64 (w64 (y4 + 1))) hk rfl rfl rfl rfl (fun w hs => sv (.int .i64 (w64 (y4 + 1))) hk rfl rfl rfl fun a hk => qe hk) fun a hk => ?_
            rcases ite_some H with ⟨c48, H⟩ | ⟨_, H⟩
            rotate_left
            · cases H
            refine tqst (.slice (if p0_ = (w64 (y4 + 1)).toNat then A0_ else (A0_ : Option Addr).map (·.add ((w64 (y4 + 1)).toNat * 2))) (l0.length - (w64 (y4 + 1)).toNat) (p0_ - (w64 (y4 + 1)).toNat)) hk rfl rfl rfl rfl (fun w hs => sll_l rfl hk rfl rfl rfl rfl un26 sz62 c48.1 c48.2 fun a hk => qe hk) fun a hk => ?_
            have v49 : View L_Entry (if p0_ = (w64 (y4 + 1)).toNat then A0_ else (A0_ : Option Addr).map (·.add ((w64 (y4 + 1)).toNat * 2))) (p0_ - (w64 (y4 + 1)).toNat) (l0.drop (w64 (y4 + 1)).toNat) k0_ := (v0_).dropv (w64 (y4 + 1)).toNat (by omega)
            have lh50 : (l0.drop (w64 (y4 + 1)).toNat).length = (l0.length - (w64 (y4 + 1)).toNat) := (by rw [List.length_drop])
            refine tsst hk rfl rfl (fun K_r44_0 hK_r44_0 w hF => ?_) wt_stop
            have hs := hs.f hF
            refine sbs0 7 L_Entry hs rfl hk rfl rfl un26 sz62 fun b51 k52 w a hk o53 hs => ?_
            refine se (hs.pick [(2, 2)] rfl) hk (hK_r44_0 _ _ ?_)
            refine tsst hk rfl rfl (fun K_r44_4 hK_r44_4 w hF => ?_) wt_stop
            have hs := hs.f hF
            rcases ite_some H with ⟨c54, H⟩ | ⟨_, H⟩
            rotate_left
            · cases H
            refine sap 7 (xs := ([] : List S_Entry)) (ys := (l0.take y4.toNat)) (flat_flat : (L_Entry).Flat) hs rfl o53 v46 (hs.hasD (k := 1) rfl) rfl hk rfl rfl rfl rfl lh47.symm rfl un26 mk62 rfl rfl rfl c54 fun A55 p56 k57 w a hk o58 hs => ?_
            refine se (hs.pick [(2, 2)] rfl) hk (hK_r44_4 _ _ ?_)
            refine tsst hk rfl rfl (fun K_r44_9 hK_r44_9 w hF => ?_) wt_stop
            have hs := hs.f hF
            rcases ite_some H with ⟨c59, H⟩ | ⟨_, H⟩
            rotate_left
            · cases H
            refine sap 7 (xs := (([] : List S_Entry) ++ (l0.take y4.toNat))) (ys := (l0.drop (w64 (y4 + 1)).toNat)) (flat_flat : (L_Entry).Flat) hs rfl o58 v49 (hs.hasD (k := 1) rfl) rfl hk rfl rfl rfl rfl lh50.symm rfl un26 mk62 rfl rfl rfl c59 fun A60 p61 k62 w a hk o63 hs => ?_
            refine se (hs.pick [(2, 2)] rfl) hk (hK_r44_9 _ _ ?_)
            refine tlst hk rfl rfl fun K_r44_10 hK_r44_10 w hF => ?_
            have hs := hs.f hF
            refine sa _ rfl hk rfl rfl rfl fun a hk => ?_
            refine se trivial hk (hK_r44_10 _ _ fun w hF => ?_)
            have hs := hs.f hF
            obtain rfl := Option.some.inj H
            show R42 _ _
            rw [hR42]
            exact ⟨((([] : List S_Entry) ++ (l0.take y4.toNat)) ++ (l0.drop (w64 (y4 + 1)).toNat)), A60, p61, _, rfl, (hk.c 0 rfl (hk.c 7 rfl hk.k)), (hs.pick [(5, 7)] rfl), (o63.view).sub (Sub.r _ (Sub.refl _))⟩
          · have hk := hk.lit 35 c43 rfl
            refine cnd_false hk rfl rfl ?_
            refine wp_skip ?_
            obtain rfl := Option.some.inj H
            show R42 _ _
            rw [hR42]
            exact ⟨l0, A0_, p0_, _, rfl, (hk.c 0 rfl (hk.c 7 rfl hk.k)), ((hs.addNil 3005).pick [(5, 3005)] rfl), (v0_).sub (Sub.l _ (Sub.refl _))⟩
        · intro a w hR0
          rw [hR42] at hR0
          obtain ⟨u35, A36, p37, kf34, rfl, hk, hs, v38⟩ := hR0
          have H := HL41
          try dsimp only at H
          refine hK32 _ _ ?_
          apply wp_seq_k; intro K64 hK64
          apply wp_region_lit
          refine sm _ rfl hk rfl rfl rfl fun a hk => ?_
          refine sm _ rfl hk rfl rfl rfl fun a hk => ?_
          refine sv (.bool (decide (y4 ≥ 0))) hk rfl rfl rfl fun a hk => ?_
          obtain ⟨y65, h66, H⟩ := bind_some H
          refine sc rfl en126 hk rfl rfl rfl (spec_l01Bit_t _ (decide (y4 ≥ 0)) _ h66) ?_
          rintro _ w ⟨rfl, hG⟩ a hk
          have hs := hs.call0 hG
          refine sbs (L := (Lay.int .i64)) (pv := [(0, (.int .i64 y65))]) (xs := [y65]) (ess := [[.int .i64 y65]]) 8 hs rfl hk rfl rfl rfl un27 (bs3_3 y65) (AllOwn.cons0 ⟨rfl, rfl⟩ AllOwn.nil) rfl rfl rfl fun b67 k68 w a hk o69 hs => ?_
          refine sa _ rfl hk rfl rfl rfl fun a hk => ?_
          refine sa _ rfl hk rfl rfl rfl fun a hk => ?_
          refine sa _ rfl hk rfl rfl rfl fun a hk => ?_
          show wpList _ _ _ [] _ _
          refine wpList_nil ?_
          refine hK64 _ _ ?_
          refine wp_ret ?_
          obtain rfl := Option.some.inj H
          exact fin hk _ [(.slice A36 u35.length p37), (.slice (some ⟨b67, 0, none⟩) 1 1), (.int .i64 0)] rfl ⟨rfl, ⟨rfl, ⟨rfl, trivial⟩⟩⟩ ⟨A36, p37, (some ⟨b67, 0, none⟩), 1, _, _, rfl, (v38).sub (Sub.refl _), o69, (hs.pick [(0, 8), (1, 5)] rfl).dnil⟩
      · have hk := hk.lit 32 c31 rfl
        refine cnd_false hk rfl rfl ?_
        apply wp_seq_k; intro K70 hK70
        apply wp_region_lit
        refine sv (.bool (x1.Kind == 4)) hk rfl rfl rfl fun a hk => ?_
        refine sa _ rfl hk rfl rfl rfl fun a hk => ?_
        show wpList _ _ _ [] _ _
        refine wpList_nil ?_
        refine hK70 _ _ ?_
        rcases cond_some H with ⟨c71, H⟩ | ⟨c71, H⟩
        · have hk := hk.lit 51 c71 rfl
          refine cnd_true hk rfl rfl ?_
          apply wp_seq_k; intro K72 hK72
          apply wp_seq_k; intro K73 hK73
          obtain ⟨o76, h77, HL78⟩ := bind_some H
          clear H
          obtain ⟨R79, hR79⟩ : ∃ R : Act → World → Prop, R = fun a w => ∃ (u75 : Bool), u75 = o76 ∧ Kn [(0, (.slice A0_ l0.length p0_)), (60, (.bool u75))] 153 a ∧ Sat [] w0 w [(1, k0_)] [] := ⟨_, rfl⟩
          refine wp_cutq R79 ?_ ?_
          · have H := h77
            apply wp_region_lit
            refine sm _ rfl hk rfl rfl rfl fun a hk => ?_
            refine sv (.bool (decide (y4 < 0))) hk rfl rfl rfl fun a hk => ?_
            refine sm _ rfl hk rfl rfl rfl fun a hk => ?_
            rcases cond_some H with ⟨c80, H⟩ | ⟨c80, H⟩
            · have hk := hk.lit 55 c80 rfl
              refine sk hk rfl rfl rfl fun a hk => ?_
              refine sk hk rfl rfl rfl fun a hk => ?_
              refine sk hk rfl rfl rfl fun a hk => ?_
              refine sk hk rfl rfl rfl fun a hk => ?_
              refine sv (.bool true) hk rfl rfl rfl fun a hk => ?_
              show wpList _ _ _ [] _ _
              refine wpList_nil ?_
              obtain rfl := Option.some.inj H
              show R79 _ _
              rw [hR79]
              exact ⟨true, rfl, (hk.c 0 rfl (hk.c 60 rfl hk.k)), (hs.pick [] rfl)⟩
            · have hk := hk.lit 55 c80 rfl
              refine sm _ rfl hk rfl rfl rfl fun a hk => ?_
              refine sf ⟨b2, 2, none⟩ rfl hk rfl rfl rfl fd31_2 rfl fun a hk => ?_
              refine sl rfl hk rfl rfl rfl ag3 (box_cell hs (k := 2) rfl rfl) fun a hk => ?_
              refine sv (.bool (u10 != x1.Value)) hk rfl rfl rfl fun a hk => ?_
              refine sv (.bool (u10 != x1.Value)) hk rfl rfl rfl fun a hk => ?_
              show wpList _ _ _ [] _ _
              refine wpList_nil ?_
              obtain rfl := Option.some.inj H
              show R79 _ _
              rw [hR79]
              exact ⟨(u10 != x1.Value), rfl, (hk.c 0 rfl (hk.c 60 rfl hk.k)), (hs.pick [] rfl)⟩
          · intro a w hR0
            rw [hR79] at hR0
            obtain ⟨u75, rfl, hk, hs⟩ := hR0
            have H := HL78
            try dsimp only at H
            refine hK73 _ _ ?_
            rcases cond_some H with ⟨c81, H⟩ | ⟨c81, H⟩
            · have hk := hk.lit 60 c81 rfl
              refine cnd_true hk rfl rfl ?_
              apply wp_seq_k; intro K82 hK82
              apply wp_region_lit
              refine sm _ rfl hk rfl rfl rfl fun a hk => ?_
              refine sbs0 10 (Lay.int .i64) hs rfl hk rfl rfl un27 sz3 fun b83 k84 w a hk o85 hs => ?_
              refine sa _ rfl hk rfl rfl rfl fun a hk => ?_
              refine sa _ rfl hk rfl rfl rfl fun a hk => ?_
              refine sa _ rfl hk rfl rfl rfl fun a hk => ?_
              show wpList _ _ _ [] _ _
              refine wpList_nil ?_
              refine hK82 _ _ ?_
              refine wp_ret ?_
              obtain rfl := Option.some.inj H
              exact fin hk _ [(.slice A0_ l0.length p0_), (.slice (some ⟨b83, 0, none⟩) 0 0), (.int .i64 14)] rfl ⟨rfl, ⟨rfl, ⟨rfl, trivial⟩⟩⟩ ⟨A0_, p0_, (some ⟨b83, 0, none⟩), 0, _, _, rfl, (v0_).sub (Sub.l _ (Sub.refl _)), o85, ((hs.addNil 3000).pick [(0, 10), (1, 3000)] rfl).dnil⟩
            · have hk := hk.lit 60 c81 rfl
              refine cnd_false hk rfl rfl ?_
              refine wp_skip ?_
              refine hK72 _ _ ?_
              apply wp_seq_k; intro K86 hK86
              apply wp_region_lit
              refine sm _ rfl hk rfl rfl rfl fun a hk => ?_
              refine sbs0 11 (Lay.int .i64) hs rfl hk rfl rfl un27 sz3 fun b87 k88 w a hk o89 hs => ?_
              refine sa _ rfl hk rfl rfl rfl fun a hk => ?_
              refine sa _ rfl hk rfl rfl rfl fun a hk => ?_
              refine sa _ rfl hk rfl rfl rfl fun a hk => ?_
              show wpList _ _ _ [] _ _
              refine wpList_nil ?_
              refine hK86 _ _ ?_
              refine wp_ret ?_
              obtain rfl := Option.some.inj H
              exact fin hk _ [(.slice A0_ l0.length p0_), (.slice (some ⟨b87, 0, none⟩) 0 0), (.int .i64 0)] rfl ⟨rfl, ⟨rfl, ⟨rfl, trivial⟩⟩⟩ ⟨A0_, p0_, (some ⟨b87, 0, none⟩), 0, _, _, rfl, (v0_).sub (Sub.l _ (Sub.refl _)), o89, ((hs.addNil 3000).pick [(0, 11), (1, 3000)] rfl).dnil⟩
        · have hk := hk.lit 51 c71 rfl
          refine cnd_false hk rfl rfl ?_
          apply wp_seq_k; intro K90 hK90
          apply wp_region_lit
          refine sv (.bool (x1.Kind == 6)) hk rfl rfl rfl fun a hk => ?_
          refine sa _ rfl hk rfl rfl rfl fun a hk => ?_
          show wpList _ _ _ [] _ _
          refine wpList_nil ?_
          refine hK90 _ _ ?_
          rcases cond_some H with ⟨c91, H⟩ | ⟨c91, H⟩
          · have hk := hk.lit 65 c91 rfl
            refine cnd_true hk rfl rfl ?_
            apply wp_seq_k; intro K92 hK92
            apply wp_region_lit
            refine sbs0 12 (Lay.int .i64) hs rfl hk rfl rfl un27 sz3 fun b93 k94 w a hk o95 hs => ?_
            refine sa _ rfl hk rfl rfl rfl fun a hk => ?_
            show wpList _ _ _ [] _ _
            refine wpList_nil ?_
            refine hK92 _ _ ?_
            apply wp_seq_k; intro K96 hK96
            apply wp_seq_k; intro K97 hK97
            apply wp_region_lit
            refine sa _ rfl hk rfl rfl rfl fun a hk => ?_
            show wpList _ _ _ [] _ _
            refine wpList_nil ?_
            refine hK97 _ _ ?_
            obtain ⟨o115, h116, HL117⟩ := bind_some H
            clear H
            obtain ⟨R118, hR118⟩ : ∃ R : Act → World → Prop, R = fun a w => ∃ (u110 : List Int) (A113 : Option Addr) (p114 : Nat) (k111 : Chunk), o115 = .out u110 ∧ Kn [(0, (.slice A0_ l0.length p0_)), (3, (.pointer (some ⟨b2, 0, none⟩))), (9, (.slice A113 u110.length p114))] 153 a ∧ Sat [] w0 w [(1, k0_)] [(12, k111), (2, [(b2, .cells #[.int .i64 x1.Kind, .int .i64 x1.Key, .int .i64 x1.Value] 31 (0, 0))])] ∧ Own (Lay.int .i64) 3 A113 p114 u110 k111 := ⟨_, rfl⟩
            refine wp_cutq R118 ?_ ?_
            · refine wp_block ?_
              obtain ⟨fu120, h116⟩ := loopO_some h116
              obtain ⟨I119, hI119⟩ : ∃ I : Nat → Act → World → Prop, I = fun fu a w => ∃ (u105 : List Int) (u104 : Int) (A108 : Option Addr) (p109 : Nat) (k106 : Chunk), loopN (fun s => spec_l10Do.s0 l0 x1 s.1 s.2) fu (u105, u104) = some o115 ∧ Kn [(0, (.slice A0_ l0.length p0_)), (3, (.pointer (some ⟨b2, 0, none⟩))), (9, (.slice A108 u105.length p109)), (10, (.int .i64 u104))] 153 a ∧ Sat [] w0 w [(1, k0_)] [(12, k106), (2, [(b2, .cells #[.int .i64 x1.Kind, .int .i64 x1.Key, .int .i64 x1.Value] 31 (0, 0))])] ∧ Own (Lay.int .i64) 3 A108 p109 u105 k106 := ⟨_, rfl⟩
              refine wp_loop_ghost I119 fu120 ?_ ?_
              · rw [hI119]
                exact ⟨([] : List Int), 0, (some ⟨b93, 0, none⟩), 0, _, h116, (hk.c 0 rfl (hk.c 3 rfl (hk.c 9 rfl (hk.c 10 rfl hk.k)))), (hs.pick [(12, 12), (2, 2)] rfl), o95⟩
              · clear h116 hk hs
                intro fu120 a w hI0
                rw [hI119] at hI0
                obtain ⟨u105, u104, A108, p109, k106, hi, hk, hs, o107⟩ := hI0
                obtain ⟨x121, H, h122⟩ := loop_round hi
                try dsimp only at H
                unfold spec_l10Do.s0 at H
                apply wp_seq_k; intro K123 hK123
                apply wp_seq_k; intro K124 hK124
                obtain ⟨o127, h128, HL129⟩ := bind_some H
                clear H
                obtain ⟨R130, hR130⟩ : ∃ R : Act → World → Prop, R = fun a w => ∃ (u126 : Bool), u126 = o127 ∧ Kn [(0, (.slice A0_ l0.length p0_)), (3, (.pointer (some ⟨b2, 0, none⟩))), (9, (.slice A108 u105.length p109)), (10, (.int .i64 u104)), (79, (.bool u126))] 153 a ∧ Sat [] w0 w [(1, k0_)] [(12, k106), (2, [(b2, .cells #[.int .i64 x1.Kind, .int .i64 x1.Key, .int .i64 x1.Value] 31 (0, 0))])] := ⟨_, rfl⟩
                refine wp_cutq R130 ?_ ?_
                · have H := h128
                  apply wp_region_lit
                  refine sm _ rfl hk rfl rfl rfl fun a hk => ?_
                  refine sm _ rfl hk rfl rfl rfl fun a hk => ?_
                  refine sle rfl hk rfl rfl rfl un26 fun a hk => ?_
                  refine sv (.bool (decide (u104 < (l0.length : Int)))) hk rfl rfl rfl fun a hk => ?_
                  refine sm _ rfl hk rfl rfl rfl fun a hk => ?_
                  rcases cond_some H with ⟨c131, H⟩ | ⟨c131, H⟩
                  · have hk := hk.lit 72 c131 rfl
                    refine sm _ rfl hk rfl rfl rfl fun a hk => ?_
                    refine sle rfl hk rfl rfl rfl un27 fun a hk => ?_
                    refine sf ⟨b2, 2, none⟩ rfl hk rfl rfl rfl fd31_2 rfl fun a hk => ?_
                    refine sl rfl hk rfl rfl rfl ag3 (box_cell hs (k := 2) rfl rfl) fun a hk => ?_
                    refine sv (.int .i64 (w64 (2 * x1.Value))) hk rfl rfl rfl fun a hk => ?_
                    refine sv (.bool (decide ((u105.length : Int) < (w64 (2 * x1.Value))))) hk rfl rfl rfl fun a hk => ?_
                    refine sv (.bool (decide ((u105.length : Int) < (w64 (2 * x1.Value))))) hk rfl rfl rfl fun a hk => ?_
                    show wpList _ _ _ [] _ _
                    refine wpList_nil ?_
                    obtain rfl := Option.some.inj H
                    show R130 _ _
                    rw [hR130]
                    exact ⟨(decide ((u105.length : Int) < (w64 (2 * x1.Value)))), rfl, (hk.c 0 rfl (hk.c 3 rfl (hk.c 9 rfl (hk.c 10 rfl (hk.c 79 rfl hk.k))))), (hs.pick [(12, 12), (2, 2)] rfl)⟩
                  · have hk := hk.lit 72 c131 rfl
                    refine sk hk rfl rfl rfl fun a hk => ?_
                    refine sk hk rfl rfl rfl fun a hk => ?_
                    refine sk hk rfl rfl rfl fun a hk => ?_
                    refine sk hk rfl rfl rfl fun a hk => ?_
                    refine sk hk rfl rfl rfl fun a hk => ?_
                    refine sk hk rfl rfl rfl fun a hk => ?_
                    refine sv (.bool false) hk rfl rfl rfl fun a hk => ?_
                    show wpList _ _ _ [] _ _
                    refine wpList_nil ?_
                    obtain rfl := Option.some.inj H
                    show R130 _ _
                    rw [hR130]
                    exact ⟨false, rfl, (hk.c 0 rfl (hk.c 3 rfl (hk.c 9 rfl (hk.c 10 rfl (hk.c 79 rfl hk.k))))), (hs.pick [(12, 12), (2, 2)] rfl)⟩
                · intro a w hR0
                  rw [hR130] at hR0
                  obtain ⟨u126, rfl, hk, hs⟩ := hR0
                  have H := HL129
                  try dsimp only at H
                  refine hK124 _ _ ?_
                  rcases cond_some H with ⟨c132, H⟩ | ⟨c132, H⟩
                  · have hk := hk.lit 79 c132 rfl
                    refine cnd_true hk rfl rfl ?_
                    refine wp_skip ?_
                    refine hK123 _ _ ?_
                    apply wp_seq_k; intro K133 hK133
                    refine wp_block ?_
                    apply wp_seq_k; intro K134 hK134
                    refine wp_region_tree (.q 0 (.q 1 (.q 2 (.q 3 (.q 4 (.alt 5 (.alt 6 (.alt 7 .done .stop) .stop) .stop)))))) mo (by kernel_rfl) (hs.pick [(12, 12), (2, 2)] rfl) fun _ => ?_
                    have hs := hs.drew
                    refine tqst (.slice A0_ l0.length p0_) hk rfl rfl rfl rfl (fun w hs => sm _ rfl hk rfl rfl rfl fun a hk => qe hk) fun a hk => ?_
                    refine tqst (.int .i64 u104) hk rfl rfl rfl rfl (fun w hs => sm _ rfl hk rfl rfl rfl fun a hk => qe hk) fun a hk => ?_
                    rcases ite_some H with ⟨c136, H⟩ | ⟨_, H⟩
                    rotate_left
                    · cases H
                    obtain ⟨b137, q138, hAc136⟩ := (v0_).some_ u104 c136.1 c136.2
                    refine tqst (.pointer (some (padd A0_ (u104.toNat * 2)))) hk rfl rfl rfl rfl (fun w hs => si rfl hk rfl rfl rfl rfl un26 sz62 c136.1 c136.2 hAc136 fun a hk => qe hk) fun a hk => ?_
                    refine tqst (.pointer (some (padd A0_ (u104.toNat * 2)))) hk rfl rfl rfl rfl (fun w hs => sf (padd A0_ (u104.toNat * 2 + 0)) rfl hk rfl rfl rfl fd62_0 (padd_add _ _ _) fun a hk => qe hk) fun a hk => ?_
                    obtain ⟨_, rfl, e139⟩ := (v0_).at_ z_Entry u104 c136.1 c136.2
                    refine tqst (.int .i64 ((l0.getD u104.toNat z_Entry).Key)) hk rfl rfl rfl rfl (fun w hs => sl (v := (.int .i64 ((l0.getD u104.toNat z_Entry).Key))) rfl hk rfl rfl rfl ag3 ((e139 0 _ rfl).cell (hs.hasD (k := 1) rfl)) fun a hk => qe hk) fun a hk => ?_
                    refine tsst hk rfl rfl (fun K_r135_5 hK_r135_5 w hF => ?_) wt_stop
                    have hs := hs.f hF
                    refine sf ⟨b2, 1, none⟩ rfl hk rfl rfl rfl fd31_1 rfl fun a hk => ?_
                    refine se (hs.pick [(12, 12), (2, 2)] rfl) hk (hK_r135_5 _ _ ?_)
                    refine tsst hk rfl rfl (fun K_r135_6 hK_r135_6 w hF => ?_) wt_stop
                    have hs := hs.f hF
                    refine sl rfl hk rfl rfl rfl ag3 (box_cell hs (k := 2) rfl rfl) fun a hk => ?_
                    refine se (hs.pick [(12, 12), (2, 2)] rfl) hk (hK_r135_6 _ _ ?_)
                    refine tsst hk rfl rfl (fun K_r135_7 hK_r135_7 w hF => ?_) wt_stop
                    have hs := hs.f hF
                    refine sv (.bool (decide (((l0.getD u104.toNat z_Entry).Key) ≥ x1.Key))) hk rfl rfl rfl fun a hk => ?_
                    refine se (hs.pick [(12, 12), (2, 2)] rfl) hk (hK_r135_7 _ _ ?_)
                    refine wtl_nil fun w hF _ => ?_
                    have hs := hs.f hF
                    refine hK134 _ _ ?_
                    obtain ⟨o146, h147, HL148⟩ := bind_some H
                    clear H
                    obtain ⟨R149, hR149⟩ : ∃ R : Act → World → Prop, R = fun a w => ∃ (u141 : List Int) (A144 : Option Addr) (p145 : Nat) (k142 : Chunk), u141 = o146 ∧ Kn [(0, (.slice A0_ l0.length p0_)), (3, (.pointer (some ⟨b2, 0, none⟩))), (9, (.slice A144 u141.length p145)), (10, (.int .i64 u104))] 153 a ∧ Sat [] w0 w [(1, k0_)] [(12, k142), (2, [(b2, .cells #[.int .i64 x1.Kind, .int .i64 x1.Key, .int .i64 x1.Value] 31 (0, 0))])] ∧ Own (Lay.int .i64) 3 A144 p145 u141 k142 := ⟨_, rfl⟩
                    refine wp_cutq R149 ?_ ?_
                    · have H := h147
                      rcases cond_some H with ⟨c150, H⟩ | ⟨c150, H⟩
                      · have hk := hk.lit 89 c150 rfl
                        refine cnd_true hk rfl rfl ?_
                        refine wp_region_tree (.q 0 (.q 1 (.q 2 (.q 3 (.q 4 (.q 5 (.q 6 (.alt 7 (.alt 8 (.alt 9 (.alt 10 (.alt 11 (.alt 12 (.last 13) .stop) .stop) .stop) .stop) .stop) .stop)))))))) mo (by kernel_rfl) (hs.pick [(2, 2)] rfl) fun _ => ?_
                        have hs := hs.drew
                        refine tqst (.slice A108 u105.length p109) hk rfl rfl rfl rfl (fun w hs => sm _ rfl hk rfl rfl rfl fun a hk => qe hk) fun a hk => ?_
                        refine tqst (.slice A0_ l0.length p0_) hk rfl rfl rfl rfl (fun w hs => sm _ rfl hk rfl rfl rfl fun a hk => qe hk) fun a hk => ?_
                        refine tqst (.int .i64 u104) hk rfl rfl rfl rfl (fun w hs => sm _ rfl hk rfl rfl rfl fun a hk => qe hk) fun a hk => ?_
                        rcases ite_some H with ⟨c152, H⟩ | ⟨_, H⟩
                        rotate_left
                        · cases H
                        obtain ⟨b153, q154, hAc152⟩ := (v0_).some_ u104 c152.1 c152.2
                        refine tqst (.pointer (some (padd A0_ (u104.toNat * 2)))) hk rfl rfl rfl rfl (fun w hs => si rfl hk rfl rfl rfl rfl un26 sz62 c152.1 c152.2 hAc152 fun a hk => qe hk) fun a hk => ?_
                        refine tqst (.pointer (some (padd A0_ (u104.toNat * 2)))) hk rfl rfl rfl rfl (fun w hs => sf (padd A0_ (u104.toNat * 2 + 0)) rfl hk rfl rfl rfl fd62_0 (padd_add _ _ _) fun a hk => qe hk) fun a hk => ?_
                        obtain ⟨_, rfl, e155⟩ := (v0_).at_ z_Entry u104 c152.1 c152.2
                        refine tqst (.int .i64 ((l0.getD u104.toNat z_Entry).Key)) hk rfl rfl rfl rfl (fun w hs => sl (v := (.int .i64 ((l0.getD u104.toNat z_Entry).Key))) rfl hk rfl rfl rfl ag3 ((e155 0 _ rfl).cell (hs.hasD (k := 1) rfl)) fun a hk => qe hk) fun a hk => ?_
                        refine tqst (.slice A0_ l0.length p0_) hk rfl rfl rfl rfl (fun w hs => sm _ rfl hk rfl rfl rfl fun a hk => qe hk) fun a hk => ?_
                        refine tsst hk rfl rfl (fun K_r151_7 hK_r151_7 w hF => ?_) wt_stop
                        have hs := hs.f hF
                        refine sm _ rfl hk rfl rfl rfl fun a hk => ?_
                        refine se (hs.pick [(2, 2)] rfl) hk (hK_r151_7 _ _ ?_)
                        refine tsst hk rfl rfl (fun K_r151_8 hK_r151_8 w hF => ?_) wt_stop
                        have hs := hs.f hF
                        rcases ite_some H with ⟨c156, H⟩ | ⟨_, H⟩
                        rotate_left
                        · cases H
                        obtain ⟨b157, q158, hAc156⟩ := (v0_).some_ u104 c156.1 c156.2
                        refine si rfl hk rfl rfl rfl rfl un26 sz62 c156.1 c156.2 hAc156 fun a hk => ?_
                        refine se (hs.pick [(2, 2)] rfl) hk (hK_r151_8 _ _ ?_)
                        refine tsst hk rfl rfl (fun K_r151_9 hK_r151_9 w hF => ?_) wt_stop
                        have hs := hs.f hF
                        refine sf (padd A0_ (u104.toNat * 2 + 1)) rfl hk rfl rfl rfl fd62_1 (padd_add _ _ _) fun a hk => ?_
                        refine se (hs.pick [(2, 2)] rfl) hk (hK_r151_9 _ _ ?_)
                        refine tsst hk rfl rfl (fun K_r151_10 hK_r151_10 w hF => ?_) wt_stop
                        have hs := hs.f hF
                        obtain ⟨_, rfl, e159⟩ := (v0_).at_ z_Entry u104 c156.1 c156.2
                        refine sl (v := (.int .i64 ((l0.getD u104.toNat z_Entry).Value))) rfl hk rfl rfl rfl ag3 ((e159 1 _ rfl).cell (hs.hasD (k := 1) rfl)) fun a hk => ?_
                        refine se (hs.pick [(2, 2)] rfl) hk (hK_r151_10 _ _ ?_)
                        refine tsst hk rfl rfl (fun K_r151_11 hK_r151_11 w hF => ?_) wt_stop
                        have hs := hs.f hF
                        refine sbs (L := (Lay.int .i64)) (pv := [(0, (.int .i64 ((l0.getD u104.toNat z_Entry).Key))), (1, (.int .i64 ((l0.getD u104.toNat z_Entry).Value)))]) (xs := [(l0.getD u104.toNat z_Entry).Key, (l0.getD u104.toNat z_Entry).Value]) (ess := [[.int .i64 ((l0.getD u104.toNat z_Entry).Key)], [.int .i64 ((l0.getD u104.toNat z_Entry).Value)]]) 18 hs rfl hk rfl rfl rfl un27 (bs3_0 ((l0.getD u104.toNat z_Entry).Key) ((l0.getD u104.toNat z_Entry).Value)) (AllOwn.cons0 ⟨rfl, rfl⟩ (AllOwn.cons0 ⟨rfl, rfl⟩ AllOwn.nil)) rfl rfl rfl fun b160 k161 w a hk o162 hs => ?_
                        refine se (hs.pick [(2, 2)] rfl) hk (hK_r151_11 _ _ ?_)
                        refine tsst hk rfl rfl (fun K_r151_12 hK_r151_12 w hF => ?_) wt_stop
                        have hs := hs.f hF
                        rcases ite_some H with ⟨c163, H⟩ | ⟨_, H⟩
                        rotate_left
                        · cases H
                        refine sap 12 (xs := u105) (ys := [(l0.getD u104.toNat z_Entry).Key, (l0.getD u104.toNat z_Entry).Value]) (flat_flat : ((Lay.int .i64)).Flat) hs rfl o107 o162.view (hs.hasG (k := 18) rfl) rfl hk rfl rfl rfl rfl rfl rfl un27 mk3 rfl rfl rfl c163 fun A164 p165 k166 w a hk o167 hs => ?_
                        refine se (hs.pick [(2, 2)] rfl) hk (hK_r151_12 _ _ ?_)
                        refine tlst hk rfl rfl fun K_r151_13 hK_r151_13 w hF => ?_
                        have hs := hs.f hF
                        refine sa _ rfl hk rfl rfl rfl fun a hk => ?_
                        refine se trivial hk (hK_r151_13 _ _ fun w hF => ?_)
                        have hs := hs.f hF
                        obtain rfl := Option.some.inj H
                        show R149 _ _
                        rw [hR149]
                        exact ⟨(u105 ++ ([(l0.getD u104.toNat z_Entry).Key, (l0.getD u104.toNat z_Entry).Value])), A164, p165, _, rfl, (hk.c 0 rfl (hk.c 3 rfl (hk.c 9 rfl (hk.c 10 rfl hk.k)))), (hs.pick [(12, 12), (2, 2)] rfl), o167⟩
                      · have hk := hk.lit 89 c150 rfl
                        refine cnd_false hk rfl rfl ?_
                        refine wp_skip ?_
                        obtain rfl := Option.some.inj H
                        show R149 _ _
                        rw [hR149]
                        exact ⟨u105, A108, p109, _, rfl, (hk.c 0 rfl (hk.c 3 rfl (hk.c 9 rfl (hk.c 10 rfl hk.k)))), (hs.pick [(12, 12), (2, 2)] rfl), o107⟩
                    · intro a w hR0
                      rw [hR149] at hR0
                      obtain ⟨u141, A144, p145, k142, rfl, hk, hs, o143⟩ := hR0
                      have H := HL148
                      try dsimp only at H
                      refine hK133 _ _ ?_
                      apply wp_region_lit
                      refine sm _ rfl hk rfl rfl rfl fun a hk => ?_
                      refine sv (.int .i64 (w64 (u104 + 1))) hk rfl rfl rfl fun a hk => ?_
                      refine sa _ rfl hk rfl rfl rfl fun a hk => ?_
                      show wpList _ _ _ [] _ _
                      refine wpList_nil ?_
                      obtain rfl := Option.some.inj H
                      obtain ⟨m168, hmm168, h122⟩ := h122
                      show ∃ n', n' < _ ∧ I119 n' _ _
                      refine ⟨m168, hmm168, ?_⟩
                      rw [hI119]
                      exact ⟨u141, (w64 (u104 + 1)), A144, p145, _, h122, (hk.c 0 rfl (hk.c 3 rfl (hk.c 9 rfl (hk.c 10 rfl hk.k)))), (hs.pick [(12, 12), (2, 2)] rfl), o143⟩
                  · have hk := hk.lit 79 c132 rfl
                    refine cnd_false hk rfl rfl ?_
                    refine wp_exit ?_
                    obtain rfl := Option.some.inj H
                    show R118 _ _
                    rw [hR118]
                    exact ⟨u105, A108, p109, _, h122.symm, (hk.c 0 rfl (hk.c 3 rfl (hk.c 9 rfl hk.k))), (hs.pick [(12, 12), (2, 2)] rfl), o107⟩
            · intro a w hR0
              rw [hR118] at hR0
              obtain ⟨u110, A113, p114, k111, rfl, hk, hs, o112⟩ := hR0
              have H := HL117
              try dsimp only at H
              refine hK96 _ _ ?_
              apply wp_seq_k; intro K169 hK169
              obtain ⟨o186, h187, HL188⟩ := bind_some H
              clear H
              obtain ⟨R189, hR189⟩ : ∃ R : Act → World → Prop, R = fun a w => ∃ (u181 : List Int) (A184 : Option Addr) (p185 : Nat) (k182 : Chunk), o186 = .out u181 ∧ Kn [(0, (.slice A0_ l0.length p0_)), (9, (.slice A184 u181.length p185))] 153 a ∧ Sat [] w0 w [(1, k0_)] [(12, k182)] ∧ Own (Lay.int .i64) 3 A184 p185 u181 k182 := ⟨_, rfl⟩
              refine wp_cutq R189 ?_ ?_
              · refine wp_block ?_
                obtain ⟨fu191, h187⟩ := loopO_some h187
                obtain ⟨I190, hI190⟩ : ∃ I : Nat → Act → World → Prop, I = fun fu a w => ∃ (u176 : List Int) (A179 : Option Addr) (p180 : Nat) (k177 : Chunk), loopN (fun s => spec_l10Do.s1 x1 s) fu u176 = some o186 ∧ Kn [(0, (.slice A0_ l0.length p0_)), (3, (.pointer (some ⟨b2, 0, none⟩))), (9, (.slice A179 u176.length p180))] 153 a ∧ Sat [] w0 w [(1, k0_)] [(12, k177), (2, [(b2, .cells #[.int .i64 x1.Kind, .int .i64 x1.Key, .int .i64 x1.Value] 31 (0, 0))])] ∧ Own (Lay.int .i64) 3 A179 p180 u176 k177 := ⟨_, rfl⟩
                refine wp_loop_ghost I190 fu191 ?_ ?_
                · rw [hI190]
                  exact ⟨u110, A113, p114, _, h187, (hk.c 0 rfl (hk.c 3 rfl (hk.c 9 rfl hk.k))), (hs.pick [(12, 12), (2, 2)] rfl), o112⟩
                · clear h187 hk hs
                  intro fu191 a w hI0
                  rw [hI190] at hI0
                  obtain ⟨u176, A179, p180, k177, hi, hk, hs, o178⟩ := hI0
                  obtain ⟨x192, H, h193⟩ := loop_round hi
                  try dsimp only at H
                  unfold spec_l10Do.s1 at H
                  apply wp_seq_k; intro K194 hK194
                  apply wp_seq_k; intro K195 hK195
                  apply wp_region_lit
                  refine sm _ rfl hk rfl rfl rfl fun a hk => ?_
                  refine sle rfl hk rfl rfl rfl un27 fun a hk => ?_
                  refine sf ⟨b2, 2, none⟩ rfl hk rfl rfl rfl fd31_2 rfl fun a hk => ?_
                  refine sl rfl hk rfl rfl rfl ag3 (box_cell hs (k := 2) rfl rfl) fun a hk => ?_
                  refine sv (.int .i64 (w64 (2 * x1.Value))) hk rfl rfl rfl fun a hk => ?_
                  refine sv (.bool (decide ((u176.length : Int) < (w64 (2 * x1.Value))))) hk rfl rfl rfl fun a hk => ?_
                  show wpList _ _ _ [] _ _
                  refine wpList_nil ?_
                  refine hK195 _ _ ?_
                  rcases cond_some H with ⟨c196, H⟩ | ⟨c196, H⟩
                  · have hk := hk.lit 108 c196 rfl
                    refine cnd_true hk rfl rfl ?_
                    refine wp_skip ?_
                    refine hK194 _ _ ?_
                    refine wp_block ?_
                    apply wp_region_lit
                    refine sm _ rfl hk rfl rfl rfl fun a hk => ?_
                    refine sbs (L := (Lay.int .i64)) (pv := [(0, (.int .i64 0))]) (xs := [0]) (ess := [[.int .i64 0]]) 20 hs rfl hk rfl rfl rfl un27 (bs3_3 0) (AllOwn.cons0 ⟨rfl, rfl⟩ AllOwn.nil) rfl rfl rfl fun b197 k198 w a hk o199 hs => ?_
                    rcases ite_some H with ⟨c200, H⟩ | ⟨_, H⟩
                    rotate_left
                    · cases H
                    refine sap 12 (xs := u176) (ys := [0]) (flat_flat : ((Lay.int .i64)).Flat) hs rfl o178 o199.view (hs.hasG (k := 20) rfl) rfl hk rfl rfl rfl rfl rfl rfl un27 mk3 rfl rfl rfl c200 fun A201 p202 k203 w a hk o204 hs => ?_
                    refine sa _ rfl hk rfl rfl rfl fun a hk => ?_
                    show wpList _ _ _ [] _ _
                    refine wpList_nil ?_
                    obtain rfl := Option.some.inj H
                    obtain ⟨m205, hmm205, h193⟩ := h193
                    show ∃ n', n' < _ ∧ I190 n' _ _
                    refine ⟨m205, hmm205, ?_⟩
                    rw [hI190]
                    exact ⟨(u176 ++ ([0])), A201, p202, _, h193, (hk.c 0 rfl (hk.c 3 rfl (hk.c 9 rfl hk.k))), (hs.pick [(12, 12), (2, 2)] rfl), o204⟩
                  · have hk := hk.lit 108 c196 rfl
                    refine cnd_false hk rfl rfl ?_
                    refine wp_exit ?_
                    obtain rfl := Option.some.inj H
                    show R189 _ _
                    rw [hR189]
                    exact ⟨u176, A179, p180, _, h193.symm, (hk.c 0 rfl (hk.c 9 rfl hk.k)), (hs.pick [(12, 12)] rfl), o178⟩
              · intro a w hR0
                rw [hR189] at hR0
                obtain ⟨u181, A184, p185, k182, rfl, hk, hs, o183⟩ := hR0
                have H := HL188
                try dsimp only at H
                refine hK169 _ _ ?_
                apply wp_seq_k; intro K206 hK206
                apply wp_region_lit
                refine sm _ rfl hk rfl rfl rfl fun a hk => ?_
                refine sm _ rfl hk rfl rfl rfl fun a hk => ?_
                refine sa _ rfl hk rfl rfl rfl fun a hk => ?_
                refine sa _ rfl hk rfl rfl rfl fun a hk => ?_
                refine sa _ rfl hk rfl rfl rfl fun a hk => ?_
                show wpList _ _ _ [] _ _
                refine wpList_nil ?_
                refine hK206 _ _ ?_
                refine wp_ret ?_
                obtain rfl := Option.some.inj H
                exact fin hk _ [(.slice A0_ l0.length p0_), (.slice A184 u181.length p185), (.int .i64 0)] rfl ⟨rfl, ⟨rfl, ⟨rfl, trivial⟩⟩⟩ ⟨A0_, p0_, A184, p185, _, _, rfl, (v0_).sub (Sub.l _ (Sub.refl _)), o183, ((hs.addNil 3000).pick [(0, 12), (1, 3000)] rfl).dnil⟩
          · have hk := hk.lit 65 c91 rfl
            refine cnd_false hk rfl rfl ?_
            refine wp_skip ?_
            refine hK20 _ _ ?_
            apply wp_seq_k; intro K207 hK207
            apply wp_seq_k; intro K208 hK208
            obtain ⟨o211, h212, HL213⟩ := bind_some H
            clear H
            obtain ⟨R214, hR214⟩ : ∃ R : Act → World → Prop, R = fun a w => ∃ (u210 : Bool), u210 = o211 ∧ Kn [(0, (.slice A0_ l0.length p0_)), (3, (.pointer (some ⟨b2, 0, none⟩))), (8, (.int .i64 u10)), (120, (.bool u210))] 153 a ∧ Sat [] w0 w [(1, k0_)] [(2, [(b2, .cells #[.int .i64 x1.Kind, .int .i64 x1.Key, .int .i64 x1.Value] 31 (0, 0))])] := ⟨_, rfl⟩
            refine wp_cutq R214 ?_ ?_
            · have H := h212
              apply wp_region_lit
              refine sm _ rfl hk rfl rfl rfl fun a hk => ?_
              refine sv (.bool (decide (y4 < 0))) hk rfl rfl rfl fun a hk => ?_
              refine sm _ rfl hk rfl rfl rfl fun a hk => ?_
              rcases cond_some H with ⟨c215, H⟩ | ⟨c215, H⟩
              · have hk := hk.lit 116 c215 rfl
                refine sm _ rfl hk rfl rfl rfl fun a hk => ?_
                refine sle rfl hk rfl rfl rfl un26 fun a hk => ?_
                refine sv (.bool ((l0.length : Int) == 11)) hk rfl rfl rfl fun a hk => ?_
                refine sv (.bool ((l0.length : Int) == 11)) hk rfl rfl rfl fun a hk => ?_
                show wpList _ _ _ [] _ _
                refine wpList_nil ?_
                obtain rfl := Option.some.inj H
                show R214 _ _
                rw [hR214]
                exact ⟨((l0.length : Int) == 11), rfl, (hk.c 0 rfl (hk.c 3 rfl (hk.c 8 rfl (hk.c 120 rfl hk.k)))), (hs.pick [(2, 2)] rfl)⟩
              · have hk := hk.lit 116 c215 rfl
                refine sk hk rfl rfl rfl fun a hk => ?_
                refine sk hk rfl rfl rfl fun a hk => ?_
                refine sk hk rfl rfl rfl fun a hk => ?_
                refine sv (.bool false) hk rfl rfl rfl fun a hk => ?_
                show wpList _ _ _ [] _ _
                refine wpList_nil ?_
                obtain rfl := Option.some.inj H
                show R214 _ _
                rw [hR214]
                exact ⟨false, rfl, (hk.c 0 rfl (hk.c 3 rfl (hk.c 8 rfl (hk.c 120 rfl hk.k)))), (hs.pick [(2, 2)] rfl)⟩
            · intro a w hR0
              rw [hR214] at hR0
              obtain ⟨u210, rfl, hk, hs⟩ := hR0
              have H := HL213
              try dsimp only at H
              refine hK208 _ _ ?_
              rcases cond_some H with ⟨c216, H⟩ | ⟨c216, H⟩
              · have hk := hk.lit 120 c216 rfl
                refine cnd_true hk rfl rfl ?_
                apply wp_seq_k; intro K217 hK217
                apply wp_region_lit
                refine sm _ rfl hk rfl rfl rfl fun a hk => ?_
                refine sbs0 22 (Lay.int .i64) hs rfl hk rfl rfl un27 sz3 fun b218 k219 w a hk o220 hs => ?_
                refine sa _ rfl hk rfl rfl rfl fun a hk => ?_
                refine sa _ rfl hk rfl rfl rfl fun a hk => ?_
                refine sa _ rfl hk rfl rfl rfl fun a hk => ?_
                show wpList _ _ _ [] _ _
                refine wpList_nil ?_
                refine hK217 _ _ ?_
                refine wp_ret ?_
                obtain rfl := Option.some.inj H
                exact fin hk _ [(.slice A0_ l0.length p0_), (.slice (some ⟨b218, 0, none⟩) 0 0), (.int .i64 7)] rfl ⟨rfl, ⟨rfl, ⟨rfl, trivial⟩⟩⟩ ⟨A0_, p0_, (some ⟨b218, 0, none⟩), 0, _, _, rfl, (v0_).sub (Sub.l _ (Sub.refl _)), o220, ((hs.addNil 3000).pick [(0, 22), (1, 3000)] rfl).dnil⟩
              · have hk := hk.lit 120 c216 rfl
                refine cnd_false hk rfl rfl ?_
                refine wp_skip ?_
                refine hK207 _ _ ?_
                apply wp_seq_k; intro K221 hK221
                apply wp_seq_k; intro K222 hK222
                apply wp_region_lit
                refine sf ⟨b2, 0, none⟩ rfl hk rfl rfl rfl fd31_0 rfl fun a hk => ?_
                refine sl rfl hk rfl rfl rfl ag3 (box_cell hs (k := 2) rfl rfl) fun a hk => ?_
                refine sv (.bool (x1.Kind == 2)) hk rfl rfl rfl fun a hk => ?_
                show wpList _ _ _ [] _ _
                refine wpList_nil ?_
                refine hK222 _ _ ?_
                rcases cond_some H with ⟨c223, H⟩ | ⟨c223, H⟩
                · have hk := hk.lit 125 c223 rfl
                  refine cnd_true hk rfl rfl ?_
                  apply wp_seq_k; intro K224 hK224
                  apply wp_region_lit
                  refine sm _ rfl hk rfl rfl rfl fun a hk => ?_
                  refine sf ⟨b2, 1, none⟩ rfl hk rfl rfl rfl fd31_1 rfl fun a hk => ?_
                  refine sl rfl hk rfl rfl rfl ag3 (box_cell hs (k := 2) rfl rfl) fun a hk => ?_
                  refine sf ⟨b2, 2, none⟩ rfl hk rfl rfl rfl fd31_2 rfl fun a hk => ?_
                  refine sl rfl hk rfl rfl rfl ag3 (box_cell hs (k := 2) rfl rfl) fun a hk => ?_
                  obtain ⟨y225, h226, H⟩ := bind_some H
                  refine sc rfl en127 hk rfl rfl rfl (spec_l10Put_t _ A0_ p0_ l0 _ v0_ (hs.hasD (k := 1) rfl) x1.Key x1.Value _ h226) ?_
                  rintro _ w ⟨A227, p228, k229, rfl, o230, hG⟩ a hk
                  have hs := hs.call0k hG [23] rfl
                  refine sbs0 24 (Lay.int .i64) hs rfl hk rfl rfl un27 sz3 fun b231 k232 w a hk o233 hs => ?_
                  refine sa _ rfl hk rfl rfl rfl fun a hk => ?_
                  refine sa _ rfl hk rfl rfl rfl fun a hk => ?_
                  refine sa _ rfl hk rfl rfl rfl fun a hk => ?_
                  show wpList _ _ _ [] _ _
                  refine wpList_nil ?_
                  refine hK224 _ _ ?_
                  refine wp_ret ?_
                  obtain rfl := Option.some.inj H
                  exact fin hk _ [(.slice A227 y225.length p228), (.slice (some ⟨b231, 0, none⟩) 0 0), (.int .i64 0)] rfl ⟨rfl, ⟨rfl, ⟨rfl, trivial⟩⟩⟩ ⟨A227, p228, (some ⟨b231, 0, none⟩), 0, _, _, rfl, (o230.view).sub (Sub.r _ (Sub.refl _)), o233, (hs.pick [(0, 24), (1, 23)] rfl).dnil⟩
                · have hk := hk.lit 125 c223 rfl
                  refine cnd_false hk rfl rfl ?_
                  refine wp_skip ?_
                  refine hK221 _ _ ?_
                  apply wp_seq_k; intro K234 hK234
                  apply wp_seq_k; intro K235 hK235
                  apply wp_region_lit
                  refine sm _ rfl hk rfl rfl rfl fun a hk => ?_
                  refine sf ⟨b2, 2, none⟩ rfl hk rfl rfl rfl fd31_2 rfl fun a hk => ?_
                  refine sl rfl hk rfl rfl rfl ag3 (box_cell hs (k := 2) rfl rfl) fun a hk => ?_
                  refine sv (.int .i64 (w64 (u10 + x1.Value))) hk rfl rfl rfl fun a hk => ?_
                  refine sv (.bool (decide ((w64 (u10 + x1.Value)) > 999999))) hk rfl rfl rfl fun a hk => ?_
                  show wpList _ _ _ [] _ _
                  refine wpList_nil ?_
                  refine hK235 _ _ ?_
                  rcases cond_some H with ⟨c236, H⟩ | ⟨c236, H⟩
                  · have hk := hk.lit 137 c236 rfl
                    refine cnd_true hk rfl rfl ?_
                    apply wp_seq_k; intro K237 hK237
                    apply wp_region_lit
                    refine sm _ rfl hk rfl rfl rfl fun a hk => ?_
                    refine sbs0 25 (Lay.int .i64) hs rfl hk rfl rfl un27 sz3 fun b238 k239 w a hk o240 hs => ?_
                    refine sa _ rfl hk rfl rfl rfl fun a hk => ?_
                    refine sa _ rfl hk rfl rfl rfl fun a hk => ?_
                    refine sa _ rfl hk rfl rfl rfl fun a hk => ?_
                    show wpList _ _ _ [] _ _
                    refine wpList_nil ?_
                    refine hK237 _ _ ?_
                    refine wp_ret ?_
                    obtain rfl := Option.some.inj H
                    exact fin hk _ [(.slice A0_ l0.length p0_), (.slice (some ⟨b238, 0, none⟩) 0 0), (.int .i64 4)] rfl ⟨rfl, ⟨rfl, ⟨rfl, trivial⟩⟩⟩ ⟨A0_, p0_, (some ⟨b238, 0, none⟩), 0, _, _, rfl, (v0_).sub (Sub.l _ (Sub.refl _)), o240, ((hs.addNil 3000).pick [(0, 25), (1, 3000)] rfl).dnil⟩
                  · have hk := hk.lit 137 c236 rfl
                    refine cnd_false hk rfl rfl ?_
                    refine wp_skip ?_
                    refine hK234 _ _ ?_
                    apply wp_seq_k; intro K241 hK241
                    obtain ⟨y_r242_7_1, h_r242_7_2, H⟩ := bind_some H
                    obtain ⟨R243, hR243⟩ : ∃ R : Act → World → Prop, R = fun a w => ∃ (A_r242_7_3 : Option Addr) (p_r242_7_4 : Nat) (b_r242_12_1 : Nat) (k_r242_7_5 : Chunk) (k_r242_12_2 : Chunk), Kn [(4, (.slice A_r242_7_3 y_r242_7_1.length p_r242_7_4)), (5, (.slice (some ⟨b_r242_12_1, 0, none⟩) 1 1)), (6, (.int .i64 0))] 153 a ∧ Sat [] w0 w [(1, k0_)] [(126141, k_r242_7_5), (126241, k_r242_12_2)] ∧ Own L_Entry 62 A_r242_7_3 p_r242_7_4 y_r242_7_1 k_r242_7_5 ∧ Own (Lay.int .i64) 3 (some ⟨b_r242_12_1, 0, none⟩) 1 ([(w64 (u10 + x1.Value))]) k_r242_12_2 := ⟨_, rfl⟩
                    refine wp_cutq R243 ?_ ?_
                    · skip
                      refine wp_region_tree (.q 0 (.q 1 (.q 2 (.q 3 (.q 4 (.q 5 (.q 6 (.q 8 (.q 9 (.q 10 (.q 11 (.alt 7 (.q 13 (.alt 12 (.alt 14 (.last 15) .stop) .stop)) (.alt 12 (.alt 7 (.alt 13 (.alt 14 (.last 15) .stop) .stop) .stop) .stop))))))))))))) mo (by kernel_rfl) (hs.pick [(2, 2)] rfl) fun _ => ?_
                      have hs := hs.drew
                      refine tqst (.slice A0_ l0.length p0_) hk rfl rfl rfl rfl (fun w hs => sm _ rfl hk rfl rfl rfl fun a hk => qe hk) fun a hk => ?_
                      refine tqst (.pointer (some ⟨b2, 1, none⟩)) hk rfl rfl rfl rfl (fun w hs => sf ⟨b2, 1, none⟩ rfl hk rfl rfl rfl fd31_1 rfl fun a hk => qe hk) fun a hk => ?_
                      refine tqst (.int .i64 x1.Key) hk rfl rfl rfl rfl (fun w hs => sl rfl hk rfl rfl rfl ag3 (box_cell hs (k := 2) rfl rfl) fun a hk => qe hk) fun a hk => ?_
                      refine tqst (.int .i64 u10) hk rfl rfl rfl rfl (fun w hs => sm _ rfl hk rfl rfl rfl fun a hk => qe hk) fun a hk => ?_
                      refine tqst (.pointer (some ⟨b2, 2, none⟩)) hk rfl rfl rfl rfl (fun w hs => sf ⟨b2, 2, none⟩ rfl hk rfl rfl rfl fd31_2 rfl fun a hk => qe hk) fun a hk => ?_
                      refine tqst (.int .i64 x1.Value) hk rfl rfl rfl rfl (fun w hs => sl rfl hk rfl rfl rfl ag3 (box_cell hs (k := 2) rfl rfl) fun a hk => qe hk) fun a hk => ?_
                      refine tqst (.int .i64 (w64 (u10 + x1.Value))) hk rfl rfl rfl rfl (fun w hs => sv (.int .i64 (w64 (u10 + x1.Value))) hk rfl rfl rfl fun a hk => qe hk) fun a hk => ?_
                      refine tqst (.int .i64 u10) hk rfl rfl rfl rfl (fun w hs => sm _ rfl hk rfl rfl rfl fun a hk => qe hk) fun a hk => ?_
                      refine tqst (.pointer (some ⟨b2, 2, none⟩)) hk rfl rfl rfl rfl (fun w hs => sf ⟨b2, 2, none⟩ rfl hk rfl rfl rfl fd31_2 rfl fun a hk => qe hk) fun a hk => ?_
                      refine tqst (.int .i64 x1.Value) hk rfl rfl rfl rfl (fun w hs => sl rfl hk rfl rfl rfl ag3 (box_cell hs (k := 2) rfl rfl) fun a hk => qe hk) fun a hk => ?_
                      refine tqst (.int .i64 (w64 (u10 + x1.Value))) hk rfl rfl rfl rfl (fun w hs => sv (.int .i64 (w64 (u10 + x1.Value))) hk rfl rfl rfl fun a hk => qe hk) fun a hk => ?_
                      refine tsst hk rfl rfl (fun K_r242_7 hK_r242_7 w hF => ?_) ?_
                      · skip
                        have hs := hs.f hF
                        refine sc rfl en127 hk rfl rfl rfl (spec_l10Put_t _ A0_ p0_ l0 _ v0_ (hs.hasD (k := 1) rfl) x1.Key (w64 (u10 + x1.Value)) _ h_r242_7_2) ?_
                        rintro _ w ⟨A_r242_7_3, p_r242_7_4, k_r242_7_5, rfl, o_r242_7_6, hG⟩ a hk
                        have hs := hs.call0k hG [126141] rfl
                        refine se (hs.pick [(2, 2)] rfl) hk (hK_r242_7 _ _ ?_)
                        refine tqst (.slice A_r242_7_3 y_r242_7_1.length p_r242_7_4) hk rfl rfl rfl rfl (fun w hs => sa _ rfl hk rfl rfl rfl fun a hk => qe hk) fun a hk => ?_
                        refine tsst hk rfl rfl (fun K_r242_12 hK_r242_12 w hF => ?_) wt_stop
                        have hs := hs.f hF
                        refine sbs (L := (Lay.int .i64)) (pv := [(0, (.int .i64 (w64 (u10 + x1.Value))))]) (xs := [(w64 (u10 + x1.Value))]) (ess := [[.int .i64 (w64 (u10 + x1.Value))]]) 126241 hs rfl hk rfl rfl rfl un27 (bs3_3 (w64 (u10 + x1.Value))) (AllOwn.cons0 ⟨rfl, rfl⟩ AllOwn.nil) rfl rfl rfl fun b_r242_12_1 k_r242_12_2 w a hk o_r242_12_3 hs => ?_
                        refine se (hs.pick [(2, 2)] rfl) hk (hK_r242_12 _ _ ?_)
                        refine tsst hk rfl rfl (fun K_r242_14 hK_r242_14 w hF => ?_) wt_stop
                        have hs := hs.f hF
                        refine sa _ rfl hk rfl rfl rfl fun a hk => ?_
                        refine se (hs.pick [(2, 2)] rfl) hk (hK_r242_14 _ _ ?_)
                        refine tlst hk rfl rfl fun K_r242_15 hK_r242_15 w hF => ?_
                        have hs := hs.f hF
                        refine sa _ rfl hk rfl rfl rfl fun a hk => ?_
                        refine se trivial hk (hK_r242_15 _ _ fun w hF => ?_)
                        have hs := hs.f hF
                        show R243 _ _
                        rw [hR243]
                        exact ⟨A_r242_7_3, p_r242_7_4, b_r242_12_1, k_r242_7_5, k_r242_12_2, (hk.c 4 rfl (hk.c 5 rfl (hk.c 6 rfl hk.k))), (hs.pick [(126141, 126141), (126241, 126241)] rfl), o_r242_7_6, o_r242_12_3⟩
                      refine tsst hk rfl rfl (fun K_r242_12 hK_r242_12 w hF => ?_) wt_stop
                      have hs := hs.f hF
                      refine sbs (L := (Lay.int .i64)) (pv := [(0, (.int .i64 (w64 (u10 + x1.Value))))]) (xs := [(w64 (u10 + x1.Value))]) (ess := [[.int .i64 (w64 (u10 + x1.Value))]]) 126241 hs rfl hk rfl rfl rfl un27 (bs3_3 (w64 (u10 + x1.Value))) (AllOwn.cons0 ⟨rfl, rfl⟩ AllOwn.nil) rfl rfl rfl fun b_r242_12_1 k_r242_12_2 w a hk o_r242_12_3 hs => ?_
                      refine se (hs.pick [(2, 2)] rfl) hk (hK_r242_12 _ _ ?_)
                      refine tsst hk rfl rfl (fun K_r242_7 hK_r242_7 w hF => ?_) wt_stop
                      have hs := hs.f hF
                      refine sc rfl en127 hk rfl rfl rfl (spec_l10Put_t _ A0_ p0_ l0 _ v0_ (hs.hasD (k := 1) rfl) x1.Key (w64 (u10 + x1.Value)) _ h_r242_7_2) ?_
                      rintro _ w ⟨A_r242_7_3, p_r242_7_4, k_r242_7_5, rfl, o_r242_7_6, hG⟩ a hk
                      have hs := hs.call0k hG [126141] rfl
                      refine se (hs.pick [(2, 2)] rfl) hk (hK_r242_7 _ _ ?_)
                      refine tsst hk rfl rfl (fun K_r242_13 hK_r242_13 w hF => ?_) wt_stop
                      have hs := hs.f hF
                      refine sa _ rfl hk rfl rfl rfl fun a hk => ?_
                      refine se (hs.pick [(2, 2)] rfl) hk (hK_r242_13 _ _ ?_)
                      refine tsst hk rfl rfl (fun K_r242_14 hK_r242_14 w hF => ?_) wt_stop
                      have hs := hs.f hF
                      refine sa _ rfl hk rfl rfl rfl fun a hk => ?_
                      refine se (hs.pick [(2, 2)] rfl) hk (hK_r242_14 _ _ ?_)
                      refine tlst hk rfl rfl fun K_r242_15 hK_r242_15 w hF => ?_
                      have hs := hs.f hF
                      refine sa _ rfl hk rfl rfl rfl fun a hk => ?_
                      refine se trivial hk (hK_r242_15 _ _ fun w hF => ?_)
                      have hs := hs.f hF
                      show R243 _ _
                      rw [hR243]
                      exact ⟨A_r242_7_3, p_r242_7_4, b_r242_12_1, k_r242_7_5, k_r242_12_2, (hk.c 4 rfl (hk.c 5 rfl (hk.c 6 rfl hk.k))), (hs.pick [(126141, 126141), (126241, 126241)] rfl), o_r242_7_6, o_r242_12_3⟩
                    · intro a w hR0
                      rw [hR243] at hR0
                      obtain ⟨A_r242_7_3, p_r242_7_4, b_r242_12_1, k_r242_7_5, k_r242_12_2, hk, hs, o_r242_7_6, o_r242_12_3⟩ := hR0
                      refine hK241 _ _ ?_
                      refine wp_ret ?_
                      obtain rfl := Option.some.inj H
                      exact fin hk _ [(.slice A_r242_7_3 y_r242_7_1.length p_r242_7_4), (.slice (some ⟨b_r242_12_1, 0, none⟩) 1 1), (.int .i64 0)] rfl ⟨rfl, ⟨rfl, ⟨rfl, trivial⟩⟩⟩ ⟨A_r242_7_3, p_r242_7_4, (some ⟨b_r242_12_1, 0, none⟩), 1, _, _, rfl, (o_r242_7_6.view).sub (Sub.r _ (Sub.refl _)), o_r242_12_3, (hs.pick [(0, 126241), (1, 126141)] rfl).dnil⟩

noncomputable def spec_l10Txn.s0 (l0 : List S_Entry) (x1 : S_Txn) (u14 : List S_Entry) (u18 : Int) (u23 : List Int) : Option (((List S_Entry) × Int × (List Int)) ⊕ Ex ((List S_Entry) × (List Int)) ((List S_Entry) × S_Result)) :=
  (bif (decide (u18 < (x1.Ops.length : Int))) then (if 0 ≤ u18 ∧ u18 < (x1.Ops.length : Int) then ((spec_l10Do.f u14 (x1.Ops.getD u18.toNat z_Op)).bind fun y54 => (bif (y54.2.2 != 0) then (some (.inr (.ret (l0, (⟨y54.2.2, ([] : List Int)⟩ : S_Result))))) else (if u23.length + y54.2.1.length ≤ 1073741824 then (some (.inl (y54.1, (w64 (u18 + 1)), (u23 ++ y54.2.1)))) else none))) else none) else (some (.inr (.out (u14, u23)))))
noncomputable def spec_l10Txn.f (l0 : List S_Entry) (x1 : S_Txn) : Option ((List S_Entry) × S_Result) :=
  ((loopO (fun s => spec_l10Txn.s0 l0 x1 s.1 s.2.1 s.2.2) (l0, 0, ([] : List Int))).bind fun o => match o with | .out (u28, u32) => (some (u28, (⟨0, u32⟩ : S_Result))) | .ret r => (some r))
set_option maxRecDepth 100000 in
set_option maxHeartbeats 0 in
theorem spec_l10Txn_t (w0 : World) (A0_ : Option Addr) (p0_ : Nat) (l0 : List S_Entry) (k0_ : Chunk) (v0_ : View L_Entry A0_ p0_ l0 k0_) (w0_ : Has w0 k0_) (x1 : S_Txn) (A1_0 : Option Addr) (p1_0 : Nat) (k1_0 : Chunk) (v1_0 : View L_Op A1_0 p1_0 x1.Ops k1_0) (w1_0 : Has w0 k1_0) (r : (List S_Entry) × S_Result) (H : spec_l10Txn.f l0 x1 = some r) :
    Calls Try.prog 73 #[.slice A0_ l0.length p0_, .agg #[.slice A1_0 x1.Ops.length p1_0]] w0 (Ret (fun v w => ∃ (A0 : Option Addr) (p0 : Nat), ∃ (A1 : Option Addr) (p1 : Nat) (k1 : Chunk), ∃ (kS : Chunk), v = .tuple #[.slice A0 r.1.length p0, .agg #[.int .i64 r.2.Code, .slice A1 r.2.Values.length p1]] ∧ View L_Entry A0 p0 r.1 (k0_ ++ (k1_0 ++ kS)) ∧ Own (Lay.int .i64) 3 A1 p1 r.2.Values k1 ∧ Sat [] w0 w [] [(0, k1), (1, kS)])) := by
  have hs : Sat [] w0 w0 [(1, k0_), (2, k1_0)] [] := Sat.init w0 [(1, k0_), (2, k1_0)] [] (by simp only [List.mem_cons, List.not_mem_nil, or_false]; rintro x (rfl | rfl) <;> assumption) (by simp) List.nodup_nil (by simp [blks])
  unfold spec_l10Txn.f at H
  refine enter Try.func73 rfl Try.ntmps73 rfl fun a hk => ?_
  apply wp_seq_k; intro K1 hK1
  apply wp_region_lit
  refine sbx 3 hs rfl hk rfl rfl rfl rfl fun b2 w a hk hs => ?_
  refine sa _ rfl hk rfl rfl rfl fun a hk => ?_
  refine salx 4 hs rfl hk rfl rfl ze43 rfl fun b3 w a hk hs => ?_
  show wpList _ _ _ [] _ _
  refine wpList_nil ?_
  refine hK1 _ _ ?_
  apply wp_seq_k; intro K4 hK4
  apply wp_region_lit
  refine sm _ rfl hk rfl rfl rfl fun a hk => ?_
  refine sa _ rfl hk rfl rfl rfl fun a hk => ?_
  show wpList _ _ _ [] _ _
  refine wpList_nil ?_
  refine hK4 _ _ ?_
  apply wp_seq_k; intro K5 hK5
  apply wp_region_lit
  refine sbs0 5 (Lay.int .i64) hs rfl hk rfl rfl un27 sz3 fun b6 k7 w a hk o8 hs => ?_
  refine sbd (pv := [(1, (.slice (some ⟨b6, 0, none⟩) 0 0))]) rfl hk rfl rfl rfl (bd43_5 (some ⟨b6, 0, none⟩) 0 0) fun a hk => ?_
  refine salx 6 hs rfl hk rfl rfl ze43 rfl fun b9 w a hk hs => ?_
  refine ssw 6 hs rfl rfl hk rfl rfl rfl rfl sz43 (by simp [Value.oneCell']) rfl fun w a hk hs => ?_
  show wpList _ _ _ [] _ _
  refine wpList_nil ?_
  refine hK5 _ _ ?_
  apply wp_seq_k; intro K10 hK10
  apply wp_seq_k; intro K11 hK11
  apply wp_region_lit
  refine sa _ rfl hk rfl rfl rfl fun a hk => ?_
  show wpList _ _ _ [] _ _
  refine wpList_nil ?_
  refine hK11 _ _ ?_
  obtain ⟨o37, h38, HL39⟩ := bind_some H
  clear H
  obtain ⟨R40, hR40⟩ : ∃ R : Act → World → Prop, R = fun a w => ∃ (u28 : List S_Entry) (u32 : List Int) (A29 : Option Addr) (p30 : Nat) (A35 : Option Addr) (p36 : Nat) (k33 : Chunk) (kf13 : Chunk), o37 = .out (u28, u32) ∧ Kn [(5, (.pointer (some ⟨b3, 0, none⟩))), (6, (.slice A29 u28.length p30)), (7, (.pointer (some ⟨b9, 0, none⟩)))] 47 a ∧ Sat [] w0 w [(1, k0_), (2, k1_0)] [(7, kf13), (4, [(b3, .cells #[.int .i64 0, .slice none 0 0] 43 (0, 0))]), (6, [(b9, .cells #[.int .i64 0, .slice A35 u32.length p36] 43 (0, 0))]), (5, k33)] ∧ View L_Entry A29 p30 u28 (k0_ ++ (k1_0 ++ kf13)) ∧ Own (Lay.int .i64) 3 A35 p36 u32 k33 := ⟨_, rfl⟩
  refine wp_cutq R40 ?_ ?_
  · refine wp_block ?_
    obtain ⟨fu42, h38⟩ := loopO_some h38
    obtain ⟨I41, hI41⟩ : ∃ I : Nat → Act → World → Prop, I = fun fu a w => ∃ (u14 : List S_Entry) (u18 : Int) (u23 : List Int) (A15 : Option Addr) (p16 : Nat) (A26 : Option Addr) (p27 : Nat) (k24 : Chunk) (kf12 : Chunk), loopN (fun s => spec_l10Txn.s0 l0 x1 s.1 s.2.1 s.2.2) fu (u14, u18, u23) = some o37 ∧ Kn [(0, (.slice A0_ l0.length p0_)), (3, (.pointer (some ⟨b2, 0, none⟩))), (5, (.pointer (some ⟨b3, 0, none⟩))), (6, (.slice A15 u14.length p16)), (7, (.pointer (some ⟨b9, 0, none⟩))), (8, (.int .i64 u18))] 47 a ∧ Sat [] w0 w [(1, k0_), (2, k1_0)] [(7, kf12), (3, [(b2, .cells #[.slice A1_0 x1.Ops.length p1_0] 48 (0, 0))]), (4, [(b3, .cells #[.int .i64 0, .slice none 0 0] 43 (0, 0))]), (6, [(b9, .cells #[.int .i64 0, .slice A26 u23.length p27] 43 (0, 0))]), (5, k24)] ∧ View L_Entry A15 p16 u14 (k0_ ++ (k1_0 ++ kf12)) ∧ Own (Lay.int .i64) 3 A26 p27 u23 k24 := ⟨_, rfl⟩
    refine wp_loop_ghost I41 fu42 ?_ ?_
    · rw [hI41]
      exact ⟨l0, 0, ([] : List Int), A0_, p0_, (some ⟨b6, 0, none⟩), 0, _, _, h38, (hk.c 0 rfl (hk.c 3 rfl (hk.c 5 rfl (hk.c 6 rfl (hk.c 7 rfl (hk.c 8 rfl hk.k)))))), ((hs.addNil 3007).pick [(7, 3007), (3, 3), (4, 4), (6, 6), (5, 5)] rfl), (v0_).sub (Sub.l _ (Sub.refl _)), o8⟩
    · clear h38 hk hs
      intro fu42 a w hI0
      rw [hI41] at hI0
      obtain ⟨u14, u18, u23, A15, p16, A26, p27, k24, kf12, hi, hk, hs, v17, o25⟩ := hI0
      obtain ⟨x43, H, h44⟩ := loop_round hi
      try dsimp only at H
      unfold spec_l10Txn.s0 at H
      apply wp_seq_k; intro K45 hK45
      apply wp_seq_k; intro K46 hK46
      apply wp_region_lit
      refine sm _ rfl hk rfl rfl rfl fun a hk => ?_
      refine sf ⟨b2, 0, none⟩ rfl hk rfl rfl rfl fd48_0 rfl fun a hk => ?_
      refine sl rfl hk rfl rfl rfl ag46 (box_cell hs (k := 3) rfl rfl) fun a hk => ?_
      refine sle rfl hk rfl rfl rfl un46 fun a hk => ?_
      refine sv (.bool (decide (u18 < (x1.Ops.length : Int)))) hk rfl rfl rfl fun a hk => ?_
      show wpList _ _ _ [] _ _
      refine wpList_nil ?_
      refine hK46 _ _ ?_
      rcases cond_some H with ⟨c47, H⟩ | ⟨c47, H⟩
      · have hk := hk.lit 19 c47 rfl
        refine cnd_true hk rfl rfl ?_
        refine wp_skip ?_
        refine hK45 _ _ ?_
        apply wp_seq_k; intro K48 hK48
        refine wp_block ?_
        apply wp_seq_k; intro K49 hK49
        apply wp_region_lit
        refine sm _ rfl hk rfl rfl rfl fun a hk => ?_
        refine sf ⟨b2, 0, none⟩ rfl hk rfl rfl rfl fd48_0 rfl fun a hk => ?_
        refine sl rfl hk rfl rfl rfl ag46 (box_cell hs (k := 3) rfl rfl) fun a hk => ?_
        refine sm _ rfl hk rfl rfl rfl fun a hk => ?_
        rcases ite_some H with ⟨c50, H⟩ | ⟨_, H⟩
        rotate_left
        · cases H
        obtain ⟨b51, q52, hAc50⟩ := (v1_0).some_ u18 c50.1 c50.2
        refine si rfl hk rfl rfl rfl rfl un46 sz31 c50.1 c50.2 hAc50 fun a hk => ?_
        obtain ⟨_, rfl, e53⟩ := (v1_0).at_ z_Op u18 c50.1 c50.2
        refine sln [.int .i64 ((x1.Ops.getD u18.toNat z_Op).Kind), .int .i64 ((x1.Ops.getD u18.toNat z_Op).Key), .int .i64 ((x1.Ops.getD u18.toNat z_Op).Value)] rfl hk rfl rfl rfl ag31 sz31 (cells_at e53 (hs.hasD (k := 2) rfl)) fun a hk => ?_
        obtain ⟨y54, h55, H⟩ := bind_some H
        refine sc rfl en65 hk rfl rfl rfl (spec_l10Do_t _ A15 p16 u14 _ v17 (Has.app (hs.hasD (k := 1) rfl) (Has.app (hs.hasD (k := 2) rfl) (hs.hasG (k := 7) rfl))) (x1.Ops.getD u18.toNat z_Op) _ h55) ?_
        rintro _ w ⟨A57, p58, A60, p61, k62, k56, rfl, v59, o63, hG⟩ a hk
        have hs := hs.call0k hG [9, 8] rfl
        refine sm _ rfl hk rfl rfl rfl fun a hk => ?_
        refine sv (.slice A57 y54.1.length p58) hk rfl rfl rfl fun a hk => ?_
        refine sv (.slice A60 y54.2.1.length p61) hk rfl rfl rfl fun a hk => ?_
        refine sv (.int .i64 y54.2.2) hk rfl rfl rfl fun a hk => ?_
        refine sa _ rfl hk rfl rfl rfl fun a hk => ?_
        refine sa _ rfl hk rfl rfl rfl fun a hk => ?_
        refine sa _ rfl hk rfl rfl rfl fun a hk => ?_
        show wpList _ _ _ [] _ _
        refine wpList_nil ?_
        refine hK49 _ _ ?_
        apply wp_seq_k; intro K64 hK64
        apply wp_seq_k; intro K65 hK65
        apply wp_region_lit
        refine sm _ rfl hk rfl rfl rfl fun a hk => ?_
        refine sv (.bool (y54.2.2 != 0)) hk rfl rfl rfl fun a hk => ?_
        show wpList _ _ _ [] _ _
        refine wpList_nil ?_
        refine hK65 _ _ ?_
        rcases cond_some H with ⟨c66, H⟩ | ⟨c66, H⟩
        · have hk := hk.lit 34 c66 rfl
          refine cnd_true hk rfl rfl ?_
          apply wp_seq_k; intro K67 hK67
          apply wp_region_lit
          refine sm _ rfl hk rfl rfl rfl fun a hk => ?_
          refine sm _ rfl hk rfl rfl rfl fun a hk => ?_
          refine sbs0 10 (Lay.int .i64) hs rfl hk rfl rfl un27 sz3 fun b68 k69 w a hk o70 hs => ?_
          refine sbd (pv := [(0, (.int .i64 y54.2.2)), (1, (.slice (some ⟨b68, 0, none⟩) 0 0))]) rfl hk rfl rfl rfl (bd43_6 y54.2.2 (some ⟨b68, 0, none⟩) 0 0) fun a hk => ?_
          refine sa _ rfl hk rfl rfl rfl fun a hk => ?_
          refine ssw 4 hs rfl rfl hk rfl rfl rfl rfl sz43 (by simp [Value.oneCell']) rfl fun w a hk hs => ?_
          show wpList _ _ _ [] _ _
          refine wpList_nil ?_
          refine hK67 _ _ ?_
          refine wp_ret ?_
          obtain rfl := Option.some.inj H
          have ho37 := h44
          try dsimp only at ho37
          subst ho37
          have H := HL39
          try dsimp only at H
          obtain rfl := Option.some.inj H
          exact fin hk _ [(.slice A0_ l0.length p0_), (.agg #[.int .i64 y54.2.2, .slice (some ⟨b68, 0, none⟩) 0 0])] rfl ⟨rfl, ⟨⟨_, rfl, run_loadN ag43 sz43 (box_cells hs (k := 4) rfl)⟩, trivial⟩⟩ ⟨A0_, p0_, (some ⟨b68, 0, none⟩), 0, _, _, rfl, (v0_).sub (Sub.l _ (Sub.refl _)), o70, ((hs.addNil 3000).pick [(0, 10), (1, 3000)] rfl).dnil⟩
        · have hk := hk.lit 34 c66 rfl
          refine cnd_false hk rfl rfl ?_
          refine wp_skip ?_
          refine hK64 _ _ ?_
          apply wp_seq_k; intro K71 hK71
          apply wp_region_lit
          refine sm _ rfl hk rfl rfl rfl fun a hk => ?_
          refine sa _ rfl hk rfl rfl rfl fun a hk => ?_
          show wpList _ _ _ [] _ _
          refine wpList_nil ?_
          refine hK71 _ _ ?_
          apply wp_region_lit
          refine sf ⟨b9, 1, none⟩ rfl hk rfl rfl rfl fd43_1 rfl fun a hk => ?_
          refine sl rfl hk rfl rfl rfl ag27 (box_cell hs (k := 6) rfl rfl) fun a hk => ?_
          refine sm _ rfl hk rfl rfl rfl fun a hk => ?_
          rcases ite_some H with ⟨c72, H⟩ | ⟨_, H⟩
          rotate_left
          · cases H
          refine sap 5 (xs := u23) (ys := y54.2.1) (flat_flat : ((Lay.int .i64)).Flat) hs rfl o25 o63.view (hs.hasG (k := 9) rfl) rfl hk rfl rfl rfl rfl rfl rfl un27 mk3 rfl rfl rfl c72 fun A73 p74 k75 w a hk o76 hs => ?_
          refine sf ⟨b9, 1, none⟩ rfl hk rfl rfl rfl fd43_1 rfl fun a hk => ?_
          refine ssx (cs' := #[.int .i64 0, .slice A73 (u23 ++ y54.2.1).length p74]) 6 hs rfl rfl hk rfl rfl rfl rfl sz27 rfl rfl rfl rfl fun w a hk hs => ?_
          show wpList _ _ _ [] _ _
          refine wpList_nil ?_
          refine hK48 _ _ ?_
          apply wp_region_lit
          refine sm _ rfl hk rfl rfl rfl fun a hk => ?_
          refine sv (.int .i64 (w64 (u18 + 1))) hk rfl rfl rfl fun a hk => ?_
          refine sa _ rfl hk rfl rfl rfl fun a hk => ?_
          show wpList _ _ _ [] _ _
          refine wpList_nil ?_
          obtain rfl := Option.some.inj H
          obtain ⟨m77, hmm77, h44⟩ := h44
          show ∃ n', n' < _ ∧ I41 n' _ _
          refine ⟨m77, hmm77, ?_⟩
          rw [hI41]
          exact ⟨y54.1, (w64 (u18 + 1)), (u23 ++ y54.2.1), A57, p58, A73, p74, _, _, h44, (hk.c 0 rfl (hk.c 3 rfl (hk.c 5 rfl (hk.c 6 rfl (hk.c 7 rfl (hk.c 8 rfl hk.k)))))), ((hs.join (k := 7) (j := 8) 4011 rfl rfl).pick [(7, 4011), (3, 3), (4, 4), (6, 6), (5, 5)] rfl), (v59).sub (Sub.a (Sub.a (Sub.l _ (Sub.refl _)) (Sub.a (Sub.r _ (Sub.l _ (Sub.refl _))) (Sub.r _ (Sub.r _ (Sub.l _ (Sub.refl _)))))) (Sub.r _ (Sub.r _ (Sub.r _ (Sub.refl _))))), o76⟩
      · have hk := hk.lit 19 c47 rfl
        refine cnd_false hk rfl rfl ?_
        refine wp_exit ?_
        obtain rfl := Option.some.inj H
        show R40 _ _
        rw [hR40]
        exact ⟨u14, u23, A15, p16, A26, p27, _, _, h44.symm, (hk.c 5 rfl (hk.c 6 rfl (hk.c 7 rfl hk.k))), (hs.pick [(7, 7), (4, 4), (6, 6), (5, 5)] rfl), (v17).sub (Sub.refl _), o25⟩
  · intro a w hR0
    rw [hR40] at hR0
    obtain ⟨u28, u32, A29, p30, A35, p36, k33, kf13, rfl, hk, hs, v31, o34⟩ := hR0
    have H := HL39
    try dsimp only at H
    refine hK10 _ _ ?_
    apply wp_seq_k; intro K78 hK78
    refine wp_region_tree (.q 0 (.q 1 (.alt 2 (.last 3) .stop))) mo (by kernel_rfl) (hs.pick [(7, 7), (4, 4), (6, 6), (5, 5)] rfl) fun _ => ?_
    have hs := hs.drew
    refine tqst (.slice A29 u28.length p30) hk rfl rfl rfl rfl (fun w hs => sm _ rfl hk rfl rfl rfl fun a hk => qe hk) fun a hk => ?_
    refine tqst (.agg #[.int .i64 0, .slice A35 u32.length p36]) hk rfl rfl rfl rfl (fun w hs => sln [.int .i64 0, .slice A35 u32.length p36] rfl hk rfl rfl rfl ag43 sz43 (box_cells hs (k := 6) rfl) fun a hk => qe hk) fun a hk => ?_
    refine tsst hk rfl rfl (fun K_r79_2 hK_r79_2 w hF => ?_) wt_stop
    have hs := hs.f hF
    refine sa _ rfl hk rfl rfl rfl fun a hk => ?_
    refine se (hs.pick [(7, 7), (4, 4), (6, 6), (5, 5)] rfl) hk (hK_r79_2 _ _ ?_)
    refine tlst hk rfl rfl fun K_r79_3 hK_r79_3 w hF => ?_
    have hs := hs.f hF
    refine ssw 4 hs rfl rfl hk rfl rfl rfl rfl sz43 (by simp [Value.oneCell']) rfl fun w a hk hs => ?_
    refine se trivial hk (hK_r79_3 _ _ fun w hF => ?_)
    have hs := hs.f hF
    refine hK78 _ _ ?_
    refine wp_ret ?_
    obtain rfl := Option.some.inj H
    exact fin hk _ [(.slice A29 u28.length p30), (.agg #[.int .i64 0, .slice A35 u32.length p36])] rfl ⟨rfl, ⟨⟨_, rfl, run_loadN ag43 sz43 (box_cells hs (k := 4) rfl)⟩, trivial⟩⟩ ⟨A29, p30, A35, p36, _, _, rfl, (v31).sub (Sub.refl _), o34, (hs.pick [(0, 5), (1, 7)] rfl).dnil⟩

noncomputable def spec_l10Batch.s0 (l1 : List S_Txn) (u10 : List S_Entry) (u19 : List S_Result) (u18 : Int) : Option (((List S_Entry) × (List S_Result) × Int) ⊕ Ex ((List S_Entry) × (List S_Result)) ((List S_Entry) × (List S_Result))) :=
  (bif (decide (u18 < (l1.length : Int))) then (if 0 ≤ u18 ∧ u18 < (l1.length : Int) then ((spec_l10Txn.f u10 (l1.getD u18.toNat z_Txn)).bind fun y53 => (if u19.length + ([y53.2]).length ≤ 1073741824 then (some (.inl (y53.1, (u19 ++ ([y53.2])), (w64 (u18 + 1))))) else none)) else none) else (some (.inr (.out (u10, u19)))))
noncomputable def spec_l10Batch.f (l0 : List S_Entry) (l1 : List S_Txn) : Option ((List S_Entry) × (List S_Result)) :=
  ((loopO (fun s => spec_l10Batch.s0 l1 s.1 s.2.1 s.2.2) (l0, ([] : List S_Result), 0)).bind fun o => match o with | .out (u24, u28) => (some (u24, u28)) | .ret r => (some r))
set_option maxRecDepth 100000 in
set_option maxHeartbeats 0 in
theorem spec_l10Batch_t (w0 : World) (A0_ : Option Addr) (p0_ : Nat) (l0 : List S_Entry) (k0_ : Chunk) (v0_ : View L_Entry A0_ p0_ l0 k0_) (w0_ : Has w0 k0_) (A1_ : Option Addr) (p1_ : Nat) (l1 : List S_Txn) (k1_ : Chunk) (v1_ : View L_impl_Txn A1_ p1_ l1 k1_) (w1_ : Has w0 k1_) (r : (List S_Entry) × (List S_Result)) (H : spec_l10Batch.f l0 l1 = some r) :
    Calls Try.prog 135 #[.slice A0_ l0.length p0_, .slice A1_ l1.length p1_] w0 (Ret (fun v w => ∃ (A0 : Option Addr) (p0 : Nat), ∃ (A1 : Option Addr) (p1 : Nat) (k1 : Chunk), ∃ (kS : Chunk), v = .tuple #[.slice A0 r.1.length p0, .slice A1 r.2.length p1] ∧ View L_Entry A0 p0 r.1 (k0_ ++ (k1_ ++ kS)) ∧ Own L_impl_Result 43 A1 p1 r.2 k1 ∧ Sat [] w0 w [] [(0, k1), (1, kS)])) := by
  have hs : Sat [] w0 w0 [(1, k0_), (2, k1_)] [] := Sat.init w0 [(1, k0_), (2, k1_)] [] (by simp only [List.mem_cons, List.not_mem_nil, or_false]; rintro x (rfl | rfl) <;> assumption) (by simp) List.nodup_nil (by simp [blks])
  unfold spec_l10Batch.f at H
  refine enter Try.func135 rfl Try.ntmps135 rfl fun a hk => ?_
  apply wp_seq_k; intro K1 hK1
  apply wp_region_lit
  refine sa _ rfl hk rfl rfl rfl fun a hk => ?_
  refine sa _ rfl hk rfl rfl rfl fun a hk => ?_
  show wpList _ _ _ [] _ _
  refine wpList_nil ?_
  refine hK1 _ _ ?_
  apply wp_seq_k; intro K2 hK2
  apply wp_region_lit
  refine sbs0 3 L_impl_Result hs rfl hk rfl rfl un160 sz43 fun b3 k4 w a hk o5 hs => ?_
  refine sa _ rfl hk rfl rfl rfl fun a hk => ?_
  show wpList _ _ _ [] _ _
  refine wpList_nil ?_
  refine hK2 _ _ ?_
  apply wp_seq_k; intro K6 hK6
  apply wp_seq_k; intro K7 hK7
  apply wp_region_lit
  refine sa _ rfl hk rfl rfl rfl fun a hk => ?_
  show wpList _ _ _ [] _ _
  refine wpList_nil ?_
  refine hK7 _ _ ?_
  obtain ⟨o33, h34, HL35⟩ := bind_some H
  clear H
  obtain ⟨R36, hR36⟩ : ∃ R : Act → World → Prop, R = fun a w => ∃ (u24 : List S_Entry) (u28 : List S_Result) (A25 : Option Addr) (p26 : Nat) (A31 : Option Addr) (p32 : Nat) (k29 : Chunk) (kf9 : Chunk), o33 = .out (u24, u28) ∧ Kn [(0, (.slice A25 u24.length p26)), (6, (.slice A31 u28.length p32))] 33 a ∧ Sat [] w0 w [(1, k0_), (2, k1_)] [(4, kf9), (3, k29)] ∧ View L_Entry A25 p26 u24 (k0_ ++ (k1_ ++ kf9)) ∧ Own L_impl_Result 43 A31 p32 u28 k29 := ⟨_, rfl⟩
  refine wp_cutq R36 ?_ ?_
  · refine wp_block ?_
    obtain ⟨fu38, h34⟩ := loopO_some h34
    obtain ⟨I37, hI37⟩ : ∃ I : Nat → Act → World → Prop, I = fun fu a w => ∃ (u10 : List S_Entry) (u19 : List S_Result) (u18 : Int) (A11 : Option Addr) (p12 : Nat) (A22 : Option Addr) (p23 : Nat) (k20 : Chunk) (kf8 : Chunk), loopN (fun s => spec_l10Batch.s0 l1 s.1 s.2.1 s.2.2) fu (u10, u19, u18) = some o33 ∧ Kn [(0, (.slice A11 u10.length p12)), (1, (.slice A1_ l1.length p1_)), (6, (.slice A22 u19.length p23)), (7, (.int .i64 u18))] 33 a ∧ Sat [] w0 w [(1, k0_), (2, k1_)] [(4, kf8), (3, k20)] ∧ View L_Entry A11 p12 u10 (k0_ ++ (k1_ ++ kf8)) ∧ Own L_impl_Result 43 A22 p23 u19 k20 := ⟨_, rfl⟩
    refine wp_loop_ghost I37 fu38 ?_ ?_
    · rw [hI37]
      exact ⟨l0, ([] : List S_Result), 0, A0_, p0_, (some ⟨b3, 0, none⟩), 0, _, _, h34, (hk.c 0 rfl (hk.c 1 rfl (hk.c 6 rfl (hk.c 7 rfl hk.k)))), ((hs.addNil 3004).pick [(4, 3004), (3, 3)] rfl), (v0_).sub (Sub.l _ (Sub.refl _)), o5⟩
    · clear h34 hk hs
      intro fu38 a w hI0
      rw [hI37] at hI0
      obtain ⟨u10, u19, u18, A11, p12, A22, p23, k20, kf8, hi, hk, hs, v13, o21⟩ := hI0
      obtain ⟨x39, H, h40⟩ := loop_round hi
      try dsimp only at H
      unfold spec_l10Batch.s0 at H
      apply wp_seq_k; intro K41 hK41
      apply wp_seq_k; intro K42 hK42
      apply wp_region_lit
      refine sm _ rfl hk rfl rfl rfl fun a hk => ?_
      refine sm _ rfl hk rfl rfl rfl fun a hk => ?_
      refine sle rfl hk rfl rfl rfl un163 fun a hk => ?_
      refine sv (.bool (decide (u18 < (l1.length : Int)))) hk rfl rfl rfl fun a hk => ?_
      show wpList _ _ _ [] _ _
      refine wpList_nil ?_
      refine hK42 _ _ ?_
      rcases cond_some H with ⟨c43, H⟩ | ⟨c43, H⟩
      · have hk := hk.lit 14 c43 rfl
        refine cnd_true hk rfl rfl ?_
        refine wp_skip ?_
        refine hK41 _ _ ?_
        apply wp_seq_k; intro K44 hK44
        refine wp_block ?_
        apply wp_seq_k; intro K45 hK45
        apply wp_region_lit
        refine sm _ rfl hk rfl rfl rfl fun a hk => ?_
        refine sm _ rfl hk rfl rfl rfl fun a hk => ?_
        refine sm _ rfl hk rfl rfl rfl fun a hk => ?_
        rcases ite_some H with ⟨c46, H⟩ | ⟨_, H⟩
        rotate_left
        · cases H
        obtain ⟨b47, q48, hAc46⟩ := (v1_).some_ u18 c46.1 c46.2
        refine si rfl hk rfl rfl rfl rfl un163 sz48 c46.1 c46.2 hAc46 fun a hk => ?_
        obtain ⟨_, ⟨_, rfl, A50, p51, rfl, v52⟩, e49⟩ := (v1_).at_ z_Txn u18 c46.1 c46.2
        refine sln [.slice A50 ((l1.getD u18.toNat z_Txn).Ops).length p51] rfl hk rfl rfl rfl ag48 sz48 (cells_at e49 (hs.hasD (k := 2) rfl)) fun a hk => ?_
        obtain ⟨y53, h54, H⟩ := bind_some H
        refine sc rfl en73 hk rfl rfl rfl (spec_l10Txn_t _ A11 p12 u10 _ v13 (Has.app (hs.hasD (k := 1) rfl) (Has.app (hs.hasD (k := 2) rfl) (hs.hasG (k := 4) rfl))) (l1.getD u18.toNat z_Txn) A50 p51 _ v52 (hs.hasD (k := 2) rfl) _ h54) ?_
        rintro _ w ⟨A56, p57, A59, p60, k61, k55, rfl, v58, o62, hG⟩ a hk
        have hs := hs.call0k hG [6, 5] rfl
        refine sm _ rfl hk rfl rfl rfl fun a hk => ?_
        refine sv (.slice A56 y53.1.length p57) hk rfl rfl rfl fun a hk => ?_
        refine sv (.agg #[.int .i64 y53.2.Code, .slice A59 y53.2.Values.length p60]) hk rfl rfl rfl fun a hk => ?_
        refine salx 7 hs rfl hk rfl rfl ze43 rfl fun b63 w a hk hs => ?_
        refine sa _ rfl hk rfl rfl rfl fun a hk => ?_
        refine ssw 7 hs rfl rfl hk rfl rfl rfl rfl sz43 (by simp [Value.oneCell']) rfl fun w a hk hs => ?_
        show wpList _ _ _ [] _ _
        refine wpList_nil ?_
        refine hK45 _ _ ?_
        apply wp_seq_k; intro K64 hK64
        apply wp_region_lit
        refine sm _ rfl hk rfl rfl rfl fun a hk => ?_
        refine sa _ rfl hk rfl rfl rfl fun a hk => ?_
        show wpList _ _ _ [] _ _
        refine wpList_nil ?_
        refine hK64 _ _ ?_
        apply wp_region_lit
        refine sm _ rfl hk rfl rfl rfl fun a hk => ?_
        refine sln [.int .i64 y53.2.Code, .slice A59 y53.2.Values.length p60] rfl hk rfl rfl rfl ag43 sz43 (box_cells hs (k := 7) rfl) fun a hk => ?_
        refine sbs1 (L := L_impl_Result) (pv := [(0, (.agg #[.int .i64 y53.2.Code, .slice A59 y53.2.Values.length p60]))]) (xs := [y53.2]) (ess := [[.int .i64 y53.2.Code, .slice A59 y53.2.Values.length p60]]) 8 6 hs rfl rfl hk rfl rfl rfl un160 (bs43_7 y53.2.Code A59 y53.2.Values.length p60) (AllOwn.one ⟨[.int .i64 y53.2.Code], [.slice A59 y53.2.Values.length p60], [], _, rfl, rfl, ⟨rfl, rfl⟩, ⟨_, rfl, o62.toV⟩⟩) rfl rfl rfl fun b65 k66 w a hk o67 hs => ?_
        rcases ite_some H with ⟨c68, H⟩ | ⟨_, H⟩
        rotate_left
        · cases H
        refine sapm 3 8 (xs := u19) (ys := [y53.2]) hs rfl rfl o21 o67 rfl hk rfl rfl rfl rfl rfl rfl un160 mk43 rfl rfl rfl c68 fun A69 p70 k71 w a hk o72 hs => ?_
        refine sa _ rfl hk rfl rfl rfl fun a hk => ?_
        show wpList _ _ _ [] _ _
        refine wpList_nil ?_
        refine hK44 _ _ ?_
        apply wp_region_lit
        refine sm _ rfl hk rfl rfl rfl fun a hk => ?_
        refine sv (.int .i64 (w64 (u18 + 1))) hk rfl rfl rfl fun a hk => ?_
        refine sa _ rfl hk rfl rfl rfl fun a hk => ?_
        show wpList _ _ _ [] _ _
        refine wpList_nil ?_
        obtain rfl := Option.some.inj H
        obtain ⟨m73, hmm73, h40⟩ := h40
        show ∃ n', n' < _ ∧ I37 n' _ _
        refine ⟨m73, hmm73, ?_⟩
        rw [hI37]
        exact ⟨y53.1, (u19 ++ ([y53.2])), (w64 (u18 + 1)), A56, p57, A69, p70, _, _, h40, (hk.c 0 rfl (hk.c 1 rfl (hk.c 6 rfl (hk.c 7 rfl hk.k)))), ((hs.join (k := 4) (j := 5) 4009 rfl rfl).pick [(4, 4009), (3, 3)] rfl), (v58).sub (Sub.a (Sub.a (Sub.l _ (Sub.refl _)) (Sub.a (Sub.r _ (Sub.l _ (Sub.refl _))) (Sub.r _ (Sub.r _ (Sub.l _ (Sub.refl _)))))) (Sub.a (Sub.r _ (Sub.l _ (Sub.refl _))) (Sub.r _ (Sub.r _ (Sub.r _ (Sub.refl _)))))), o72⟩
      · have hk := hk.lit 14 c43 rfl
        refine cnd_false hk rfl rfl ?_
        refine wp_exit ?_
        obtain rfl := Option.some.inj H
        show R36 _ _
        rw [hR36]
        exact ⟨u10, u19, A11, p12, A22, p23, _, _, h40.symm, (hk.c 0 rfl (hk.c 6 rfl hk.k)), (hs.pick [(4, 4), (3, 3)] rfl), (v13).sub (Sub.refl _), o21⟩
  · intro a w hR0
    rw [hR36] at hR0
    obtain ⟨u24, u28, A25, p26, A31, p32, k29, kf9, rfl, hk, hs, v27, o30⟩ := hR0
    have H := HL35
    try dsimp only at H
    refine hK6 _ _ ?_
    apply wp_seq_k; intro K74 hK74
    apply wp_region_lit
    refine sm _ rfl hk rfl rfl rfl fun a hk => ?_
    refine sm _ rfl hk rfl rfl rfl fun a hk => ?_
    refine sa _ rfl hk rfl rfl rfl fun a hk => ?_
    refine sa _ rfl hk rfl rfl rfl fun a hk => ?_
    show wpList _ _ _ [] _ _
    refine wpList_nil ?_
    refine hK74 _ _ ?_
    refine wp_ret ?_
    obtain rfl := Option.some.inj H
    exact fin hk _ [(.slice A25 u24.length p26), (.slice A31 u28.length p32)] rfl ⟨rfl, ⟨rfl, trivial⟩⟩ ⟨A25, p26, A31, p32, _, _, rfl, (v27).sub (Sub.refl _), o30, (hs.pick [(0, 3), (1, 4)] rfl).dnil⟩

noncomputable def spec_l00Src_op.f (x0 : S_l00Src) : Option (S_Op × Int × Int) :=
  ((spec_l00Src_next.f x0 6).bind fun y_r4_1_1 => ((spec_l00Src_next.f (⟨x0.code, y_r4_1_1.2.1, y_r4_1_1.2.2⟩ : S_l00Src) 3).bind fun y_r4_5_1 => (if 0 ≤ y_r4_5_1.1 ∧ y_r4_5_1.1 < (3 : Int) then ((spec_l00Src_next.f (⟨x0.code, y_r4_5_1.2.1, y_r4_5_1.2.2⟩ : S_l00Src) 14).bind fun y_r4_9_1 => (((bif ((([2, 2, (w64 (1 + y_r4_1_1.1))]).getD (y_r4_5_1.1).toNat 0) == 1) then (some true) else (some ((([2, 2, (w64 (1 + y_r4_1_1.1))]).getD (y_r4_5_1.1).toNat 0) == 3))) : Option (Bool)).bind fun u11 => (((bif u11 then (some (y_r4_9_1.2.1, y_r4_9_1.2.2, 0)) else (((bif ((([2, 2, (w64 (1 + y_r4_1_1.1))]).getD (y_r4_5_1.1).toNat 0) == 6) then ((spec_l00Src_next.f (⟨x0.code, y_r4_9_1.2.1, y_r4_9_1.2.2⟩ : S_l00Src) 4).bind fun y36 => (some (y36.2.1, y36.2.2, (w64 (1 + y36.1))))) else (((bif ((([2, 2, (w64 (1 + y_r4_1_1.1))]).getD (y_r4_5_1.1).toNat 0) == 5) then ((spec_l00Src_next.f (⟨x0.code, y_r4_9_1.2.1, y_r4_9_1.2.2⟩ : S_l00Src) 5).bind fun y48 => ((spec_l00Src_next.f (⟨x0.code, y48.2.1, y48.2.2⟩ : S_l00Src) 9).bind fun y53 => (if 0 ≤ (IntKind.wrap .i64 (Int.tdiv y53.1 8)) ∧ (IntKind.wrap .i64 (Int.tdiv y53.1 8)) < (2 : Int) then (some (y53.2.1, y53.2.2, (([y48.1, 999999]).getD (IntKind.wrap .i64 (Int.tdiv y53.1 8)).toNat 0))) else none))) else ((spec_l00Src_next.f (⟨x0.code, y_r4_9_1.2.1, y_r4_9_1.2.2⟩ : S_l00Src) 4).bind fun y59 => (some (y59.2.1, y59.2.2, y59.1)))) : Option (Int × Int × Int)).bind fun o => match o with | (u40, u41, u42) => (some (u40, u41, u42)))) : Option (Int × Int × Int)).bind fun o => match o with | (u28, u29, u30) => (some (u28, u29, u30)))) : Option (Int × Int × Int)).bind fun o => match o with | (u18, u19, u20) => (some ((⟨(([2, 2, (w64 (1 + y_r4_1_1.1))]).getD (y_r4_5_1.1).toNat 0), (w64 (1 + y_r4_9_1.1)), u20⟩ : S_Op), u18, u19))))) else none)))
set_option maxRecDepth 100000 in
set_option maxHeartbeats 0 in
theorem spec_l00Src_op_t (w0 : World) (b0_ : Nat) (x0 : S_l00Src) (A0_0 : Option Addr) (p0_0 : Nat) (k0_0 : Chunk) (v0_0 : View (Lay.int .u8) A0_0 p0_0 x0.code k0_0) (w0_0 : Has w0 k0_0) (hs0 : Sat (blks [(1, [(b0_, .cells #[.slice A0_0 x0.code.length p0_0, .int .i64 x0.at_, .int .i64 x0.seed] 159 (0, 0))])]) w0 w0 [(2, k0_0)] [(1, [(b0_, .cells #[.slice A0_0 x0.code.length p0_0, .int .i64 x0.at_, .int .i64 x0.seed] 159 (0, 0))])]) (r : S_Op × Int × Int) (H : spec_l00Src_op.f x0 = some r) :
    Calls Try.prog 171 #[.pointer (some ⟨b0_, 0, none⟩)] w0 (Ret (fun v w => v = .agg #[.int .i64 r.1.Kind, .int .i64 r.1.Key, .int .i64 r.1.Value] ∧ Sat (blks [(1, [(b0_, .cells #[.slice A0_0 x0.code.length p0_0, .int .i64 x0.at_, .int .i64 x0.seed] 159 (0, 0))])]) w0 w [] [(0, [(b0_, .cells #[.slice A0_0 x0.code.length p0_0, .int .i64 r.2.1, .int .i64 r.2.2] 159 (0, 0))])])) := by
  have hs := hs0
  unfold spec_l00Src_op.f at H
  refine enter Try.func171 rfl Try.ntmps171 rfl fun a hk => ?_
  apply wp_seq_k; intro K1 hK1
  apply wp_region_lit
  refine salx 3 hs rfl hk rfl rfl ze31 rfl fun b2 w a hk hs => ?_
  show wpList _ _ _ [] _ _
  refine wpList_nil ?_
  refine hK1 _ _ ?_
  apply wp_seq_k; intro K3 hK3
  obtain ⟨y_r4_1_1, h_r4_1_2, H⟩ := bind_some H
  obtain ⟨y_r4_5_1, h_r4_5_2, H⟩ := bind_some H
  rcases ite_some H with ⟨c_r4_6_1, H⟩ | ⟨_, H⟩
  rotate_left
  · cases H
  obtain ⟨y_r4_9_1, h_r4_9_2, H⟩ := bind_some H
  obtain ⟨R5, hR5⟩ : ∃ R : Act → World → Prop, R = fun a w => ∃ (b_r4_12_1 : Nat), Kn [(0, (.pointer (some ⟨b0_, 0, none⟩))), (2, (.pointer (some ⟨b2, 0, none⟩))), (3, (.pointer (some ⟨b_r4_12_1, 0, none⟩)))] 42 a ∧ Sat (blks [(1, [(b0_, .cells #[.slice A0_0 x0.code.length p0_0, .int .i64 x0.at_, .int .i64 x0.seed] 159 (0, 0))])]) w0 w [(2, k0_0)] [(1, [(b0_, .cells #[.slice A0_0 x0.code.length p0_0, .int .i64 y_r4_9_1.2.1, .int .i64 y_r4_9_1.2.2] 159 (0, 0))]), (3, [(b2, .cells #[.int .i64 0, .int .i64 0, .int .i64 0] 31 (0, 0))]), (104241, [(b_r4_12_1, .cells #[.int .i64 (([2, 2, (w64 (1 + y_r4_1_1.1))]).getD (y_r4_5_1.1).toNat 0), .int .i64 (w64 (1 + y_r4_9_1.1)), .int .i64 0] 31 (0, 0))])] := ⟨_, rfl⟩
  refine wp_cutq R5 ?_ ?_
  · skip
    refine wp_region_tree (.q 0 (.q 4 (.q 8 (.alt 1 (.q 2 (.alt 3 (.alt 5 (.q 6 (.alt 7 (.alt 9 (.q 10 (.alt 11 (.alt 12 (.last 13) .stop) (.alt 12 (.alt 11 (.last 13) .stop) .stop))) (.alt 12 (.alt 9 (.alt 10 (.alt 11 (.last 13) .stop) .stop) .stop) .stop)) (.alt 9 (.q 10 (.alt 7 (.alt 11 (.alt 12 (.last 13) .stop) (.alt 12 (.alt 11 (.last 13) .stop) .stop)) (.alt 12 (.alt 7 (.alt 11 (.last 13) .stop) .stop) .stop))) (.alt 12 (.alt 7 (.alt 9 (.alt 10 (.alt 11 (.last 13) .stop) .stop) .stop) (.alt 9 (.q 10 (.alt 7 (.alt 11 (.last 13) .stop) .stop)) .stop)) .stop)))) (.alt 12 (.alt 5 (.q 6 (.alt 7 (.alt 9 (.alt 10 (.alt 11 (.last 13) .stop) .stop) .stop) (.alt 9 (.q 10 (.alt 7 (.alt 11 (.last 13) .stop) .stop)) .stop))) .stop) .stop)) (.alt 5 (.alt 3 (.q 6 (.alt 7 (.alt 9 (.q 10 (.alt 11 (.alt 12 (.last 13) .stop) (.alt 12 (.alt 11 (.last 13) .stop) .stop))) (.alt 12 (.alt 9 (.alt 10 (.alt 11 (.last 13) .stop) .stop) .stop) .stop)) (.alt 9 (.q 10 (.alt 7 (.alt 11 (.alt 12 (.last 13) .stop) (.alt 12 (.alt 11 (.last 13) .stop) .stop)) (.alt 12 (.alt 7 (.alt 11 (.last 13) .stop) .stop) .stop))) (.alt 12 (.alt 7 (.alt 9 (.alt 10 (.alt 11 (.last 13) .stop) .stop) .stop) (.alt 9 (.q 10 (.alt 7 (.alt 11 (.last 13) .stop) .stop)) .stop)) .stop)))) (.alt 9 (.q 10 (.alt 3 (.q 6 (.alt 7 (.alt 11 (.alt 12 (.last 13) .stop) (.alt 12 (.alt 11 (.last 13) .stop) .stop)) (.alt 12 (.alt 7 (.alt 11 (.last 13) .stop) .stop) .stop))) (.alt 12 (.alt 3 (.alt 6 (.alt 7 (.alt 11 (.last 13) .stop) .stop) .stop) .stop) .stop))) (.alt 12 (.alt 3 (.q 6 (.alt 7 (.alt 9 (.alt 10 (.alt 11 (.last 13) .stop) .stop) .stop) (.alt 9 (.q 10 (.alt 7 (.alt 11 (.last 13) .stop) .stop)) .stop))) (.alt 9 (.q 10 (.alt 3 (.alt 6 (.alt 7 (.alt 11 (.last 13) .stop) .stop) .stop) .stop)) .stop)) .stop))) (.alt 12 (.alt 3 (.alt 5 (.q 6 (.alt 7 (.alt 9 (.alt 10 (.alt 11 (.last 13) .stop) .stop) .stop) (.alt 9 (.q 10 (.alt 7 (.alt 11 (.last 13) .stop) .stop)) .stop))) .stop) (.alt 5 (.alt 3 (.q 6 (.alt 7 (.alt 9 (.alt 10 (.alt 11 (.last 13) .stop) .stop) .stop) (.alt 9 (.q 10 (.alt 7 (.alt 11 (.last 13) .stop) .stop)) .stop))) (.alt 9 (.q 10 (.alt 3 (.alt 6 (.alt 7 (.alt 11 (.last 13) .stop) .stop) .stop) .stop)) .stop)) .stop)) .stop)))) (.alt 12 (.alt 1 (.q 2 (.alt 3 (.alt 5 (.q 6 (.alt 7 (.alt 9 (.alt 10 (.alt 11 (.last 13) .stop) .stop) .stop) (.alt 9 (.q 10 (.alt 7 (.alt 11 (.last 13) .stop) .stop)) .stop))) .stop) (.alt 5 (.alt 3 (.q 6 (.alt 7 (.alt 9 (.alt 10 (.alt 11 (.last 13) .stop) .stop) .stop) (.alt 9 (.q 10 (.alt 7 (.alt 11 (.last 13) .stop) .stop)) .stop))) (.alt 9 (.q 10 (.alt 3 (.alt 6 (.alt 7 (.alt 11 (.last 13) .stop) .stop) .stop) .stop)) .stop)) .stop))) .stop) .stop))))) mo (by kernel_rfl) (hs.pick [(3, 3)] rfl) fun _ => ?_
    have hs := hs.drew
    refine tqst (.pointer (some ⟨b0_, 0, none⟩)) hk rfl rfl rfl rfl (fun w hs => sm _ rfl hk rfl rfl rfl fun a hk => qe hk) fun a hk => ?_
    refine tqst (.pointer (some ⟨b0_, 0, none⟩)) hk rfl rfl rfl rfl (fun w hs => sm _ rfl hk rfl rfl rfl fun a hk => qe hk) fun a hk => ?_
    refine tqst (.pointer (some ⟨b0_, 0, none⟩)) hk rfl rfl rfl rfl (fun w hs => sm _ rfl hk rfl rfl rfl fun a hk => qe hk) fun a hk => ?_
    refine tsst hk rfl rfl (fun K_r4_1 hK_r4_1 w hF => ?_) ?_
    · skip
      have hs := hs.f hF
      refine sc rfl en134 hk rfl rfl rfl (spec_l00Src_next_t _ b0_ x0 A0_0 p0_0 _ v0_0 (hs.hasD (k := 2) rfl) 6 ((hs.hand [(1, 1)] rfl).dpick [(2, 2)] rfl) _ h_r4_1_2) ?_
      rintro _ w ⟨rfl, hG⟩ a hk
      have hs := hs.back [(1, 1)] rfl hG [1] rfl
      refine se (hs.pick [(3, 3)] rfl) hk (hK_r4_1 _ _ ?_)
      refine tqst (.int .i64 (w64 (1 + y_r4_1_1.1))) hk rfl rfl rfl rfl (fun w hs => sv (.int .i64 (w64 (1 + y_r4_1_1.1))) hk rfl rfl rfl fun a hk => qe hk) fun a hk => ?_
      refine tsst hk rfl rfl (fun K_r4_3 hK_r4_3 w hF => ?_) ?_
      · skip
        have hs := hs.f hF
        refine sbs (L := (Lay.int .i64)) (pv := [(0, (.int .i64 2)), (1, (.int .i64 2)), (2, (.int .i64 (w64 (1 + y_r4_1_1.1))))]) (xs := [2, 2, (w64 (1 + y_r4_1_1.1))]) (ess := [[.int .i64 2], [.int .i64 2], [.int .i64 (w64 (1 + y_r4_1_1.1))]]) 104061 hs rfl hk rfl rfl rfl un27 (bs3_8 2 2 (w64 (1 + y_r4_1_1.1))) (AllOwn.cons0 ⟨rfl, rfl⟩ (AllOwn.cons0 ⟨rfl, rfl⟩ (AllOwn.cons0 ⟨rfl, rfl⟩ AllOwn.nil))) rfl rfl rfl fun b_r4_3_1 k_r4_3_2 w a hk o_r4_3_3 hs => ?_
        refine se (hs.pick [(3, 3)] rfl) hk (hK_r4_3 _ _ ?_)
        refine tsst hk rfl rfl (fun K_r4_5 hK_r4_5 w hF => ?_) ?_
        · skip
          have hs := hs.f hF
          refine sc rfl en134 hk rfl rfl rfl (spec_l00Src_next_t _ b0_ (⟨x0.code, y_r4_1_1.2.1, y_r4_1_1.2.2⟩ : S_l00Src) A0_0 p0_0 _ v0_0 (hs.hasD (k := 2) rfl) 3 ((hs.hand [(1, 1)] rfl).dpick [(2, 2)] rfl) _ h_r4_5_2) ?_
          rintro _ w ⟨rfl, hG⟩ a hk
          have hs := hs.back [(1, 1)] rfl hG [1] rfl
          refine se (hs.pick [(3, 3)] rfl) hk (hK_r4_5 _ _ ?_)
          obtain ⟨b_r4_6_2, q_r4_6_3, hAc_r4_6_1⟩ := (o_r4_3_3.view).some_ y_r4_5_1.1 c_r4_6_1.1 c_r4_6_1.2
          refine tqst (.pointer (some (padd (some ⟨b_r4_3_1, 0, none⟩) ((y_r4_5_1.1).toNat * 1)))) hk rfl rfl rfl rfl (fun w hs => si rfl hk rfl rfl rfl rfl un27 sz3 c_r4_6_1.1 c_r4_6_1.2 hAc_r4_6_1 fun a hk => qe hk) fun a hk => ?_
          refine tsst hk rfl rfl (fun K_r4_7 hK_r4_7 w hF => ?_) ?_
          · skip
            have hs := hs.f hF
            obtain ⟨_, rfl, e_r4_7_1⟩ := (o_r4_3_3.view).at_ 0 y_r4_5_1.1 c_r4_6_1.1 c_r4_6_1.2
            refine sl (v := (.int .i64 (([2, 2, (w64 (1 + y_r4_1_1.1))]).getD (y_r4_5_1.1).toNat 0))) rfl hk rfl rfl rfl ag3 ((e_r4_7_1 0 _ rfl).cell (hs.hasG (k := 104061) rfl)) fun a hk => ?_
            refine se (hs.pick [(3, 3)] rfl) hk (hK_r4_7 _ _ ?_)
            refine tsst hk rfl rfl (fun K_r4_9 hK_r4_9 w hF => ?_) ?_
            · skip
              have hs := hs.f hF
              refine sc rfl en134 hk rfl rfl rfl (spec_l00Src_next_t _ b0_ (⟨x0.code, y_r4_5_1.2.1, y_r4_5_1.2.2⟩ : S_l00Src) A0_0 p0_0 _ v0_0 (hs.hasD (k := 2) rfl) 14 ((hs.hand [(1, 1)] rfl).dpick [(2, 2)] rfl) _ h_r4_9_2) ?_
              rintro _ w ⟨rfl, hG⟩ a hk
              have hs := hs.back [(1, 1)] rfl hG [1] rfl
              refine se (hs.pick [(3, 3)] rfl) hk (hK_r4_9 _ _ ?_)
              refine tqst (.int .i64 (w64 (1 + y_r4_9_1.1))) hk rfl rfl rfl rfl (fun w hs => sv (.int .i64 (w64 (1 + y_r4_9_1.1))) hk rfl rfl rfl fun a hk => qe hk) fun a hk => ?_
              refine tsst hk rfl rfl (fun K_r4_11 hK_r4_11 w hF => ?_) ?_
              · skip
                have hs := hs.f hF
                refine sbd (pv := [(0, (.int .i64 (([2, 2, (w64 (1 + y_r4_1_1.1))]).getD (y_r4_5_1.1).toNat 0))), (1, (.int .i64 (w64 (1 + y_r4_9_1.1))))]) rfl hk rfl rfl rfl (bd31_9 (([2, 2, (w64 (1 + y_r4_1_1.1))]).getD (y_r4_5_1.1).toNat 0) (w64 (1 + y_r4_9_1.1))) fun a hk => ?_
                refine se (hs.pick [(3, 3)] rfl) hk (hK_r4_11 _ _ ?_)
                refine tsst hk rfl rfl (fun K_r4_12 hK_r4_12 w hF => ?_) wt_stop
                have hs := hs.f hF
                refine salx 104241 hs rfl hk rfl rfl ze31 rfl fun b_r4_12_1 w a hk hs => ?_
                refine se (hs.pick [(3, 3)] rfl) hk (hK_r4_12 _ _ ?_)
                refine tlst hk rfl rfl fun K_r4_13 hK_r4_13 w hF => ?_
                have hs := hs.f hF
                refine ssw 104241 hs rfl rfl hk rfl rfl rfl rfl sz31 (by simp [Value.oneCell']) rfl fun w a hk hs => ?_
                refine se trivial hk (hK_r4_13 _ _ fun w hF => ?_)
                have hs := hs.f hF
                show R5 _ _
                rw [hR5]
                exact ⟨b_r4_12_1, (hk.c 0 rfl (hk.c 2 rfl (hk.c 3 rfl hk.k))), (hs.pick [(1, 1), (3, 3), (104241, 104241)] rfl)⟩
              refine tsst hk rfl rfl (fun K_r4_12 hK_r4_12 w hF => ?_) wt_stop
              have hs := hs.f hF
              refine salx 104241 hs rfl hk rfl rfl ze31 rfl fun b_r4_12_1 w a hk hs => ?_
              refine se (hs.pick [(3, 3)] rfl) hk (hK_r4_12 _ _ ?_)
              refine tsst hk rfl rfl (fun K_r4_11 hK_r4_11 w hF => ?_) wt_stop
              have hs := hs.f hF
              refine sbd (pv := [(0, (.int .i64 (([2, 2, (w64 (1 + y_r4_1_1.1))]).getD (y_r4_5_1.1).toNat 0))), (1, (.int .i64 (w64 (1 + y_r4_9_1.1))))]) rfl hk rfl rfl rfl (bd31_9 (([2, 2, (w64 (1 + y_r4_1_1.1))]).getD (y_r4_5_1.1).toNat 0) (w64 (1 + y_r4_9_1.1))) fun a hk => ?_
              refine se (hs.pick [(3, 3)] rfl) hk (hK_r4_11 _ _ ?_)
              refine tlst hk rfl rfl fun K_r4_13 hK_r4_13 w hF => ?_
              have hs := hs.f hF
              refine ssw 104241 hs rfl rfl hk rfl rfl rfl rfl sz31 (by simp [Value.oneCell']) rfl fun w a hk hs => ?_
              refine se trivial hk (hK_r4_13 _ _ fun w hF => ?_)
              have hs := hs.f hF
              show R5 _ _
              rw [hR5]
              exact ⟨b_r4_12_1, (hk.c 0 rfl (hk.c 2 rfl (hk.c 3 rfl hk.k))), (hs.pick [(1, 1), (3, 3), (104241, 104241)] rfl)⟩
            refine tsst hk rfl rfl (fun K_r4_12 hK_r4_12 w hF => ?_) wt_stop
            have hs := hs.f hF
            refine salx 104241 hs rfl hk rfl rfl ze31 rfl fun b_r4_12_1 w a hk hs => ?_
            refine se (hs.pick [(3, 3)] rfl) hk (hK_r4_12 _ _ ?_)
            refine tsst hk rfl rfl (fun K_r4_9 hK_r4_9 w hF => ?_) wt_stop
            have hs := hs.f hF
            refine sc rfl en134 hk rfl rfl rfl (spec_l00Src_next_t _ b0_ (⟨x0.code, y_r4_5_1.2.1, y_r4_5_1.2.2⟩ : S_l00Src) A0_0 p0_0 _ v0_0 (hs.hasD (k := 2) rfl) 14 ((hs.hand [(1, 1)] rfl).dpick [(2, 2)] rfl) _ h_r4_9_2) ?_
            rintro _ w ⟨rfl, hG⟩ a hk
            have hs := hs.back [(1, 1)] rfl hG [1] rfl
            refine se (hs.pick [(3, 3)] rfl) hk (hK_r4_9 _ _ ?_)
            refine tsst hk rfl rfl (fun K_r4_10 hK_r4_10 w hF => ?_) wt_stop
            have hs := hs.f hF
            refine sv (.int .i64 (w64 (1 + y_r4_9_1.1))) hk rfl rfl rfl fun a hk => ?_
            refine se (hs.pick [(3, 3)] rfl) hk (hK_r4_10 _ _ ?_)
            refine tsst hk rfl rfl (fun K_r4_11 hK_r4_11 w hF => ?_) wt_stop
            have hs := hs.f hF
            refine sbd (pv := [(0, (.int .i64 (([2, 2, (w64 (1 + y_r4_1_1.1))]).getD (y_r4_5_1.1).toNat 0))), (1, (.int .i64 (w64 (1 + y_r4_9_1.1))))]) rfl hk rfl rfl rfl (bd31_9 (([2, 2, (w64 (1 + y_r4_1_1.1))]).getD (y_r4_5_1.1).toNat 0) (w64 (1 + y_r4_9_1.1))) fun a hk => ?_
            refine se (hs.pick [(3, 3)] rfl) hk (hK_r4_11 _ _ ?_)
            refine tlst hk rfl rfl fun K_r4_13 hK_r4_13 w hF => ?_
            have hs := hs.f hF
            refine ssw 104241 hs rfl rfl hk rfl rfl rfl rfl sz31 (by simp [Value.oneCell']) rfl fun w a hk hs => ?_
            refine se trivial hk (hK_r4_13 _ _ fun w hF => ?_)
            have hs := hs.f hF
            show R5 _ _
            rw [hR5]
            exact ⟨b_r4_12_1, (hk.c 0 rfl (hk.c 2 rfl (hk.c 3 rfl hk.k))), (hs.pick [(1, 1), (3, 3), (104241, 104241)] rfl)⟩
          refine tsst hk rfl rfl (fun K_r4_9 hK_r4_9 w hF => ?_) ?_
          · skip
            have hs := hs.f hF
            refine sc rfl en134 hk rfl rfl rfl (spec_l00Src_next_t _ b0_ (⟨x0.code, y_r4_5_1.2.1, y_r4_5_1.2.2⟩ : S_l00Src) A0_0 p0_0 _ v0_0 (hs.hasD (k := 2) rfl) 14 ((hs.hand [(1, 1)] rfl).dpick [(2, 2)] rfl) _ h_r4_9_2) ?_
            rintro _ w ⟨rfl, hG⟩ a hk
            have hs := hs.back [(1, 1)] rfl hG [1] rfl
            refine se (hs.pick [(3, 3)] rfl) hk (hK_r4_9 _ _ ?_)
            refine tqst (.int .i64 (w64 (1 + y_r4_9_1.1))) hk rfl rfl rfl rfl (fun w hs => sv (.int .i64 (w64 (1 + y_r4_9_1.1))) hk rfl rfl rfl fun a hk => qe hk) fun a hk => ?_
            refine tsst hk rfl rfl (fun K_r4_7 hK_r4_7 w hF => ?_) ?_
            · skip
              have hs := hs.f hF
              obtain ⟨_, rfl, e_r4_7_1⟩ := (o_r4_3_3.view).at_ 0 y_r4_5_1.1 c_r4_6_1.1 c_r4_6_1.2
              refine sl (v := (.int .i64 (([2, 2, (w64 (1 + y_r4_1_1.1))]).getD (y_r4_5_1.1).toNat 0))) rfl hk rfl rfl rfl ag3 ((e_r4_7_1 0 _ rfl).cell (hs.hasG (k := 104061) rfl)) fun a hk => ?_
              refine se (hs.pick [(3, 3)] rfl) hk (hK_r4_7 _ _ ?_)
              refine tsst hk rfl rfl (fun K_r4_11 hK_r4_11 w hF => ?_) ?_
              · skip
                have hs := hs.f hF
                refine sbd (pv := [(0, (.int .i64 (([2, 2, (w64 (1 + y_r4_1_1.1))]).getD (y_r4_5_1.1).toNat 0))), (1, (.int .i64 (w64 (1 + y_r4_9_1.1))))]) rfl hk rfl rfl rfl (bd31_9 (([2, 2, (w64 (1 + y_r4_1_1.1))]).getD (y_r4_5_1.1).toNat 0) (w64 (1 + y_r4_9_1.1))) fun a hk => ?_
                refine se (hs.pick [(3, 3)] rfl) hk (hK_r4_11 _ _ ?_)
                refine tsst hk rfl rfl (fun K_r4_12 hK_r4_12 w hF => ?_) wt_stop
                have hs := hs.f hF
                refine salx 104241 hs rfl hk rfl rfl ze31 rfl fun b_r4_12_1 w a hk hs => ?_
                refine se (hs.pick [(3, 3)] rfl) hk (hK_r4_12 _ _ ?_)
                refine tlst hk rfl rfl fun K_r4_13 hK_r4_13 w hF => ?_
                have hs := hs.f hF
                refine ssw 104241 hs rfl rfl hk rfl rfl rfl rfl sz31 (by simp [Value.oneCell']) rfl fun w a hk hs => ?_
                refine se trivial hk (hK_r4_13 _ _ fun w hF => ?_)
                have hs := hs.f hF
                show R5 _ _
                rw [hR5]
                exact ⟨b_r4_12_1, (hk.c 0 rfl (hk.c 2 rfl (hk.c 3 rfl hk.k))), (hs.pick [(1, 1), (3, 3), (104241, 104241)] rfl)⟩
              refine tsst hk rfl rfl (fun K_r4_12 hK_r4_12 w hF => ?_) wt_stop
              have hs := hs.f hF
              refine salx 104241 hs rfl hk rfl rfl ze31 rfl fun b_r4_12_1 w a hk hs => ?_
              refine se (hs.pick [(3, 3)] rfl) hk (hK_r4_12 _ _ ?_)
              refine tsst hk rfl rfl (fun K_r4_11 hK_r4_11 w hF => ?_) wt_stop
              have hs := hs.f hF
              refine sbd (pv := [(0, (.int .i64 (([2, 2, (w64 (1 + y_r4_1_1.1))]).getD (y_r4_5_1.1).toNat 0))), (1, (.int .i64 (w64 (1 + y_r4_9_1.1))))]) rfl hk rfl rfl rfl (bd31_9 (([2, 2, (w64 (1 + y_r4_1_1.1))]).getD (y_r4_5_1.1).toNat 0) (w64 (1 + y_r4_9_1.1))) fun a hk => ?_
              refine se (hs.pick [(3, 3)] rfl) hk (hK_r4_11 _ _ ?_)
              refine tlst hk rfl rfl fun K_r4_13 hK_r4_13 w hF => ?_
              have hs := hs.f hF
              refine ssw 104241 hs rfl rfl hk rfl rfl rfl rfl sz31 (by simp [Value.oneCell']) rfl fun w a hk hs => ?_
              refine se trivial hk (hK_r4_13 _ _ fun w hF => ?_)
              have hs := hs.f hF
              show R5 _ _
              rw [hR5]
              exact ⟨b_r4_12_1, (hk.c 0 rfl (hk.c 2 rfl (hk.c 3 rfl hk.k))), (hs.pick [(1, 1), (3, 3), (104241, 104241)] rfl)⟩
            refine tsst hk rfl rfl (fun K_r4_12 hK_r4_12 w hF => ?_) wt_stop
            have hs := hs.f hF
            refine salx 104241 hs rfl hk rfl rfl ze31 rfl fun b_r4_12_1 w a hk hs => ?_
            refine se (hs.pick [(3, 3)] rfl) hk (hK_r4_12 _ _ ?_)
            refine tsst hk rfl rfl (fun K_r4_7 hK_r4_7 w hF => ?_) wt_stop
            have hs := hs.f hF
            obtain ⟨_, rfl, e_r4_7_1⟩ := (o_r4_3_3.view).at_ 0 y_r4_5_1.1 c_r4_6_1.1 c_r4_6_1.2
            refine sl (v := (.int .i64 (([2, 2, (w64 (1 + y_r4_1_1.1))]).getD (y_r4_5_1.1).toNat 0))) rfl hk rfl rfl rfl ag3 ((e_r4_7_1 0 _ rfl).cell (hs.hasG (k := 104061) rfl)) fun a hk => ?_
            refine se (hs.pick [(3, 3)] rfl) hk (hK_r4_7 _ _ ?_)
            refine tsst hk rfl rfl (fun K_r4_11 hK_r4_11 w hF => ?_) wt_stop
            have hs := hs.f hF
            refine sbd (pv := [(0, (.int .i64 (([2, 2, (w64 (1 + y_r4_1_1.1))]).getD (y_r4_5_1.1).toNat 0))), (1, (.int .i64 (w64 (1 + y_r4_9_1.1))))]) rfl hk rfl rfl rfl (bd31_9 (([2, 2, (w64 (1 + y_r4_1_1.1))]).getD (y_r4_5_1.1).toNat 0) (w64 (1 + y_r4_9_1.1))) fun a hk => ?_
            refine se (hs.pick [(3, 3)] rfl) hk (hK_r4_11 _ _ ?_)
            refine tlst hk rfl rfl fun K_r4_13 hK_r4_13 w hF => ?_
            have hs := hs.f hF
            refine ssw 104241 hs rfl rfl hk rfl rfl rfl rfl sz31 (by simp [Value.oneCell']) rfl fun w a hk hs => ?_
            refine se trivial hk (hK_r4_13 _ _ fun w hF => ?_)
            have hs := hs.f hF
            show R5 _ _
            rw [hR5]
            exact ⟨b_r4_12_1, (hk.c 0 rfl (hk.c 2 rfl (hk.c 3 rfl hk.k))), (hs.pick [(1, 1), (3, 3), (104241, 104241)] rfl)⟩
          refine tsst hk rfl rfl (fun K_r4_12 hK_r4_12 w hF => ?_) wt_stop
          have hs := hs.f hF
          refine salx 104241 hs rfl hk rfl rfl ze31 rfl fun b_r4_12_1 w a hk hs => ?_
          refine se (hs.pick [(3, 3)] rfl) hk (hK_r4_12 _ _ ?_)
          refine tsst hk rfl rfl (fun K_r4_7 hK_r4_7 w hF => ?_) ?_
          · skip
            have hs := hs.f hF
            obtain ⟨_, rfl, e_r4_7_1⟩ := (o_r4_3_3.view).at_ 0 y_r4_5_1.1 c_r4_6_1.1 c_r4_6_1.2
            refine sl (v := (.int .i64 (([2, 2, (w64 (1 + y_r4_1_1.1))]).getD (y_r4_5_1.1).toNat 0))) rfl hk rfl rfl rfl ag3 ((e_r4_7_1 0 _ rfl).cell (hs.hasG (k := 104061) rfl)) fun a hk => ?_
            refine se (hs.pick [(3, 3)] rfl) hk (hK_r4_7 _ _ ?_)
            refine tsst hk rfl rfl (fun K_r4_9 hK_r4_9 w hF => ?_) wt_stop
            have hs := hs.f hF
            refine sc rfl en134 hk rfl rfl rfl (spec_l00Src_next_t _ b0_ (⟨x0.code, y_r4_5_1.2.1, y_r4_5_1.2.2⟩ : S_l00Src) A0_0 p0_0 _ v0_0 (hs.hasD (k := 2) rfl) 14 ((hs.hand [(1, 1)] rfl).dpick [(2, 2)] rfl) _ h_r4_9_2) ?_
            rintro _ w ⟨rfl, hG⟩ a hk
            have hs := hs.back [(1, 1)] rfl hG [1] rfl
            refine se (hs.pick [(3, 3)] rfl) hk (hK_r4_9 _ _ ?_)
            refine tsst hk rfl rfl (fun K_r4_10 hK_r4_10 w hF => ?_) wt_stop
            have hs := hs.f hF
            refine sv (.int .i64 (w64 (1 + y_r4_9_1.1))) hk rfl rfl rfl fun a hk => ?_
            refine se (hs.pick [(3, 3)] rfl) hk (hK_r4_10 _ _ ?_)
            refine tsst hk rfl rfl (fun K_r4_11 hK_r4_11 w hF => ?_) wt_stop
            have hs := hs.f hF
            refine sbd (pv := [(0, (.int .i64 (([2, 2, (w64 (1 + y_r4_1_1.1))]).getD (y_r4_5_1.1).toNat 0))), (1, (.int .i64 (w64 (1 + y_r4_9_1.1))))]) rfl hk rfl rfl rfl (bd31_9 (([2, 2, (w64 (1 + y_r4_1_1.1))]).getD (y_r4_5_1.1).toNat 0) (w64 (1 + y_r4_9_1.1))) fun a hk => ?_
            refine se (hs.pick [(3, 3)] rfl) hk (hK_r4_11 _ _ ?_)
            refine tlst hk rfl rfl fun K_r4_13 hK_r4_13 w hF => ?_
            have hs := hs.f hF
            refine ssw 104241 hs rfl rfl hk rfl rfl rfl rfl sz31 (by simp [Value.oneCell']) rfl fun w a hk hs => ?_
            refine se trivial hk (hK_r4_13 _ _ fun w hF => ?_)
            have hs := hs.f hF
            show R5 _ _
            rw [hR5]
            exact ⟨b_r4_12_1, (hk.c 0 rfl (hk.c 2 rfl (hk.c 3 rfl hk.k))), (hs.pick [(1, 1), (3, 3), (104241, 104241)] rfl)⟩
          refine tsst hk rfl rfl (fun K_r4_9 hK_r4_9 w hF => ?_) wt_stop
          have hs := hs.f hF
          refine sc rfl en134 hk rfl rfl rfl (spec_l00Src_next_t _ b0_ (⟨x0.code, y_r4_5_1.2.1, y_r4_5_1.2.2⟩ : S_l00Src) A0_0 p0_0 _ v0_0 (hs.hasD (k := 2) rfl) 14 ((hs.hand [(1, 1)] rfl).dpick [(2, 2)] rfl) _ h_r4_9_2) ?_
          rintro _ w ⟨rfl, hG⟩ a hk
          have hs := hs.back [(1, 1)] rfl hG [1] rfl
          refine se (hs.pick [(3, 3)] rfl) hk (hK_r4_9 _ _ ?_)
          refine tqst (.int .i64 (w64 (1 + y_r4_9_1.1))) hk rfl rfl rfl rfl (fun w hs => sv (.int .i64 (w64 (1 + y_r4_9_1.1))) hk rfl rfl rfl fun a hk => qe hk) fun a hk => ?_
          refine tsst hk rfl rfl (fun K_r4_7 hK_r4_7 w hF => ?_) wt_stop
          have hs := hs.f hF
          obtain ⟨_, rfl, e_r4_7_1⟩ := (o_r4_3_3.view).at_ 0 y_r4_5_1.1 c_r4_6_1.1 c_r4_6_1.2
          refine sl (v := (.int .i64 (([2, 2, (w64 (1 + y_r4_1_1.1))]).getD (y_r4_5_1.1).toNat 0))) rfl hk rfl rfl rfl ag3 ((e_r4_7_1 0 _ rfl).cell (hs.hasG (k := 104061) rfl)) fun a hk => ?_
          refine se (hs.pick [(3, 3)] rfl) hk (hK_r4_7 _ _ ?_)
          refine tsst hk rfl rfl (fun K_r4_11 hK_r4_11 w hF => ?_) wt_stop
          have hs := hs.f hF
          refine sbd (pv := [(0, (.int .i64 (([2, 2, (w64 (1 + y_r4_1_1.1))]).getD (y_r4_5_1.1).toNat 0))), (1, (.int .i64 (w64 (1 + y_r4_9_1.1))))]) rfl hk rfl rfl rfl (bd31_9 (([2, 2, (w64 (1 + y_r4_1_1.1))]).getD (y_r4_5_1.1).toNat 0) (w64 (1 + y_r4_9_1.1))) fun a hk => ?_
          refine se (hs.pick [(3, 3)] rfl) hk (hK_r4_11 _ _ ?_)
          refine tlst hk rfl rfl fun K_r4_13 hK_r4_13 w hF => ?_
          have hs := hs.f hF
          refine ssw 104241 hs rfl rfl hk rfl rfl rfl rfl sz31 (by simp [Value.oneCell']) rfl fun w a hk hs => ?_
          refine se trivial hk (hK_r4_13 _ _ fun w hF => ?_)
          have hs := hs.f hF
          show R5 _ _
          rw [hR5]
          exact ⟨b_r4_12_1, (hk.c 0 rfl (hk.c 2 rfl (hk.c 3 rfl hk.k))), (hs.pick [(1, 1), (3, 3), (104241, 104241)] rfl)⟩
        refine tsst hk rfl rfl (fun K_r4_12 hK_r4_12 w hF => ?_) wt_stop
        have hs := hs.f hF
        refine salx 104241 hs rfl hk rfl rfl ze31 rfl fun b_r4_12_1 w a hk hs => ?_
        refine se (hs.pick [(3, 3)] rfl) hk (hK_r4_12 _ _ ?_)
        refine tsst hk rfl rfl (fun K_r4_5 hK_r4_5 w hF => ?_) wt_stop
        have hs := hs.f hF
        refine sc rfl en134 hk rfl rfl rfl (spec_l00Src_next_t _ b0_ (⟨x0.code, y_r4_1_1.2.1, y_r4_1_1.2.2⟩ : S_l00Src) A0_0 p0_0 _ v0_0 (hs.hasD (k := 2) rfl) 3 ((hs.hand [(1, 1)] rfl).dpick [(2, 2)] rfl) _ h_r4_5_2) ?_
        rintro _ w ⟨rfl, hG⟩ a hk
        have hs := hs.back [(1, 1)] rfl hG [1] rfl
        refine se (hs.pick [(3, 3)] rfl) hk (hK_r4_5 _ _ ?_)
        obtain ⟨b_r4_6_2, q_r4_6_3, hAc_r4_6_1⟩ := (o_r4_3_3.view).some_ y_r4_5_1.1 c_r4_6_1.1 c_r4_6_1.2
        refine tqst (.pointer (some (padd (some ⟨b_r4_3_1, 0, none⟩) ((y_r4_5_1.1).toNat * 1)))) hk rfl rfl rfl rfl (fun w hs => si rfl hk rfl rfl rfl rfl un27 sz3 c_r4_6_1.1 c_r4_6_1.2 hAc_r4_6_1 fun a hk => qe hk) fun a hk => ?_
        refine tsst hk rfl rfl (fun K_r4_7 hK_r4_7 w hF => ?_) ?_
        · skip
          have hs := hs.f hF
          obtain ⟨_, rfl, e_r4_7_1⟩ := (o_r4_3_3.view).at_ 0 y_r4_5_1.1 c_r4_6_1.1 c_r4_6_1.2
          refine sl (v := (.int .i64 (([2, 2, (w64 (1 + y_r4_1_1.1))]).getD (y_r4_5_1.1).toNat 0))) rfl hk rfl rfl rfl ag3 ((e_r4_7_1 0 _ rfl).cell (hs.hasG (k := 104061) rfl)) fun a hk => ?_
          refine se (hs.pick [(3, 3)] rfl) hk (hK_r4_7 _ _ ?_)
          refine tsst hk rfl rfl (fun K_r4_9 hK_r4_9 w hF => ?_) wt_stop
          have hs := hs.f hF
          refine sc rfl en134 hk rfl rfl rfl (spec_l00Src_next_t _ b0_ (⟨x0.code, y_r4_5_1.2.1, y_r4_5_1.2.2⟩ : S_l00Src) A0_0 p0_0 _ v0_0 (hs.hasD (k := 2) rfl) 14 ((hs.hand [(1, 1)] rfl).dpick [(2, 2)] rfl) _ h_r4_9_2) ?_
          rintro _ w ⟨rfl, hG⟩ a hk
          have hs := hs.back [(1, 1)] rfl hG [1] rfl
          refine se (hs.pick [(3, 3)] rfl) hk (hK_r4_9 _ _ ?_)
          refine tsst hk rfl rfl (fun K_r4_10 hK_r4_10 w hF => ?_) wt_stop
          have hs := hs.f hF
          refine sv (.int .i64 (w64 (1 + y_r4_9_1.1))) hk rfl rfl rfl fun a hk => ?_
          refine se (hs.pick [(3, 3)] rfl) hk (hK_r4_10 _ _ ?_)
          refine tsst hk rfl rfl (fun K_r4_11 hK_r4_11 w hF => ?_) wt_stop
          have hs := hs.f hF
          refine sbd (pv := [(0, (.int .i64 (([2, 2, (w64 (1 + y_r4_1_1.1))]).getD (y_r4_5_1.1).toNat 0))), (1, (.int .i64 (w64 (1 + y_r4_9_1.1))))]) rfl hk rfl rfl rfl (bd31_9 (([2, 2, (w64 (1 + y_r4_1_1.1))]).getD (y_r4_5_1.1).toNat 0) (w64 (1 + y_r4_9_1.1))) fun a hk => ?_
          refine se (hs.pick [(3, 3)] rfl) hk (hK_r4_11 _ _ ?_)
          refine tlst hk rfl rfl fun K_r4_13 hK_r4_13 w hF => ?_
          have hs := hs.f hF
          refine ssw 104241 hs rfl rfl hk rfl rfl rfl rfl sz31 (by simp [Value.oneCell']) rfl fun w a hk hs => ?_
          refine se trivial hk (hK_r4_13 _ _ fun w hF => ?_)
          have hs := hs.f hF
          show R5 _ _
          rw [hR5]
          exact ⟨b_r4_12_1, (hk.c 0 rfl (hk.c 2 rfl (hk.c 3 rfl hk.k))), (hs.pick [(1, 1), (3, 3), (104241, 104241)] rfl)⟩
        refine tsst hk rfl rfl (fun K_r4_9 hK_r4_9 w hF => ?_) wt_stop
        have hs := hs.f hF
        refine sc rfl en134 hk rfl rfl rfl (spec_l00Src_next_t _ b0_ (⟨x0.code, y_r4_5_1.2.1, y_r4_5_1.2.2⟩ : S_l00Src) A0_0 p0_0 _ v0_0 (hs.hasD (k := 2) rfl) 14 ((hs.hand [(1, 1)] rfl).dpick [(2, 2)] rfl) _ h_r4_9_2) ?_
        rintro _ w ⟨rfl, hG⟩ a hk
        have hs := hs.back [(1, 1)] rfl hG [1] rfl
        refine se (hs.pick [(3, 3)] rfl) hk (hK_r4_9 _ _ ?_)
        refine tqst (.int .i64 (w64 (1 + y_r4_9_1.1))) hk rfl rfl rfl rfl (fun w hs => sv (.int .i64 (w64 (1 + y_r4_9_1.1))) hk rfl rfl rfl fun a hk => qe hk) fun a hk => ?_
        refine tsst hk rfl rfl (fun K_r4_7 hK_r4_7 w hF => ?_) wt_stop
        have hs := hs.f hF
        obtain ⟨_, rfl, e_r4_7_1⟩ := (o_r4_3_3.view).at_ 0 y_r4_5_1.1 c_r4_6_1.1 c_r4_6_1.2
        refine sl (v := (.int .i64 (([2, 2, (w64 (1 + y_r4_1_1.1))]).getD (y_r4_5_1.1).toNat 0))) rfl hk rfl rfl rfl ag3 ((e_r4_7_1 0 _ rfl).cell (hs.hasG (k := 104061) rfl)) fun a hk => ?_
        refine se (hs.pick [(3, 3)] rfl) hk (hK_r4_7 _ _ ?_)
        refine tsst hk rfl rfl (fun K_r4_11 hK_r4_11 w hF => ?_) wt_stop
        have hs := hs.f hF
        refine sbd (pv := [(0, (.int .i64 (([2, 2, (w64 (1 + y_r4_1_1.1))]).getD (y_r4_5_1.1).toNat 0))), (1, (.int .i64 (w64 (1 + y_r4_9_1.1))))]) rfl hk rfl rfl rfl (bd31_9 (([2, 2, (w64 (1 + y_r4_1_1.1))]).getD (y_r4_5_1.1).toNat 0) (w64 (1 + y_r4_9_1.1))) fun a hk => ?_
        refine se (hs.pick [(3, 3)] rfl) hk (hK_r4_11 _ _ ?_)
        refine tlst hk rfl rfl fun K_r4_13 hK_r4_13 w hF => ?_
        have hs := hs.f hF
        refine ssw 104241 hs rfl rfl hk rfl rfl rfl rfl sz31 (by simp [Value.oneCell']) rfl fun w a hk hs => ?_
        refine se trivial hk (hK_r4_13 _ _ fun w hF => ?_)
        have hs := hs.f hF
        show R5 _ _
        rw [hR5]
        exact ⟨b_r4_12_1, (hk.c 0 rfl (hk.c 2 rfl (hk.c 3 rfl hk.k))), (hs.pick [(1, 1), (3, 3), (104241, 104241)] rfl)⟩
      refine tsst hk rfl rfl (fun K_r4_5 hK_r4_5 w hF => ?_) ?_
      · skip
        have hs := hs.f hF
        refine sc rfl en134 hk rfl rfl rfl (spec_l00Src_next_t _ b0_ (⟨x0.code, y_r4_1_1.2.1, y_r4_1_1.2.2⟩ : S_l00Src) A0_0 p0_0 _ v0_0 (hs.hasD (k := 2) rfl) 3 ((hs.hand [(1, 1)] rfl).dpick [(2, 2)] rfl) _ h_r4_5_2) ?_
        rintro _ w ⟨rfl, hG⟩ a hk
        have hs := hs.back [(1, 1)] rfl hG [1] rfl
        refine se (hs.pick [(3, 3)] rfl) hk (hK_r4_5 _ _ ?_)
        refine tsst hk rfl rfl (fun K_r4_3 hK_r4_3 w hF => ?_) ?_
        · skip
          have hs := hs.f hF
          refine sbs (L := (Lay.int .i64)) (pv := [(0, (.int .i64 2)), (1, (.int .i64 2)), (2, (.int .i64 (w64 (1 + y_r4_1_1.1))))]) (xs := [2, 2, (w64 (1 + y_r4_1_1.1))]) (ess := [[.int .i64 2], [.int .i64 2], [.int .i64 (w64 (1 + y_r4_1_1.1))]]) 104061 hs rfl hk rfl rfl rfl un27 (bs3_8 2 2 (w64 (1 + y_r4_1_1.1))) (AllOwn.cons0 ⟨rfl, rfl⟩ (AllOwn.cons0 ⟨rfl, rfl⟩ (AllOwn.cons0 ⟨rfl, rfl⟩ AllOwn.nil))) rfl rfl rfl fun b_r4_3_1 k_r4_3_2 w a hk o_r4_3_3 hs => ?_
          refine se (hs.pick [(3, 3)] rfl) hk (hK_r4_3 _ _ ?_)
          obtain ⟨b_r4_6_2, q_r4_6_3, hAc_r4_6_1⟩ := (o_r4_3_3.view).some_ y_r4_5_1.1 c_r4_6_1.1 c_r4_6_1.2
          refine tqst (.pointer (some (padd (some ⟨b_r4_3_1, 0, none⟩) ((y_r4_5_1.1).toNat * 1)))) hk rfl rfl rfl rfl (fun w hs => si rfl hk rfl rfl rfl rfl un27 sz3 c_r4_6_1.1 c_r4_6_1.2 hAc_r4_6_1 fun a hk => qe hk) fun a hk => ?_
          refine tsst hk rfl rfl (fun K_r4_7 hK_r4_7 w hF => ?_) ?_
          · skip
            have hs := hs.f hF
            obtain ⟨_, rfl, e_r4_7_1⟩ := (o_r4_3_3.view).at_ 0 y_r4_5_1.1 c_r4_6_1.1 c_r4_6_1.2
            refine sl (v := (.int .i64 (([2, 2, (w64 (1 + y_r4_1_1.1))]).getD (y_r4_5_1.1).toNat 0))) rfl hk rfl rfl rfl ag3 ((e_r4_7_1 0 _ rfl).cell (hs.hasG (k := 104061) rfl)) fun a hk => ?_
            refine se (hs.pick [(3, 3)] rfl) hk (hK_r4_7 _ _ ?_)
            refine tsst hk rfl rfl (fun K_r4_9 hK_r4_9 w hF => ?_) ?_
            · skip
              have hs := hs.f hF
              refine sc rfl en134 hk rfl rfl rfl (spec_l00Src_next_t _ b0_ (⟨x0.code, y_r4_5_1.2.1, y_r4_5_1.2.2⟩ : S_l00Src) A0_0 p0_0 _ v0_0 (hs.hasD (k := 2) rfl) 14 ((hs.hand [(1, 1)] rfl).dpick [(2, 2)] rfl) _ h_r4_9_2) ?_
              rintro _ w ⟨rfl, hG⟩ a hk
              have hs := hs.back [(1, 1)] rfl hG [1] rfl
              refine se (hs.pick [(3, 3)] rfl) hk (hK_r4_9 _ _ ?_)
              refine tqst (.int .i64 (w64 (1 + y_r4_9_1.1))) hk rfl rfl rfl rfl (fun w hs => sv (.int .i64 (w64 (1 + y_r4_9_1.1))) hk rfl rfl rfl fun a hk => qe hk) fun a hk => ?_
              refine tsst hk rfl rfl (fun K_r4_11 hK_r4_11 w hF => ?_) ?_
              · skip
                have hs := hs.f hF
                refine sbd (pv := [(0, (.int .i64 (([2, 2, (w64 (1 + y_r4_1_1.1))]).getD (y_r4_5_1.1).toNat 0))), (1, (.int .i64 (w64 (1 + y_r4_9_1.1))))]) rfl hk rfl rfl rfl (bd31_9 (([2, 2, (w64 (1 + y_r4_1_1.1))]).getD (y_r4_5_1.1).toNat 0) (w64 (1 + y_r4_9_1.1))) fun a hk => ?_
                refine se (hs.pick [(3, 3)] rfl) hk (hK_r4_11 _ _ ?_)
                refine tsst hk rfl rfl (fun K_r4_12 hK_r4_12 w hF => ?_) wt_stop
                have hs := hs.f hF
                refine salx 104241 hs rfl hk rfl rfl ze31 rfl fun b_r4_12_1 w a hk hs => ?_
                refine se (hs.pick [(3, 3)] rfl) hk (hK_r4_12 _ _ ?_)
                refine tlst hk rfl rfl fun K_r4_13 hK_r4_13 w hF => ?_
                have hs := hs.f hF
                refine ssw 104241 hs rfl rfl hk rfl rfl rfl rfl sz31 (by simp [Value.oneCell']) rfl fun w a hk hs => ?_
                refine se trivial hk (hK_r4_13 _ _ fun w hF => ?_)
                have hs := hs.f hF
                show R5 _ _
                rw [hR5]
                exact ⟨b_r4_12_1, (hk.c 0 rfl (hk.c 2 rfl (hk.c 3 rfl hk.k))), (hs.pick [(1, 1), (3, 3), (104241, 104241)] rfl)⟩
              refine tsst hk rfl rfl (fun K_r4_12 hK_r4_12 w hF => ?_) wt_stop
              have hs := hs.f hF
              refine salx 104241 hs rfl hk rfl rfl ze31 rfl fun b_r4_12_1 w a hk hs => ?_
              refine se (hs.pick [(3, 3)] rfl) hk (hK_r4_12 _ _ ?_)
              refine tsst hk rfl rfl (fun K_r4_11 hK_r4_11 w hF => ?_) wt_stop
              have hs := hs.f hF
              refine sbd (pv := [(0, (.int .i64 (([2, 2, (w64 (1 + y_r4_1_1.1))]).getD (y_r4_5_1.1).toNat 0))), (1, (.int .i64 (w64 (1 + y_r4_9_1.1))))]) rfl hk rfl rfl rfl (bd31_9 (([2, 2, (w64 (1 + y_r4_1_1.1))]).getD (y_r4_5_1.1).toNat 0) (w64 (1 + y_r4_9_1.1))) fun a hk => ?_
              refine se (hs.pick [(3, 3)] rfl) hk (hK_r4_11 _ _ ?_)
              refine tlst hk rfl rfl fun K_r4_13 hK_r4_13 w hF => ?_
              have hs := hs.f hF
              refine ssw 104241 hs rfl rfl hk rfl rfl rfl rfl sz31 (by simp [Value.oneCell']) rfl fun w a hk hs => ?_
              refine se trivial hk (hK_r4_13 _ _ fun w hF => ?_)
              have hs := hs.f hF
              show R5 _ _
              rw [hR5]
              exact ⟨b_r4_12_1, (hk.c 0 rfl (hk.c 2 rfl (hk.c 3 rfl hk.k))), (hs.pick [(1, 1), (3, 3), (104241, 104241)] rfl)⟩
            refine tsst hk rfl rfl (fun K_r4_12 hK_r4_12 w hF => ?_) wt_stop
            have hs := hs.f hF
            refine salx 104241 hs rfl hk rfl rfl ze31 rfl fun b_r4_12_1 w a hk hs => ?_
            refine se (hs.pick [(3, 3)] rfl) hk (hK_r4_12 _ _ ?_)
            refine tsst hk rfl rfl (fun K_r4_9 hK_r4_9 w hF => ?_) wt_stop
            have hs := hs.f hF
            refine sc rfl en134 hk rfl rfl rfl (spec_l00Src_next_t _ b0_ (⟨x0.code, y_r4_5_1.2.1, y_r4_5_1.2.2⟩ : S_l00Src) A0_0 p0_0 _ v0_0 (hs.hasD (k := 2) rfl) 14 ((hs.hand [(1, 1)] rfl).dpick [(2, 2)] rfl) _ h_r4_9_2) ?_
            rintro _ w ⟨rfl, hG⟩ a hk
            have hs := hs.back [(1, 1)] rfl hG [1] rfl
            refine se (hs.pick [(3, 3)] rfl) hk (hK_r4_9 _ _ ?_)
            refine tsst hk rfl rfl (fun K_r4_10 hK_r4_10 w hF => ?_) wt_stop
            have hs := hs.f hF
            refine sv (.int .i64 (w64 (1 + y_r4_9_1.1))) hk rfl rfl rfl fun a hk => ?_
            refine se (hs.pick [(3, 3)] rfl) hk (hK_r4_10 _ _ ?_)
            refine tsst hk rfl rfl (fun K_r4_11 hK_r4_11 w hF => ?_) wt_stop
            have hs := hs.f hF
            refine sbd (pv := [(0, (.int .i64 (([2, 2, (w64 (1 + y_r4_1_1.1))]).getD (y_r4_5_1.1).toNat 0))), (1, (.int .i64 (w64 (1 + y_r4_9_1.1))))]) rfl hk rfl rfl rfl (bd31_9 (([2, 2, (w64 (1 + y_r4_1_1.1))]).getD (y_r4_5_1.1).toNat 0) (w64 (1 + y_r4_9_1.1))) fun a hk => ?_
            refine se (hs.pick [(3, 3)] rfl) hk (hK_r4_11 _ _ ?_)
            refine tlst hk rfl rfl fun K_r4_13 hK_r4_13 w hF => ?_
            have hs := hs.f hF
            refine ssw 104241 hs rfl rfl hk rfl rfl rfl rfl sz31 (by simp [Value.oneCell']) rfl fun w a hk hs => ?_
            refine se trivial hk (hK_r4_13 _ _ fun w hF => ?_)
            have hs := hs.f hF
            show R5 _ _
            rw [hR5]
            exact ⟨b_r4_12_1, (hk.c 0 rfl (hk.c 2 rfl (hk.c 3 rfl hk.k))), (hs.pick [(1, 1), (3, 3), (104241, 104241)] rfl)⟩
          refine tsst hk rfl rfl (fun K_r4_9 hK_r4_9 w hF => ?_) ?_
          · skip
            have hs := hs.f hF
            refine sc rfl en134 hk rfl rfl rfl (spec_l00Src_next_t _ b0_ (⟨x0.code, y_r4_5_1.2.1, y_r4_5_1.2.2⟩ : S_l00Src) A0_0 p0_0 _ v0_0 (hs.hasD (k := 2) rfl) 14 ((hs.hand [(1, 1)] rfl).dpick [(2, 2)] rfl) _ h_r4_9_2) ?_
            rintro _ w ⟨rfl, hG⟩ a hk
            have hs := hs.back [(1, 1)] rfl hG [1] rfl
            refine se (hs.pick [(3, 3)] rfl) hk (hK_r4_9 _ _ ?_)
            refine tqst (.int .i64 (w64 (1 + y_r4_9_1.1))) hk rfl rfl rfl rfl (fun w hs => sv (.int .i64 (w64 (1 + y_r4_9_1.1))) hk rfl rfl rfl fun a hk => qe hk) fun a hk => ?_
            refine tsst hk rfl rfl (fun K_r4_7 hK_r4_7 w hF => ?_) ?_
            · skip
              have hs := hs.f hF
              obtain ⟨_, rfl, e_r4_7_1⟩ := (o_r4_3_3.view).at_ 0 y_r4_5_1.1 c_r4_6_1.1 c_r4_6_1.2
              refine sl (v := (.int .i64 (([2, 2, (w64 (1 + y_r4_1_1.1))]).getD (y_r4_5_1.1).toNat 0))) rfl hk rfl rfl rfl ag3 ((e_r4_7_1 0 _ rfl).cell (hs.hasG (k := 104061) rfl)) fun a hk => ?_
              refine se (hs.pick [(3, 3)] rfl) hk (hK_r4_7 _ _ ?_)
              refine tsst hk rfl rfl (fun K_r4_11 hK_r4_11 w hF => ?_) ?_
              · skip
                have hs := hs.f hF
                refine sbd (pv := [(0, (.int .i64 (([2, 2, (w64 (1 + y_r4_1_1.1))]).getD (y_r4_5_1.1).toNat 0))), (1, (.int .i64 (w64 (1 + y_r4_9_1.1))))]) rfl hk rfl rfl rfl (bd31_9 (([2, 2, (w64 (1 + y_r4_1_1.1))]).getD (y_r4_5_1.1).toNat 0) (w64 (1 + y_r4_9_1.1))) fun a hk => ?_
                refine se (hs.pick [(3, 3)] rfl) hk (hK_r4_11 _ _ ?_)
                refine tsst hk rfl rfl (fun K_r4_12 hK_r4_12 w hF => ?_) wt_stop
                have hs := hs.f hF
                refine salx 104241 hs rfl hk rfl rfl ze31 rfl fun b_r4_12_1 w a hk hs => ?_
                refine se (hs.pick [(3, 3)] rfl) hk (hK_r4_12 _ _ ?_)
                refine tlst hk rfl rfl fun K_r4_13 hK_r4_13 w hF => ?_
                have hs := hs.f hF
                refine ssw 104241 hs rfl rfl hk rfl rfl rfl rfl sz31 (by simp [Value.oneCell']) rfl fun w a hk hs => ?_
                refine se trivial hk (hK_r4_13 _ _ fun w hF => ?_)
                have hs := hs.f hF
                show R5 _ _
                rw [hR5]
                exact ⟨b_r4_12_1, (hk.c 0 rfl (hk.c 2 rfl (hk.c 3 rfl hk.k))), (hs.pick [(1, 1), (3, 3), (104241, 104241)] rfl)⟩
              refine tsst hk rfl rfl (fun K_r4_12 hK_r4_12 w hF => ?_) wt_stop
              have hs := hs.f hF
              refine salx 104241 hs rfl hk rfl rfl ze31 rfl fun b_r4_12_1 w a hk hs => ?_
              refine se (hs.pick [(3, 3)] rfl) hk (hK_r4_12 _ _ ?_)
              refine tsst hk rfl rfl (fun K_r4_11 hK_r4_11 w hF => ?_) wt_stop
              have hs := hs.f hF
              refine sbd (pv := [(0, (.int .i64 (([2, 2, (w64 (1 + y_r4_1_1.1))]).getD (y_r4_5_1.1).toNat 0))), (1, (.int .i64 (w64 (1 + y_r4_9_1.1))))]) rfl hk rfl rfl rfl (bd31_9 (([2, 2, (w64 (1 + y_r4_1_1.1))]).getD (y_r4_5_1.1).toNat 0) (w64 (1 + y_r4_9_1.1))) fun a hk => ?_
              refine se (hs.pick [(3, 3)] rfl) hk (hK_r4_11 _ _ ?_)
              refine tlst hk rfl rfl fun K_r4_13 hK_r4_13 w hF => ?_
              have hs := hs.f hF
              refine ssw 104241 hs rfl rfl hk rfl rfl rfl rfl sz31 (by simp [Value.oneCell']) rfl fun w a hk hs => ?_
              refine se trivial hk (hK_r4_13 _ _ fun w hF => ?_)
              have hs := hs.f hF
              show R5 _ _
              rw [hR5]
              exact ⟨b_r4_12_1, (hk.c 0 rfl (hk.c 2 rfl (hk.c 3 rfl hk.k))), (hs.pick [(1, 1), (3, 3), (104241, 104241)] rfl)⟩
            refine tsst hk rfl rfl (fun K_r4_12 hK_r4_12 w hF => ?_) wt_stop
            have hs := hs.f hF
            refine salx 104241 hs rfl hk rfl rfl ze31 rfl fun b_r4_12_1 w a hk hs => ?_
            refine se (hs.pick [(3, 3)] rfl) hk (hK_r4_12 _ _ ?_)
            refine tsst hk rfl rfl (fun K_r4_7 hK_r4_7 w hF => ?_) wt_stop
            have hs := hs.f hF
            obtain ⟨_, rfl, e_r4_7_1⟩ := (o_r4_3_3.view).at_ 0 y_r4_5_1.1 c_r4_6_1.1 c_r4_6_1.2
            refine sl (v := (.int .i64 (([2, 2, (w64 (1 + y_r4_1_1.1))]).getD (y_r4_5_1.1).toNat 0))) rfl hk rfl rfl rfl ag3 ((e_r4_7_1 0 _ rfl).cell (hs.hasG (k := 104061) rfl)) fun a hk => ?_
            refine se (hs.pick [(3, 3)] rfl) hk (hK_r4_7 _ _ ?_)
            refine tsst hk rfl rfl (fun K_r4_11 hK_r4_11 w hF => ?_) wt_stop
            have hs := hs.f hF
            refine sbd (pv := [(0, (.int .i64 (([2, 2, (w64 (1 + y_r4_1_1.1))]).getD (y_r4_5_1.1).toNat 0))), (1, (.int .i64 (w64 (1 + y_r4_9_1.1))))]) rfl hk rfl rfl rfl (bd31_9 (([2, 2, (w64 (1 + y_r4_1_1.1))]).getD (y_r4_5_1.1).toNat 0) (w64 (1 + y_r4_9_1.1))) fun a hk => ?_
            refine se (hs.pick [(3, 3)] rfl) hk (hK_r4_11 _ _ ?_)
            refine tlst hk rfl rfl fun K_r4_13 hK_r4_13 w hF => ?_
            have hs := hs.f hF
            refine ssw 104241 hs rfl rfl hk rfl rfl rfl rfl sz31 (by simp [Value.oneCell']) rfl fun w a hk hs => ?_
            refine se trivial hk (hK_r4_13 _ _ fun w hF => ?_)
            have hs := hs.f hF
            show R5 _ _
            rw [hR5]
            exact ⟨b_r4_12_1, (hk.c 0 rfl (hk.c 2 rfl (hk.c 3 rfl hk.k))), (hs.pick [(1, 1), (3, 3), (104241, 104241)] rfl)⟩
          refine tsst hk rfl rfl (fun K_r4_12 hK_r4_12 w hF => ?_) wt_stop
          have hs := hs.f hF
          refine salx 104241 hs rfl hk rfl rfl ze31 rfl fun b_r4_12_1 w a hk hs => ?_
          refine se (hs.pick [(3, 3)] rfl) hk (hK_r4_12 _ _ ?_)
          refine tsst hk rfl rfl (fun K_r4_7 hK_r4_7 w hF => ?_) ?_
          · skip
            have hs := hs.f hF
            obtain ⟨_, rfl, e_r4_7_1⟩ := (o_r4_3_3.view).at_ 0 y_r4_5_1.1 c_r4_6_1.1 c_r4_6_1.2
            refine sl (v := (.int .i64 (([2, 2, (w64 (1 + y_r4_1_1.1))]).getD (y_r4_5_1.1).toNat 0))) rfl hk rfl rfl rfl ag3 ((e_r4_7_1 0 _ rfl).cell (hs.hasG (k := 104061) rfl)) fun a hk => ?_
            refine se (hs.pick [(3, 3)] rfl) hk (hK_r4_7 _ _ ?_)
            refine tsst hk rfl rfl (fun K_r4_9 hK_r4_9 w hF => ?_) wt_stop
            have hs := hs.f hF
            refine sc rfl en134 hk rfl rfl rfl (spec_l00Src_next_t _ b0_ (⟨x0.code, y_r4_5_1.2.1, y_r4_5_1.2.2⟩ : S_l00Src) A0_0 p0_0 _ v0_0 (hs.hasD (k := 2) rfl) 14 ((hs.hand [(1, 1)] rfl).dpick [(2, 2)] rfl) _ h_r4_9_2) ?_
            rintro _ w ⟨rfl, hG⟩ a hk
            have hs := hs.back [(1, 1)] rfl hG [1] rfl
            refine se (hs.pick [(3, 3)] rfl) hk (hK_r4_9 _ _ ?_)
            refine tsst hk rfl rfl (fun K_r4_10 hK_r4_10 w hF => ?_) wt_stop
            have hs := hs.f hF
            refine sv (.int .i64 (w64 (1 + y_r4_9_1.1))) hk rfl rfl rfl fun a hk => ?_
            refine se (hs.pick [(3, 3)] rfl) hk (hK_r4_10 _ _ ?_)
            refine tsst hk rfl rfl (fun K_r4_11 hK_r4_11 w hF => ?_) wt_stop
            have hs := hs.f hF
            refine sbd (pv := [(0, (.int .i64 (([2, 2, (w64 (1 + y_r4_1_1.1))]).getD (y_r4_5_1.1).toNat 0))), (1, (.int .i64 (w64 (1 + y_r4_9_1.1))))]) rfl hk rfl rfl rfl (bd31_9 (([2, 2, (w64 (1 + y_r4_1_1.1))]).getD (y_r4_5_1.1).toNat 0) (w64 (1 + y_r4_9_1.1))) fun a hk => ?_
            refine se (hs.pick [(3, 3)] rfl) hk (hK_r4_11 _ _ ?_)
            refine tlst hk rfl rfl fun K_r4_13 hK_r4_13 w hF => ?_
            have hs := hs.f hF
            refine ssw 104241 hs rfl rfl hk rfl rfl rfl rfl sz31 (by simp [Value.oneCell']) rfl fun w a hk hs => ?_
            refine se trivial hk (hK_r4_13 _ _ fun w hF => ?_)
            have hs := hs.f hF
            show R5 _ _
            rw [hR5]
            exact ⟨b_r4_12_1, (hk.c 0 rfl (hk.c 2 rfl (hk.c 3 rfl hk.k))), (hs.pick [(1, 1), (3, 3), (104241, 104241)] rfl)⟩
          refine tsst hk rfl rfl (fun K_r4_9 hK_r4_9 w hF => ?_) wt_stop
          have hs := hs.f hF
          refine sc rfl en134 hk rfl rfl rfl (spec_l00Src_next_t _ b0_ (⟨x0.code, y_r4_5_1.2.1, y_r4_5_1.2.2⟩ : S_l00Src) A0_0 p0_0 _ v0_0 (hs.hasD (k := 2) rfl) 14 ((hs.hand [(1, 1)] rfl).dpick [(2, 2)] rfl) _ h_r4_9_2) ?_
          rintro _ w ⟨rfl, hG⟩ a hk
          have hs := hs.back [(1, 1)] rfl hG [1] rfl
          refine se (hs.pick [(3, 3)] rfl) hk (hK_r4_9 _ _ ?_)
          refine tqst (.int .i64 (w64 (1 + y_r4_9_1.1))) hk rfl rfl rfl rfl (fun w hs => sv (.int .i64 (w64 (1 + y_r4_9_1.1))) hk rfl rfl rfl fun a hk => qe hk) fun a hk => ?_
          refine tsst hk rfl rfl (fun K_r4_7 hK_r4_7 w hF => ?_) wt_stop
          have hs := hs.f hF
          obtain ⟨_, rfl, e_r4_7_1⟩ := (o_r4_3_3.view).at_ 0 y_r4_5_1.1 c_r4_6_1.1 c_r4_6_1.2
          refine sl (v := (.int .i64 (([2, 2, (w64 (1 + y_r4_1_1.1))]).getD (y_r4_5_1.1).toNat 0))) rfl hk rfl rfl rfl ag3 ((e_r4_7_1 0 _ rfl).cell (hs.hasG (k := 104061) rfl)) fun a hk => ?_
          refine se (hs.pick [(3, 3)] rfl) hk (hK_r4_7 _ _ ?_)
          refine tsst hk rfl rfl (fun K_r4_11 hK_r4_11 w hF => ?_) wt_stop
          have hs := hs.f hF
          refine sbd (pv := [(0, (.int .i64 (([2, 2, (w64 (1 + y_r4_1_1.1))]).getD (y_r4_5_1.1).toNat 0))), (1, (.int .i64 (w64 (1 + y_r4_9_1.1))))]) rfl hk rfl rfl rfl (bd31_9 (([2, 2, (w64 (1 + y_r4_1_1.1))]).getD (y_r4_5_1.1).toNat 0) (w64 (1 + y_r4_9_1.1))) fun a hk => ?_
          refine se (hs.pick [(3, 3)] rfl) hk (hK_r4_11 _ _ ?_)
          refine tlst hk rfl rfl fun K_r4_13 hK_r4_13 w hF => ?_
          have hs := hs.f hF
          refine ssw 104241 hs rfl rfl hk rfl rfl rfl rfl sz31 (by simp [Value.oneCell']) rfl fun w a hk hs => ?_
          refine se trivial hk (hK_r4_13 _ _ fun w hF => ?_)
          have hs := hs.f hF
          show R5 _ _
          rw [hR5]
          exact ⟨b_r4_12_1, (hk.c 0 rfl (hk.c 2 rfl (hk.c 3 rfl hk.k))), (hs.pick [(1, 1), (3, 3), (104241, 104241)] rfl)⟩
        refine tsst hk rfl rfl (fun K_r4_9 hK_r4_9 w hF => ?_) ?_
        · skip
          have hs := hs.f hF
          refine sc rfl en134 hk rfl rfl rfl (spec_l00Src_next_t _ b0_ (⟨x0.code, y_r4_5_1.2.1, y_r4_5_1.2.2⟩ : S_l00Src) A0_0 p0_0 _ v0_0 (hs.hasD (k := 2) rfl) 14 ((hs.hand [(1, 1)] rfl).dpick [(2, 2)] rfl) _ h_r4_9_2) ?_
          rintro _ w ⟨rfl, hG⟩ a hk
          have hs := hs.back [(1, 1)] rfl hG [1] rfl
          refine se (hs.pick [(3, 3)] rfl) hk (hK_r4_9 _ _ ?_)
          refine tqst (.int .i64 (w64 (1 + y_r4_9_1.1))) hk rfl rfl rfl rfl (fun w hs => sv (.int .i64 (w64 (1 + y_r4_9_1.1))) hk rfl rfl rfl fun a hk => qe hk) fun a hk => ?_
          refine tsst hk rfl rfl (fun K_r4_3 hK_r4_3 w hF => ?_) ?_
          · skip
            have hs := hs.f hF
            refine sbs (L := (Lay.int .i64)) (pv := [(0, (.int .i64 2)), (1, (.int .i64 2)), (2, (.int .i64 (w64 (1 + y_r4_1_1.1))))]) (xs := [2, 2, (w64 (1 + y_r4_1_1.1))]) (ess := [[.int .i64 2], [.int .i64 2], [.int .i64 (w64 (1 + y_r4_1_1.1))]]) 104061 hs rfl hk rfl rfl rfl un27 (bs3_8 2 2 (w64 (1 + y_r4_1_1.1))) (AllOwn.cons0 ⟨rfl, rfl⟩ (AllOwn.cons0 ⟨rfl, rfl⟩ (AllOwn.cons0 ⟨rfl, rfl⟩ AllOwn.nil))) rfl rfl rfl fun b_r4_3_1 k_r4_3_2 w a hk o_r4_3_3 hs => ?_
            refine se (hs.pick [(3, 3)] rfl) hk (hK_r4_3 _ _ ?_)
            obtain ⟨b_r4_6_2, q_r4_6_3, hAc_r4_6_1⟩ := (o_r4_3_3.view).some_ y_r4_5_1.1 c_r4_6_1.1 c_r4_6_1.2
            refine tqst (.pointer (some (padd (some ⟨b_r4_3_1, 0, none⟩) ((y_r4_5_1.1).toNat * 1)))) hk rfl rfl rfl rfl (fun w hs => si rfl hk rfl rfl rfl rfl un27 sz3 c_r4_6_1.1 c_r4_6_1.2 hAc_r4_6_1 fun a hk => qe hk) fun a hk => ?_
            refine tsst hk rfl rfl (fun K_r4_7 hK_r4_7 w hF => ?_) ?_
            · skip
              have hs := hs.f hF
              obtain ⟨_, rfl, e_r4_7_1⟩ := (o_r4_3_3.view).at_ 0 y_r4_5_1.1 c_r4_6_1.1 c_r4_6_1.2
              refine sl (v := (.int .i64 (([2, 2, (w64 (1 + y_r4_1_1.1))]).getD (y_r4_5_1.1).toNat 0))) rfl hk rfl rfl rfl ag3 ((e_r4_7_1 0 _ rfl).cell (hs.hasG (k := 104061) rfl)) fun a hk => ?_
              refine se (hs.pick [(3, 3)] rfl) hk (hK_r4_7 _ _ ?_)
              refine tsst hk rfl rfl (fun K_r4_11 hK_r4_11 w hF => ?_) ?_
              · skip
                have hs := hs.f hF
                refine sbd (pv := [(0, (.int .i64 (([2, 2, (w64 (1 + y_r4_1_1.1))]).getD (y_r4_5_1.1).toNat 0))), (1, (.int .i64 (w64 (1 + y_r4_9_1.1))))]) rfl hk rfl rfl rfl (bd31_9 (([2, 2, (w64 (1 + y_r4_1_1.1))]).getD (y_r4_5_1.1).toNat 0) (w64 (1 + y_r4_9_1.1))) fun a hk => ?_
                refine se (hs.pick [(3, 3)] rfl) hk (hK_r4_11 _ _ ?_)
                refine tsst hk rfl rfl (fun K_r4_12 hK_r4_12 w hF => ?_) wt_stop
                have hs := hs.f hF
                refine salx 104241 hs rfl hk rfl rfl ze31 rfl fun b_r4_12_1 w a hk hs => ?_
                refine se (hs.pick [(3, 3)] rfl) hk (hK_r4_12 _ _ ?_)
                refine tlst hk rfl rfl fun K_r4_13 hK_r4_13 w hF => ?_
                have hs := hs.f hF
                refine ssw 104241 hs rfl rfl hk rfl rfl rfl rfl sz31 (by simp [Value.oneCell']) rfl fun w a hk hs => ?_
                refine se trivial hk (hK_r4_13 _ _ fun w hF => ?_)
                have hs := hs.f hF
                show R5 _ _
                rw [hR5]
                exact ⟨b_r4_12_1, (hk.c 0 rfl (hk.c 2 rfl (hk.c 3 rfl hk.k))), (hs.pick [(1, 1), (3, 3), (104241, 104241)] rfl)⟩
              refine tsst hk rfl rfl (fun K_r4_12 hK_r4_12 w hF => ?_) wt_stop
              have hs := hs.f hF
              refine salx 104241 hs rfl hk rfl rfl ze31 rfl fun b_r4_12_1 w a hk hs => ?_
              refine se (hs.pick [(3, 3)] rfl) hk (hK_r4_12 _ _ ?_)
              refine tsst hk rfl rfl (fun K_r4_11 hK_r4_11 w hF => ?_) wt_stop
              have hs := hs.f hF
              refine sbd (pv := [(0, (.int .i64 (([2, 2, (w64 (1 + y_r4_1_1.1))]).getD (y_r4_5_1.1).toNat 0))), (1, (.int .i64 (w64 (1 + y_r4_9_1.1))))]) rfl hk rfl rfl rfl (bd31_9 (([2, 2, (w64 (1 + y_r4_1_1.1))]).getD (y_r4_5_1.1).toNat 0) (w64 (1 + y_r4_9_1.1))) fun a hk => ?_
              refine se (hs.pick [(3, 3)] rfl) hk (hK_r4_11 _ _ ?_)
              refine tlst hk rfl rfl fun K_r4_13 hK_r4_13 w hF => ?_
              have hs := hs.f hF
              refine ssw 104241 hs rfl rfl hk rfl rfl rfl rfl sz31 (by simp [Value.oneCell']) rfl fun w a hk hs => ?_
              refine se trivial hk (hK_r4_13 _ _ fun w hF => ?_)
              have hs := hs.f hF
              show R5 _ _
              rw [hR5]
              exact ⟨b_r4_12_1, (hk.c 0 rfl (hk.c 2 rfl (hk.c 3 rfl hk.k))), (hs.pick [(1, 1), (3, 3), (104241, 104241)] rfl)⟩
            refine tsst hk rfl rfl (fun K_r4_12 hK_r4_12 w hF => ?_) wt_stop
            have hs := hs.f hF
            refine salx 104241 hs rfl hk rfl rfl ze31 rfl fun b_r4_12_1 w a hk hs => ?_
            refine se (hs.pick [(3, 3)] rfl) hk (hK_r4_12 _ _ ?_)
            refine tsst hk rfl rfl (fun K_r4_7 hK_r4_7 w hF => ?_) wt_stop
            have hs := hs.f hF
            obtain ⟨_, rfl, e_r4_7_1⟩ := (o_r4_3_3.view).at_ 0 y_r4_5_1.1 c_r4_6_1.1 c_r4_6_1.2
            refine sl (v := (.int .i64 (([2, 2, (w64 (1 + y_r4_1_1.1))]).getD (y_r4_5_1.1).toNat 0))) rfl hk rfl rfl rfl ag3 ((e_r4_7_1 0 _ rfl).cell (hs.hasG (k := 104061) rfl)) fun a hk => ?_
            refine se (hs.pick [(3, 3)] rfl) hk (hK_r4_7 _ _ ?_)
            refine tsst hk rfl rfl (fun K_r4_11 hK_r4_11 w hF => ?_) wt_stop
            have hs := hs.f hF
            refine sbd (pv := [(0, (.int .i64 (([2, 2, (w64 (1 + y_r4_1_1.1))]).getD (y_r4_5_1.1).toNat 0))), (1, (.int .i64 (w64 (1 + y_r4_9_1.1))))]) rfl hk rfl rfl rfl (bd31_9 (([2, 2, (w64 (1 + y_r4_1_1.1))]).getD (y_r4_5_1.1).toNat 0) (w64 (1 + y_r4_9_1.1))) fun a hk => ?_
            refine se (hs.pick [(3, 3)] rfl) hk (hK_r4_11 _ _ ?_)
            refine tlst hk rfl rfl fun K_r4_13 hK_r4_13 w hF => ?_
            have hs := hs.f hF
            refine ssw 104241 hs rfl rfl hk rfl rfl rfl rfl sz31 (by simp [Value.oneCell']) rfl fun w a hk hs => ?_
            refine se trivial hk (hK_r4_13 _ _ fun w hF => ?_)
            have hs := hs.f hF
            show R5 _ _
            rw [hR5]
            exact ⟨b_r4_12_1, (hk.c 0 rfl (hk.c 2 rfl (hk.c 3 rfl hk.k))), (hs.pick [(1, 1), (3, 3), (104241, 104241)] rfl)⟩
          refine tsst hk rfl rfl (fun K_r4_12 hK_r4_12 w hF => ?_) wt_stop
          have hs := hs.f hF
          refine salx 104241 hs rfl hk rfl rfl ze31 rfl fun b_r4_12_1 w a hk hs => ?_
          refine se (hs.pick [(3, 3)] rfl) hk (hK_r4_12 _ _ ?_)
          refine tsst hk rfl rfl (fun K_r4_3 hK_r4_3 w hF => ?_) wt_stop
          have hs := hs.f hF
          refine sbs (L := (Lay.int .i64)) (pv := [(0, (.int .i64 2)), (1, (.int .i64 2)), (2, (.int .i64 (w64 (1 + y_r4_1_1.1))))]) (xs := [2, 2, (w64 (1 + y_r4_1_1.1))]) (ess := [[.int .i64 2], [.int .i64 2], [.int .i64 (w64 (1 + y_r4_1_1.1))]]) 104061 hs rfl hk rfl rfl rfl un27 (bs3_8 2 2 (w64 (1 + y_r4_1_1.1))) (AllOwn.cons0 ⟨rfl, rfl⟩ (AllOwn.cons0 ⟨rfl, rfl⟩ (AllOwn.cons0 ⟨rfl, rfl⟩ AllOwn.nil))) rfl rfl rfl fun b_r4_3_1 k_r4_3_2 w a hk o_r4_3_3 hs => ?_
          refine se (hs.pick [(3, 3)] rfl) hk (hK_r4_3 _ _ ?_)
          refine tsst hk rfl rfl (fun K_r4_6 hK_r4_6 w hF => ?_) wt_stop
          have hs := hs.f hF
          obtain ⟨b_r4_6_2, q_r4_6_3, hAc_r4_6_1⟩ := (o_r4_3_3.view).some_ y_r4_5_1.1 c_r4_6_1.1 c_r4_6_1.2
          refine si rfl hk rfl rfl rfl rfl un27 sz3 c_r4_6_1.1 c_r4_6_1.2 hAc_r4_6_1 fun a hk => ?_
          refine se (hs.pick [(3, 3)] rfl) hk (hK_r4_6 _ _ ?_)
          refine tsst hk rfl rfl (fun K_r4_7 hK_r4_7 w hF => ?_) wt_stop
          have hs := hs.f hF
          obtain ⟨_, rfl, e_r4_7_1⟩ := (o_r4_3_3.view).at_ 0 y_r4_5_1.1 c_r4_6_1.1 c_r4_6_1.2
          refine sl (v := (.int .i64 (([2, 2, (w64 (1 + y_r4_1_1.1))]).getD (y_r4_5_1.1).toNat 0))) rfl hk rfl rfl rfl ag3 ((e_r4_7_1 0 _ rfl).cell (hs.hasG (k := 104061) rfl)) fun a hk => ?_
          refine se (hs.pick [(3, 3)] rfl) hk (hK_r4_7 _ _ ?_)
          refine tsst hk rfl rfl (fun K_r4_11 hK_r4_11 w hF => ?_) wt_stop
          have hs := hs.f hF
          refine sbd (pv := [(0, (.int .i64 (([2, 2, (w64 (1 + y_r4_1_1.1))]).getD (y_r4_5_1.1).toNat 0))), (1, (.int .i64 (w64 (1 + y_r4_9_1.1))))]) rfl hk rfl rfl rfl (bd31_9 (([2, 2, (w64 (1 + y_r4_1_1.1))]).getD (y_r4_5_1.1).toNat 0) (w64 (1 + y_r4_9_1.1))) fun a hk => ?_
          refine se (hs.pick [(3, 3)] rfl) hk (hK_r4_11 _ _ ?_)
          refine tlst hk rfl rfl fun K_r4_13 hK_r4_13 w hF => ?_
          have hs := hs.f hF
          refine ssw 104241 hs rfl rfl hk rfl rfl rfl rfl sz31 (by simp [Value.oneCell']) rfl fun w a hk hs => ?_
          refine se trivial hk (hK_r4_13 _ _ fun w hF => ?_)
          have hs := hs.f hF
          show R5 _ _
          rw [hR5]
          exact ⟨b_r4_12_1, (hk.c 0 rfl (hk.c 2 rfl (hk.c 3 rfl hk.k))), (hs.pick [(1, 1), (3, 3), (104241, 104241)] rfl)⟩
        refine tsst hk rfl rfl (fun K_r4_12 hK_r4_12 w hF => ?_) wt_stop
        have hs := hs.f hF
        refine salx 104241 hs rfl hk rfl rfl ze31 rfl fun b_r4_12_1 w a hk hs => ?_
        refine se (hs.pick [(3, 3)] rfl) hk (hK_r4_12 _ _ ?_)
        refine tsst hk rfl rfl (fun K_r4_3 hK_r4_3 w hF => ?_) ?_
        · skip
          have hs := hs.f hF
          refine sbs (L := (Lay.int .i64)) (pv := [(0, (.int .i64 2)), (1, (.int .i64 2)), (2, (.int .i64 (w64 (1 + y_r4_1_1.1))))]) (xs := [2, 2, (w64 (1 + y_r4_1_1.1))]) (ess := [[.int .i64 2], [.int .i64 2], [.int .i64 (w64 (1 + y_r4_1_1.1))]]) 104061 hs rfl hk rfl rfl rfl un27 (bs3_8 2 2 (w64 (1 + y_r4_1_1.1))) (AllOwn.cons0 ⟨rfl, rfl⟩ (AllOwn.cons0 ⟨rfl, rfl⟩ (AllOwn.cons0 ⟨rfl, rfl⟩ AllOwn.nil))) rfl rfl rfl fun b_r4_3_1 k_r4_3_2 w a hk o_r4_3_3 hs => ?_
          refine se (hs.pick [(3, 3)] rfl) hk (hK_r4_3 _ _ ?_)
          obtain ⟨b_r4_6_2, q_r4_6_3, hAc_r4_6_1⟩ := (o_r4_3_3.view).some_ y_r4_5_1.1 c_r4_6_1.1 c_r4_6_1.2
          refine tqst (.pointer (some (padd (some ⟨b_r4_3_1, 0, none⟩) ((y_r4_5_1.1).toNat * 1)))) hk rfl rfl rfl rfl (fun w hs => si rfl hk rfl rfl rfl rfl un27 sz3 c_r4_6_1.1 c_r4_6_1.2 hAc_r4_6_1 fun a hk => qe hk) fun a hk => ?_
          refine tsst hk rfl rfl (fun K_r4_7 hK_r4_7 w hF => ?_) ?_
          · skip
            have hs := hs.f hF
            obtain ⟨_, rfl, e_r4_7_1⟩ := (o_r4_3_3.view).at_ 0 y_r4_5_1.1 c_r4_6_1.1 c_r4_6_1.2
            refine sl (v := (.int .i64 (([2, 2, (w64 (1 + y_r4_1_1.1))]).getD (y_r4_5_1.1).toNat 0))) rfl hk rfl rfl rfl ag3 ((e_r4_7_1 0 _ rfl).cell (hs.hasG (k := 104061) rfl)) fun a hk => ?_
            refine se (hs.pick [(3, 3)] rfl) hk (hK_r4_7 _ _ ?_)
            refine tsst hk rfl rfl (fun K_r4_9 hK_r4_9 w hF => ?_) wt_stop
            have hs := hs.f hF
            refine sc rfl en134 hk rfl rfl rfl (spec_l00Src_next_t _ b0_ (⟨x0.code, y_r4_5_1.2.1, y_r4_5_1.2.2⟩ : S_l00Src) A0_0 p0_0 _ v0_0 (hs.hasD (k := 2) rfl) 14 ((hs.hand [(1, 1)] rfl).dpick [(2, 2)] rfl) _ h_r4_9_2) ?_
            rintro _ w ⟨rfl, hG⟩ a hk
            have hs := hs.back [(1, 1)] rfl hG [1] rfl
            refine se (hs.pick [(3, 3)] rfl) hk (hK_r4_9 _ _ ?_)
            refine tsst hk rfl rfl (fun K_r4_10 hK_r4_10 w hF => ?_) wt_stop
            have hs := hs.f hF
            refine sv (.int .i64 (w64 (1 + y_r4_9_1.1))) hk rfl rfl rfl fun a hk => ?_
            refine se (hs.pick [(3, 3)] rfl) hk (hK_r4_10 _ _ ?_)
            refine tsst hk rfl rfl (fun K_r4_11 hK_r4_11 w hF => ?_) wt_stop
            have hs := hs.f hF
            refine sbd (pv := [(0, (.int .i64 (([2, 2, (w64 (1 + y_r4_1_1.1))]).getD (y_r4_5_1.1).toNat 0))), (1, (.int .i64 (w64 (1 + y_r4_9_1.1))))]) rfl hk rfl rfl rfl (bd31_9 (([2, 2, (w64 (1 + y_r4_1_1.1))]).getD (y_r4_5_1.1).toNat 0) (w64 (1 + y_r4_9_1.1))) fun a hk => ?_
            refine se (hs.pick [(3, 3)] rfl) hk (hK_r4_11 _ _ ?_)
            refine tlst hk rfl rfl fun K_r4_13 hK_r4_13 w hF => ?_
            have hs := hs.f hF
            refine ssw 104241 hs rfl rfl hk rfl rfl rfl rfl sz31 (by simp [Value.oneCell']) rfl fun w a hk hs => ?_
            refine se trivial hk (hK_r4_13 _ _ fun w hF => ?_)
            have hs := hs.f hF
            show R5 _ _
            rw [hR5]
            exact ⟨b_r4_12_1, (hk.c 0 rfl (hk.c 2 rfl (hk.c 3 rfl hk.k))), (hs.pick [(1, 1), (3, 3), (104241, 104241)] rfl)⟩
          refine tsst hk rfl rfl (fun K_r4_9 hK_r4_9 w hF => ?_) wt_stop
          have hs := hs.f hF
          refine sc rfl en134 hk rfl rfl rfl (spec_l00Src_next_t _ b0_ (⟨x0.code, y_r4_5_1.2.1, y_r4_5_1.2.2⟩ : S_l00Src) A0_0 p0_0 _ v0_0 (hs.hasD (k := 2) rfl) 14 ((hs.hand [(1, 1)] rfl).dpick [(2, 2)] rfl) _ h_r4_9_2) ?_
          rintro _ w ⟨rfl, hG⟩ a hk
          have hs := hs.back [(1, 1)] rfl hG [1] rfl
          refine se (hs.pick [(3, 3)] rfl) hk (hK_r4_9 _ _ ?_)
          refine tqst (.int .i64 (w64 (1 + y_r4_9_1.1))) hk rfl rfl rfl rfl (fun w hs => sv (.int .i64 (w64 (1 + y_r4_9_1.1))) hk rfl rfl rfl fun a hk => qe hk) fun a hk => ?_
          refine tsst hk rfl rfl (fun K_r4_7 hK_r4_7 w hF => ?_) wt_stop
          have hs := hs.f hF
          obtain ⟨_, rfl, e_r4_7_1⟩ := (o_r4_3_3.view).at_ 0 y_r4_5_1.1 c_r4_6_1.1 c_r4_6_1.2
          refine sl (v := (.int .i64 (([2, 2, (w64 (1 + y_r4_1_1.1))]).getD (y_r4_5_1.1).toNat 0))) rfl hk rfl rfl rfl ag3 ((e_r4_7_1 0 _ rfl).cell (hs.hasG (k := 104061) rfl)) fun a hk => ?_
          refine se (hs.pick [(3, 3)] rfl) hk (hK_r4_7 _ _ ?_)
          refine tsst hk rfl rfl (fun K_r4_11 hK_r4_11 w hF => ?_) wt_stop
          have hs := hs.f hF
          refine sbd (pv := [(0, (.int .i64 (([2, 2, (w64 (1 + y_r4_1_1.1))]).getD (y_r4_5_1.1).toNat 0))), (1, (.int .i64 (w64 (1 + y_r4_9_1.1))))]) rfl hk rfl rfl rfl (bd31_9 (([2, 2, (w64 (1 + y_r4_1_1.1))]).getD (y_r4_5_1.1).toNat 0) (w64 (1 + y_r4_9_1.1))) fun a hk => ?_
          refine se (hs.pick [(3, 3)] rfl) hk (hK_r4_11 _ _ ?_)
          refine tlst hk rfl rfl fun K_r4_13 hK_r4_13 w hF => ?_
          have hs := hs.f hF
          refine ssw 104241 hs rfl rfl hk rfl rfl rfl rfl sz31 (by simp [Value.oneCell']) rfl fun w a hk hs => ?_
          refine se trivial hk (hK_r4_13 _ _ fun w hF => ?_)
          have hs := hs.f hF
          show R5 _ _
          rw [hR5]
          exact ⟨b_r4_12_1, (hk.c 0 rfl (hk.c 2 rfl (hk.c 3 rfl hk.k))), (hs.pick [(1, 1), (3, 3), (104241, 104241)] rfl)⟩
        refine tsst hk rfl rfl (fun K_r4_9 hK_r4_9 w hF => ?_) wt_stop
        have hs := hs.f hF
        refine sc rfl en134 hk rfl rfl rfl (spec_l00Src_next_t _ b0_ (⟨x0.code, y_r4_5_1.2.1, y_r4_5_1.2.2⟩ : S_l00Src) A0_0 p0_0 _ v0_0 (hs.hasD (k := 2) rfl) 14 ((hs.hand [(1, 1)] rfl).dpick [(2, 2)] rfl) _ h_r4_9_2) ?_
        rintro _ w ⟨rfl, hG⟩ a hk
        have hs := hs.back [(1, 1)] rfl hG [1] rfl
        refine se (hs.pick [(3, 3)] rfl) hk (hK_r4_9 _ _ ?_)
        refine tqst (.int .i64 (w64 (1 + y_r4_9_1.1))) hk rfl rfl rfl rfl (fun w hs => sv (.int .i64 (w64 (1 + y_r4_9_1.1))) hk rfl rfl rfl fun a hk => qe hk) fun a hk => ?_
        refine tsst hk rfl rfl (fun K_r4_3 hK_r4_3 w hF => ?_) wt_stop
        have hs := hs.f hF
        refine sbs (L := (Lay.int .i64)) (pv := [(0, (.int .i64 2)), (1, (.int .i64 2)), (2, (.int .i64 (w64 (1 + y_r4_1_1.1))))]) (xs := [2, 2, (w64 (1 + y_r4_1_1.1))]) (ess := [[.int .i64 2], [.int .i64 2], [.int .i64 (w64 (1 + y_r4_1_1.1))]]) 104061 hs rfl hk rfl rfl rfl un27 (bs3_8 2 2 (w64 (1 + y_r4_1_1.1))) (AllOwn.cons0 ⟨rfl, rfl⟩ (AllOwn.cons0 ⟨rfl, rfl⟩ (AllOwn.cons0 ⟨rfl, rfl⟩ AllOwn.nil))) rfl rfl rfl fun b_r4_3_1 k_r4_3_2 w a hk o_r4_3_3 hs => ?_
        refine se (hs.pick [(3, 3)] rfl) hk (hK_r4_3 _ _ ?_)
        refine tsst hk rfl rfl (fun K_r4_6 hK_r4_6 w hF => ?_) wt_stop
        have hs := hs.f hF
        obtain ⟨b_r4_6_2, q_r4_6_3, hAc_r4_6_1⟩ := (o_r4_3_3.view).some_ y_r4_5_1.1 c_r4_6_1.1 c_r4_6_1.2
        refine si rfl hk rfl rfl rfl rfl un27 sz3 c_r4_6_1.1 c_r4_6_1.2 hAc_r4_6_1 fun a hk => ?_
        refine se (hs.pick [(3, 3)] rfl) hk (hK_r4_6 _ _ ?_)
        refine tsst hk rfl rfl (fun K_r4_7 hK_r4_7 w hF => ?_) wt_stop
        have hs := hs.f hF
        obtain ⟨_, rfl, e_r4_7_1⟩ := (o_r4_3_3.view).at_ 0 y_r4_5_1.1 c_r4_6_1.1 c_r4_6_1.2
        refine sl (v := (.int .i64 (([2, 2, (w64 (1 + y_r4_1_1.1))]).getD (y_r4_5_1.1).toNat 0))) rfl hk rfl rfl rfl ag3 ((e_r4_7_1 0 _ rfl).cell (hs.hasG (k := 104061) rfl)) fun a hk => ?_
        refine se (hs.pick [(3, 3)] rfl) hk (hK_r4_7 _ _ ?_)
        refine tsst hk rfl rfl (fun K_r4_11 hK_r4_11 w hF => ?_) wt_stop
        have hs := hs.f hF
        refine sbd (pv := [(0, (.int .i64 (([2, 2, (w64 (1 + y_r4_1_1.1))]).getD (y_r4_5_1.1).toNat 0))), (1, (.int .i64 (w64 (1 + y_r4_9_1.1))))]) rfl hk rfl rfl rfl (bd31_9 (([2, 2, (w64 (1 + y_r4_1_1.1))]).getD (y_r4_5_1.1).toNat 0) (w64 (1 + y_r4_9_1.1))) fun a hk => ?_
        refine se (hs.pick [(3, 3)] rfl) hk (hK_r4_11 _ _ ?_)
        refine tlst hk rfl rfl fun K_r4_13 hK_r4_13 w hF => ?_
        have hs := hs.f hF
        refine ssw 104241 hs rfl rfl hk rfl rfl rfl rfl sz31 (by simp [Value.oneCell']) rfl fun w a hk hs => ?_
        refine se trivial hk (hK_r4_13 _ _ fun w hF => ?_)
        have hs := hs.f hF
        show R5 _ _
        rw [hR5]
        exact ⟨b_r4_12_1, (hk.c 0 rfl (hk.c 2 rfl (hk.c 3 rfl hk.k))), (hs.pick [(1, 1), (3, 3), (104241, 104241)] rfl)⟩
      refine tsst hk rfl rfl (fun K_r4_12 hK_r4_12 w hF => ?_) wt_stop
      have hs := hs.f hF
      refine salx 104241 hs rfl hk rfl rfl ze31 rfl fun b_r4_12_1 w a hk hs => ?_
      refine se (hs.pick [(3, 3)] rfl) hk (hK_r4_12 _ _ ?_)
      refine tsst hk rfl rfl (fun K_r4_3 hK_r4_3 w hF => ?_) ?_
      · skip
        have hs := hs.f hF
        refine sbs (L := (Lay.int .i64)) (pv := [(0, (.int .i64 2)), (1, (.int .i64 2)), (2, (.int .i64 (w64 (1 + y_r4_1_1.1))))]) (xs := [2, 2, (w64 (1 + y_r4_1_1.1))]) (ess := [[.int .i64 2], [.int .i64 2], [.int .i64 (w64 (1 + y_r4_1_1.1))]]) 104061 hs rfl hk rfl rfl rfl un27 (bs3_8 2 2 (w64 (1 + y_r4_1_1.1))) (AllOwn.cons0 ⟨rfl, rfl⟩ (AllOwn.cons0 ⟨rfl, rfl⟩ (AllOwn.cons0 ⟨rfl, rfl⟩ AllOwn.nil))) rfl rfl rfl fun b_r4_3_1 k_r4_3_2 w a hk o_r4_3_3 hs => ?_
        refine se (hs.pick [(3, 3)] rfl) hk (hK_r4_3 _ _ ?_)
        refine tsst hk rfl rfl (fun K_r4_5 hK_r4_5 w hF => ?_) wt_stop
        have hs := hs.f hF
        refine sc rfl en134 hk rfl rfl rfl (spec_l00Src_next_t _ b0_ (⟨x0.code, y_r4_1_1.2.1, y_r4_1_1.2.2⟩ : S_l00Src) A0_0 p0_0 _ v0_0 (hs.hasD (k := 2) rfl) 3 ((hs.hand [(1, 1)] rfl).dpick [(2, 2)] rfl) _ h_r4_5_2) ?_
        rintro _ w ⟨rfl, hG⟩ a hk
        have hs := hs.back [(1, 1)] rfl hG [1] rfl
        refine se (hs.pick [(3, 3)] rfl) hk (hK_r4_5 _ _ ?_)
        obtain ⟨b_r4_6_2, q_r4_6_3, hAc_r4_6_1⟩ := (o_r4_3_3.view).some_ y_r4_5_1.1 c_r4_6_1.1 c_r4_6_1.2
        refine tqst (.pointer (some (padd (some ⟨b_r4_3_1, 0, none⟩) ((y_r4_5_1.1).toNat * 1)))) hk rfl rfl rfl rfl (fun w hs => si rfl hk rfl rfl rfl rfl un27 sz3 c_r4_6_1.1 c_r4_6_1.2 hAc_r4_6_1 fun a hk => qe hk) fun a hk => ?_
        refine tsst hk rfl rfl (fun K_r4_7 hK_r4_7 w hF => ?_) ?_
        · skip
          have hs := hs.f hF
          obtain ⟨_, rfl, e_r4_7_1⟩ := (o_r4_3_3.view).at_ 0 y_r4_5_1.1 c_r4_6_1.1 c_r4_6_1.2
          refine sl (v := (.int .i64 (([2, 2, (w64 (1 + y_r4_1_1.1))]).getD (y_r4_5_1.1).toNat 0))) rfl hk rfl rfl rfl ag3 ((e_r4_7_1 0 _ rfl).cell (hs.hasG (k := 104061) rfl)) fun a hk => ?_
          refine se (hs.pick [(3, 3)] rfl) hk (hK_r4_7 _ _ ?_)
          refine tsst hk rfl rfl (fun K_r4_9 hK_r4_9 w hF => ?_) wt_stop
          have hs := hs.f hF
          refine sc rfl en134 hk rfl rfl rfl (spec_l00Src_next_t _ b0_ (⟨x0.code, y_r4_5_1.2.1, y_r4_5_1.2.2⟩ : S_l00Src) A0_0 p0_0 _ v0_0 (hs.hasD (k := 2) rfl) 14 ((hs.hand [(1, 1)] rfl).dpick [(2, 2)] rfl) _ h_r4_9_2) ?_
          rintro _ w ⟨rfl, hG⟩ a hk
          have hs := hs.back [(1, 1)] rfl hG [1] rfl
          refine se (hs.pick [(3, 3)] rfl) hk (hK_r4_9 _ _ ?_)
          refine tsst hk rfl rfl (fun K_r4_10 hK_r4_10 w hF => ?_) wt_stop
          have hs := hs.f hF
          refine sv (.int .i64 (w64 (1 + y_r4_9_1.1))) hk rfl rfl rfl fun a hk => ?_
          refine se (hs.pick [(3, 3)] rfl) hk (hK_r4_10 _ _ ?_)
          refine tsst hk rfl rfl (fun K_r4_11 hK_r4_11 w hF => ?_) wt_stop
          have hs := hs.f hF
          refine sbd (pv := [(0, (.int .i64 (([2, 2, (w64 (1 + y_r4_1_1.1))]).getD (y_r4_5_1.1).toNat 0))), (1, (.int .i64 (w64 (1 + y_r4_9_1.1))))]) rfl hk rfl rfl rfl (bd31_9 (([2, 2, (w64 (1 + y_r4_1_1.1))]).getD (y_r4_5_1.1).toNat 0) (w64 (1 + y_r4_9_1.1))) fun a hk => ?_
          refine se (hs.pick [(3, 3)] rfl) hk (hK_r4_11 _ _ ?_)
          refine tlst hk rfl rfl fun K_r4_13 hK_r4_13 w hF => ?_
          have hs := hs.f hF
          refine ssw 104241 hs rfl rfl hk rfl rfl rfl rfl sz31 (by simp [Value.oneCell']) rfl fun w a hk hs => ?_
          refine se trivial hk (hK_r4_13 _ _ fun w hF => ?_)
          have hs := hs.f hF
          show R5 _ _
          rw [hR5]
          exact ⟨b_r4_12_1, (hk.c 0 rfl (hk.c 2 rfl (hk.c 3 rfl hk.k))), (hs.pick [(1, 1), (3, 3), (104241, 104241)] rfl)⟩
        refine tsst hk rfl rfl (fun K_r4_9 hK_r4_9 w hF => ?_) wt_stop
        have hs := hs.f hF
        refine sc rfl en134 hk rfl rfl rfl (spec_l00Src_next_t _ b0_ (⟨x0.code, y_r4_5_1.2.1, y_r4_5_1.2.2⟩ : S_l00Src) A0_0 p0_0 _ v0_0 (hs.hasD (k := 2) rfl) 14 ((hs.hand [(1, 1)] rfl).dpick [(2, 2)] rfl) _ h_r4_9_2) ?_
        rintro _ w ⟨rfl, hG⟩ a hk
        have hs := hs.back [(1, 1)] rfl hG [1] rfl
        refine se (hs.pick [(3, 3)] rfl) hk (hK_r4_9 _ _ ?_)
        refine tqst (.int .i64 (w64 (1 + y_r4_9_1.1))) hk rfl rfl rfl rfl (fun w hs => sv (.int .i64 (w64 (1 + y_r4_9_1.1))) hk rfl rfl rfl fun a hk => qe hk) fun a hk => ?_
        refine tsst hk rfl rfl (fun K_r4_7 hK_r4_7 w hF => ?_) wt_stop
        have hs := hs.f hF
        obtain ⟨_, rfl, e_r4_7_1⟩ := (o_r4_3_3.view).at_ 0 y_r4_5_1.1 c_r4_6_1.1 c_r4_6_1.2
        refine sl (v := (.int .i64 (([2, 2, (w64 (1 + y_r4_1_1.1))]).getD (y_r4_5_1.1).toNat 0))) rfl hk rfl rfl rfl ag3 ((e_r4_7_1 0 _ rfl).cell (hs.hasG (k := 104061) rfl)) fun a hk => ?_
        refine se (hs.pick [(3, 3)] rfl) hk (hK_r4_7 _ _ ?_)
        refine tsst hk rfl rfl (fun K_r4_11 hK_r4_11 w hF => ?_) wt_stop
        have hs := hs.f hF
        refine sbd (pv := [(0, (.int .i64 (([2, 2, (w64 (1 + y_r4_1_1.1))]).getD (y_r4_5_1.1).toNat 0))), (1, (.int .i64 (w64 (1 + y_r4_9_1.1))))]) rfl hk rfl rfl rfl (bd31_9 (([2, 2, (w64 (1 + y_r4_1_1.1))]).getD (y_r4_5_1.1).toNat 0) (w64 (1 + y_r4_9_1.1))) fun a hk => ?_
        refine se (hs.pick [(3, 3)] rfl) hk (hK_r4_11 _ _ ?_)
        refine tlst hk rfl rfl fun K_r4_13 hK_r4_13 w hF => ?_
        have hs := hs.f hF
        refine ssw 104241 hs rfl rfl hk rfl rfl rfl rfl sz31 (by simp [Value.oneCell']) rfl fun w a hk hs => ?_
        refine se trivial hk (hK_r4_13 _ _ fun w hF => ?_)
        have hs := hs.f hF
        show R5 _ _
        rw [hR5]
        exact ⟨b_r4_12_1, (hk.c 0 rfl (hk.c 2 rfl (hk.c 3 rfl hk.k))), (hs.pick [(1, 1), (3, 3), (104241, 104241)] rfl)⟩
      refine tsst hk rfl rfl (fun K_r4_5 hK_r4_5 w hF => ?_) wt_stop
      have hs := hs.f hF
      refine sc rfl en134 hk rfl rfl rfl (spec_l00Src_next_t _ b0_ (⟨x0.code, y_r4_1_1.2.1, y_r4_1_1.2.2⟩ : S_l00Src) A0_0 p0_0 _ v0_0 (hs.hasD (k := 2) rfl) 3 ((hs.hand [(1, 1)] rfl).dpick [(2, 2)] rfl) _ h_r4_5_2) ?_
      rintro _ w ⟨rfl, hG⟩ a hk
      have hs := hs.back [(1, 1)] rfl hG [1] rfl
      refine se (hs.pick [(3, 3)] rfl) hk (hK_r4_5 _ _ ?_)
      refine tsst hk rfl rfl (fun K_r4_3 hK_r4_3 w hF => ?_) ?_
      · skip
        have hs := hs.f hF
        refine sbs (L := (Lay.int .i64)) (pv := [(0, (.int .i64 2)), (1, (.int .i64 2)), (2, (.int .i64 (w64 (1 + y_r4_1_1.1))))]) (xs := [2, 2, (w64 (1 + y_r4_1_1.1))]) (ess := [[.int .i64 2], [.int .i64 2], [.int .i64 (w64 (1 + y_r4_1_1.1))]]) 104061 hs rfl hk rfl rfl rfl un27 (bs3_8 2 2 (w64 (1 + y_r4_1_1.1))) (AllOwn.cons0 ⟨rfl, rfl⟩ (AllOwn.cons0 ⟨rfl, rfl⟩ (AllOwn.cons0 ⟨rfl, rfl⟩ AllOwn.nil))) rfl rfl rfl fun b_r4_3_1 k_r4_3_2 w a hk o_r4_3_3 hs => ?_
        refine se (hs.pick [(3, 3)] rfl) hk (hK_r4_3 _ _ ?_)
        obtain ⟨b_r4_6_2, q_r4_6_3, hAc_r4_6_1⟩ := (o_r4_3_3.view).some_ y_r4_5_1.1 c_r4_6_1.1 c_r4_6_1.2
        refine tqst (.pointer (some (padd (some ⟨b_r4_3_1, 0, none⟩) ((y_r4_5_1.1).toNat * 1)))) hk rfl rfl rfl rfl (fun w hs => si rfl hk rfl rfl rfl rfl un27 sz3 c_r4_6_1.1 c_r4_6_1.2 hAc_r4_6_1 fun a hk => qe hk) fun a hk => ?_
        refine tsst hk rfl rfl (fun K_r4_7 hK_r4_7 w hF => ?_) ?_
        · skip
          have hs := hs.f hF
          obtain ⟨_, rfl, e_r4_7_1⟩ := (o_r4_3_3.view).at_ 0 y_r4_5_1.1 c_r4_6_1.1 c_r4_6_1.2
          refine sl (v := (.int .i64 (([2, 2, (w64 (1 + y_r4_1_1.1))]).getD (y_r4_5_1.1).toNat 0))) rfl hk rfl rfl rfl ag3 ((e_r4_7_1 0 _ rfl).cell (hs.hasG (k := 104061) rfl)) fun a hk => ?_
          refine se (hs.pick [(3, 3)] rfl) hk (hK_r4_7 _ _ ?_)
          refine tsst hk rfl rfl (fun K_r4_9 hK_r4_9 w hF => ?_) wt_stop
          have hs := hs.f hF
          refine sc rfl en134 hk rfl rfl rfl (spec_l00Src_next_t _ b0_ (⟨x0.code, y_r4_5_1.2.1, y_r4_5_1.2.2⟩ : S_l00Src) A0_0 p0_0 _ v0_0 (hs.hasD (k := 2) rfl) 14 ((hs.hand [(1, 1)] rfl).dpick [(2, 2)] rfl) _ h_r4_9_2) ?_
          rintro _ w ⟨rfl, hG⟩ a hk
          have hs := hs.back [(1, 1)] rfl hG [1] rfl
          refine se (hs.pick [(3, 3)] rfl) hk (hK_r4_9 _ _ ?_)
          refine tsst hk rfl rfl (fun K_r4_10 hK_r4_10 w hF => ?_) wt_stop
          have hs := hs.f hF
          refine sv (.int .i64 (w64 (1 + y_r4_9_1.1))) hk rfl rfl rfl fun a hk => ?_
          refine se (hs.pick [(3, 3)] rfl) hk (hK_r4_10 _ _ ?_)
          refine tsst hk rfl rfl (fun K_r4_11 hK_r4_11 w hF => ?_) wt_stop
          have hs := hs.f hF
          refine sbd (pv := [(0, (.int .i64 (([2, 2, (w64 (1 + y_r4_1_1.1))]).getD (y_r4_5_1.1).toNat 0))), (1, (.int .i64 (w64 (1 + y_r4_9_1.1))))]) rfl hk rfl rfl rfl (bd31_9 (([2, 2, (w64 (1 + y_r4_1_1.1))]).getD (y_r4_5_1.1).toNat 0) (w64 (1 + y_r4_9_1.1))) fun a hk => ?_
          refine se (hs.pick [(3, 3)] rfl) hk (hK_r4_11 _ _ ?_)
          refine tlst hk rfl rfl fun K_r4_13 hK_r4_13 w hF => ?_
          have hs := hs.f hF
          refine ssw 104241 hs rfl rfl hk rfl rfl rfl rfl sz31 (by simp [Value.oneCell']) rfl fun w a hk hs => ?_
          refine se trivial hk (hK_r4_13 _ _ fun w hF => ?_)
          have hs := hs.f hF
          show R5 _ _
          rw [hR5]
          exact ⟨b_r4_12_1, (hk.c 0 rfl (hk.c 2 rfl (hk.c 3 rfl hk.k))), (hs.pick [(1, 1), (3, 3), (104241, 104241)] rfl)⟩
        refine tsst hk rfl rfl (fun K_r4_9 hK_r4_9 w hF => ?_) wt_stop
        have hs := hs.f hF
        refine sc rfl en134 hk rfl rfl rfl (spec_l00Src_next_t _ b0_ (⟨x0.code, y_r4_5_1.2.1, y_r4_5_1.2.2⟩ : S_l00Src) A0_0 p0_0 _ v0_0 (hs.hasD (k := 2) rfl) 14 ((hs.hand [(1, 1)] rfl).dpick [(2, 2)] rfl) _ h_r4_9_2) ?_
        rintro _ w ⟨rfl, hG⟩ a hk
        have hs := hs.back [(1, 1)] rfl hG [1] rfl
        refine se (hs.pick [(3, 3)] rfl) hk (hK_r4_9 _ _ ?_)
        refine tqst (.int .i64 (w64 (1 + y_r4_9_1.1))) hk rfl rfl rfl rfl (fun w hs => sv (.int .i64 (w64 (1 + y_r4_9_1.1))) hk rfl rfl rfl fun a hk => qe hk) fun a hk => ?_
        refine tsst hk rfl rfl (fun K_r4_7 hK_r4_7 w hF => ?_) wt_stop
        have hs := hs.f hF
        obtain ⟨_, rfl, e_r4_7_1⟩ := (o_r4_3_3.view).at_ 0 y_r4_5_1.1 c_r4_6_1.1 c_r4_6_1.2
        refine sl (v := (.int .i64 (([2, 2, (w64 (1 + y_r4_1_1.1))]).getD (y_r4_5_1.1).toNat 0))) rfl hk rfl rfl rfl ag3 ((e_r4_7_1 0 _ rfl).cell (hs.hasG (k := 104061) rfl)) fun a hk => ?_
        refine se (hs.pick [(3, 3)] rfl) hk (hK_r4_7 _ _ ?_)
        refine tsst hk rfl rfl (fun K_r4_11 hK_r4_11 w hF => ?_) wt_stop
        have hs := hs.f hF
        refine sbd (pv := [(0, (.int .i64 (([2, 2, (w64 (1 + y_r4_1_1.1))]).getD (y_r4_5_1.1).toNat 0))), (1, (.int .i64 (w64 (1 + y_r4_9_1.1))))]) rfl hk rfl rfl rfl (bd31_9 (([2, 2, (w64 (1 + y_r4_1_1.1))]).getD (y_r4_5_1.1).toNat 0) (w64 (1 + y_r4_9_1.1))) fun a hk => ?_
        refine se (hs.pick [(3, 3)] rfl) hk (hK_r4_11 _ _ ?_)
        refine tlst hk rfl rfl fun K_r4_13 hK_r4_13 w hF => ?_
        have hs := hs.f hF
        refine ssw 104241 hs rfl rfl hk rfl rfl rfl rfl sz31 (by simp [Value.oneCell']) rfl fun w a hk hs => ?_
        refine se trivial hk (hK_r4_13 _ _ fun w hF => ?_)
        have hs := hs.f hF
        show R5 _ _
        rw [hR5]
        exact ⟨b_r4_12_1, (hk.c 0 rfl (hk.c 2 rfl (hk.c 3 rfl hk.k))), (hs.pick [(1, 1), (3, 3), (104241, 104241)] rfl)⟩
      refine tsst hk rfl rfl (fun K_r4_9 hK_r4_9 w hF => ?_) wt_stop
      have hs := hs.f hF
      refine sc rfl en134 hk rfl rfl rfl (spec_l00Src_next_t _ b0_ (⟨x0.code, y_r4_5_1.2.1, y_r4_5_1.2.2⟩ : S_l00Src) A0_0 p0_0 _ v0_0 (hs.hasD (k := 2) rfl) 14 ((hs.hand [(1, 1)] rfl).dpick [(2, 2)] rfl) _ h_r4_9_2) ?_
      rintro _ w ⟨rfl, hG⟩ a hk
      have hs := hs.back [(1, 1)] rfl hG [1] rfl
      refine se (hs.pick [(3, 3)] rfl) hk (hK_r4_9 _ _ ?_)
      refine tqst (.int .i64 (w64 (1 + y_r4_9_1.1))) hk rfl rfl rfl rfl (fun w hs => sv (.int .i64 (w64 (1 + y_r4_9_1.1))) hk rfl rfl rfl fun a hk => qe hk) fun a hk => ?_
      refine tsst hk rfl rfl (fun K_r4_3 hK_r4_3 w hF => ?_) wt_stop
      have hs := hs.f hF
      refine sbs (L := (Lay.int .i64)) (pv := [(0, (.int .i64 2)), (1, (.int .i64 2)), (2, (.int .i64 (w64 (1 + y_r4_1_1.1))))]) (xs := [2, 2, (w64 (1 + y_r4_1_1.1))]) (ess := [[.int .i64 2], [.int .i64 2], [.int .i64 (w64 (1 + y_r4_1_1.1))]]) 104061 hs rfl hk rfl rfl rfl un27 (bs3_8 2 2 (w64 (1 + y_r4_1_1.1))) (AllOwn.cons0 ⟨rfl, rfl⟩ (AllOwn.cons0 ⟨rfl, rfl⟩ (AllOwn.cons0 ⟨rfl, rfl⟩ AllOwn.nil))) rfl rfl rfl fun b_r4_3_1 k_r4_3_2 w a hk o_r4_3_3 hs => ?_
      refine se (hs.pick [(3, 3)] rfl) hk (hK_r4_3 _ _ ?_)
      refine tsst hk rfl rfl (fun K_r4_6 hK_r4_6 w hF => ?_) wt_stop
      have hs := hs.f hF
      obtain ⟨b_r4_6_2, q_r4_6_3, hAc_r4_6_1⟩ := (o_r4_3_3.view).some_ y_r4_5_1.1 c_r4_6_1.1 c_r4_6_1.2
      refine si rfl hk rfl rfl rfl rfl un27 sz3 c_r4_6_1.1 c_r4_6_1.2 hAc_r4_6_1 fun a hk => ?_
      refine se (hs.pick [(3, 3)] rfl) hk (hK_r4_6 _ _ ?_)
      refine tsst hk rfl rfl (fun K_r4_7 hK_r4_7 w hF => ?_) wt_stop
      have hs := hs.f hF
      obtain ⟨_, rfl, e_r4_7_1⟩ := (o_r4_3_3.view).at_ 0 y_r4_5_1.1 c_r4_6_1.1 c_r4_6_1.2
      refine sl (v := (.int .i64 (([2, 2, (w64 (1 + y_r4_1_1.1))]).getD (y_r4_5_1.1).toNat 0))) rfl hk rfl rfl rfl ag3 ((e_r4_7_1 0 _ rfl).cell (hs.hasG (k := 104061) rfl)) fun a hk => ?_
      refine se (hs.pick [(3, 3)] rfl) hk (hK_r4_7 _ _ ?_)
      refine tsst hk rfl rfl (fun K_r4_11 hK_r4_11 w hF => ?_) wt_stop
      have hs := hs.f hF
      refine sbd (pv := [(0, (.int .i64 (([2, 2, (w64 (1 + y_r4_1_1.1))]).getD (y_r4_5_1.1).toNat 0))), (1, (.int .i64 (w64 (1 + y_r4_9_1.1))))]) rfl hk rfl rfl rfl (bd31_9 (([2, 2, (w64 (1 + y_r4_1_1.1))]).getD (y_r4_5_1.1).toNat 0) (w64 (1 + y_r4_9_1.1))) fun a hk => ?_
      refine se (hs.pick [(3, 3)] rfl) hk (hK_r4_11 _ _ ?_)
      refine tlst hk rfl rfl fun K_r4_13 hK_r4_13 w hF => ?_
      have hs := hs.f hF
      refine ssw 104241 hs rfl rfl hk rfl rfl rfl rfl sz31 (by simp [Value.oneCell']) rfl fun w a hk hs => ?_
      refine se trivial hk (hK_r4_13 _ _ fun w hF => ?_)
      have hs := hs.f hF
      show R5 _ _
      rw [hR5]
      exact ⟨b_r4_12_1, (hk.c 0 rfl (hk.c 2 rfl (hk.c 3 rfl hk.k))), (hs.pick [(1, 1), (3, 3), (104241, 104241)] rfl)⟩
    refine tsst hk rfl rfl (fun K_r4_12 hK_r4_12 w hF => ?_) wt_stop
    have hs := hs.f hF
    refine salx 104241 hs rfl hk rfl rfl ze31 rfl fun b_r4_12_1 w a hk hs => ?_
    refine se (hs.pick [(3, 3)] rfl) hk (hK_r4_12 _ _ ?_)
    refine tsst hk rfl rfl (fun K_r4_1 hK_r4_1 w hF => ?_) wt_stop
    have hs := hs.f hF
    refine sc rfl en134 hk rfl rfl rfl (spec_l00Src_next_t _ b0_ x0 A0_0 p0_0 _ v0_0 (hs.hasD (k := 2) rfl) 6 ((hs.hand [(1, 1)] rfl).dpick [(2, 2)] rfl) _ h_r4_1_2) ?_
    rintro _ w ⟨rfl, hG⟩ a hk
    have hs := hs.back [(1, 1)] rfl hG [1] rfl
    refine se (hs.pick [(3, 3)] rfl) hk (hK_r4_1 _ _ ?_)
    refine tqst (.int .i64 (w64 (1 + y_r4_1_1.1))) hk rfl rfl rfl rfl (fun w hs => sv (.int .i64 (w64 (1 + y_r4_1_1.1))) hk rfl rfl rfl fun a hk => qe hk) fun a hk => ?_
    refine tsst hk rfl rfl (fun K_r4_3 hK_r4_3 w hF => ?_) ?_
    · skip
      have hs := hs.f hF
      refine sbs (L := (Lay.int .i64)) (pv := [(0, (.int .i64 2)), (1, (.int .i64 2)), (2, (.int .i64 (w64 (1 + y_r4_1_1.1))))]) (xs := [2, 2, (w64 (1 + y_r4_1_1.1))]) (ess := [[.int .i64 2], [.int .i64 2], [.int .i64 (w64 (1 + y_r4_1_1.1))]]) 104061 hs rfl hk rfl rfl rfl un27 (bs3_8 2 2 (w64 (1 + y_r4_1_1.1))) (AllOwn.cons0 ⟨rfl, rfl⟩ (AllOwn.cons0 ⟨rfl, rfl⟩ (AllOwn.cons0 ⟨rfl, rfl⟩ AllOwn.nil))) rfl rfl rfl fun b_r4_3_1 k_r4_3_2 w a hk o_r4_3_3 hs => ?_
      refine se (hs.pick [(3, 3)] rfl) hk (hK_r4_3 _ _ ?_)
      refine tsst hk rfl rfl (fun K_r4_5 hK_r4_5 w hF => ?_) wt_stop
      have hs := hs.f hF
      refine sc rfl en134 hk rfl rfl rfl (spec_l00Src_next_t _ b0_ (⟨x0.code, y_r4_1_1.2.1, y_r4_1_1.2.2⟩ : S_l00Src) A0_0 p0_0 _ v0_0 (hs.hasD (k := 2) rfl) 3 ((hs.hand [(1, 1)] rfl).dpick [(2, 2)] rfl) _ h_r4_5_2) ?_
      rintro _ w ⟨rfl, hG⟩ a hk
      have hs := hs.back [(1, 1)] rfl hG [1] rfl
      refine se (hs.pick [(3, 3)] rfl) hk (hK_r4_5 _ _ ?_)
      obtain ⟨b_r4_6_2, q_r4_6_3, hAc_r4_6_1⟩ := (o_r4_3_3.view).some_ y_r4_5_1.1 c_r4_6_1.1 c_r4_6_1.2
      refine tqst (.pointer (some (padd (some ⟨b_r4_3_1, 0, none⟩) ((y_r4_5_1.1).toNat * 1)))) hk rfl rfl rfl rfl (fun w hs => si rfl hk rfl rfl rfl rfl un27 sz3 c_r4_6_1.1 c_r4_6_1.2 hAc_r4_6_1 fun a hk => qe hk) fun a hk => ?_
      refine tsst hk rfl rfl (fun K_r4_7 hK_r4_7 w hF => ?_) ?_
      · skip
        have hs := hs.f hF
        obtain ⟨_, rfl, e_r4_7_1⟩ := (o_r4_3_3.view).at_ 0 y_r4_5_1.1 c_r4_6_1.1 c_r4_6_1.2
        refine sl (v := (.int .i64 (([2, 2, (w64 (1 + y_r4_1_1.1))]).getD (y_r4_5_1.1).toNat 0))) rfl hk rfl rfl rfl ag3 ((e_r4_7_1 0 _ rfl).cell (hs.hasG (k := 104061) rfl)) fun a hk => ?_
        refine se (hs.pick [(3, 3)] rfl) hk (hK_r4_7 _ _ ?_)
        refine tsst hk rfl rfl (fun K_r4_9 hK_r4_9 w hF => ?_) wt_stop
        have hs := hs.f hF
        refine sc rfl en134 hk rfl rfl rfl (spec_l00Src_next_t _ b0_ (⟨x0.code, y_r4_5_1.2.1, y_r4_5_1.2.2⟩ : S_l00Src) A0_0 p0_0 _ v0_0 (hs.hasD (k := 2) rfl) 14 ((hs.hand [(1, 1)] rfl).dpick [(2, 2)] rfl) _ h_r4_9_2) ?_
        rintro _ w ⟨rfl, hG⟩ a hk
        have hs := hs.back [(1, 1)] rfl hG [1] rfl
        refine se (hs.pick [(3, 3)] rfl) hk (hK_r4_9 _ _ ?_)
        refine tsst hk rfl rfl (fun K_r4_10 hK_r4_10 w hF => ?_) wt_stop
        have hs := hs.f hF
        refine sv (.int .i64 (w64 (1 + y_r4_9_1.1))) hk rfl rfl rfl fun a hk => ?_
        refine se (hs.pick [(3, 3)] rfl) hk (hK_r4_10 _ _ ?_)
        refine tsst hk rfl rfl (fun K_r4_11 hK_r4_11 w hF => ?_) wt_stop
        have hs := hs.f hF
        refine sbd (pv := [(0, (.int .i64 (([2, 2, (w64 (1 + y_r4_1_1.1))]).getD (y_r4_5_1.1).toNat 0))), (1, (.int .i64 (w64 (1 + y_r4_9_1.1))))]) rfl hk rfl rfl rfl (bd31_9 (([2, 2, (w64 (1 + y_r4_1_1.1))]).getD (y_r4_5_1.1).toNat 0) (w64 (1 + y_r4_9_1.1))) fun a hk => ?_
        refine se (hs.pick [(3, 3)] rfl) hk (hK_r4_11 _ _ ?_)
        refine tlst hk rfl rfl fun K_r4_13 hK_r4_13 w hF => ?_
        have hs := hs.f hF
        refine ssw 104241 hs rfl rfl hk rfl rfl rfl rfl sz31 (by simp [Value.oneCell']) rfl fun w a hk hs => ?_
        refine se trivial hk (hK_r4_13 _ _ fun w hF => ?_)
        have hs := hs.f hF
        show R5 _ _
        rw [hR5]
        exact ⟨b_r4_12_1, (hk.c 0 rfl (hk.c 2 rfl (hk.c 3 rfl hk.k))), (hs.pick [(1, 1), (3, 3), (104241, 104241)] rfl)⟩
      refine tsst hk rfl rfl (fun K_r4_9 hK_r4_9 w hF => ?_) wt_stop
      have hs := hs.f hF
      refine sc rfl en134 hk rfl rfl rfl (spec_l00Src_next_t _ b0_ (⟨x0.code, y_r4_5_1.2.1, y_r4_5_1.2.2⟩ : S_l00Src) A0_0 p0_0 _ v0_0 (hs.hasD (k := 2) rfl) 14 ((hs.hand [(1, 1)] rfl).dpick [(2, 2)] rfl) _ h_r4_9_2) ?_
      rintro _ w ⟨rfl, hG⟩ a hk
      have hs := hs.back [(1, 1)] rfl hG [1] rfl
      refine se (hs.pick [(3, 3)] rfl) hk (hK_r4_9 _ _ ?_)
      refine tqst (.int .i64 (w64 (1 + y_r4_9_1.1))) hk rfl rfl rfl rfl (fun w hs => sv (.int .i64 (w64 (1 + y_r4_9_1.1))) hk rfl rfl rfl fun a hk => qe hk) fun a hk => ?_
      refine tsst hk rfl rfl (fun K_r4_7 hK_r4_7 w hF => ?_) wt_stop
      have hs := hs.f hF
      obtain ⟨_, rfl, e_r4_7_1⟩ := (o_r4_3_3.view).at_ 0 y_r4_5_1.1 c_r4_6_1.1 c_r4_6_1.2
      refine sl (v := (.int .i64 (([2, 2, (w64 (1 + y_r4_1_1.1))]).getD (y_r4_5_1.1).toNat 0))) rfl hk rfl rfl rfl ag3 ((e_r4_7_1 0 _ rfl).cell (hs.hasG (k := 104061) rfl)) fun a hk => ?_
      refine se (hs.pick [(3, 3)] rfl) hk (hK_r4_7 _ _ ?_)
      refine tsst hk rfl rfl (fun K_r4_11 hK_r4_11 w hF => ?_) wt_stop
      have hs := hs.f hF
      refine sbd (pv := [(0, (.int .i64 (([2, 2, (w64 (1 + y_r4_1_1.1))]).getD (y_r4_5_1.1).toNat 0))), (1, (.int .i64 (w64 (1 + y_r4_9_1.1))))]) rfl hk rfl rfl rfl (bd31_9 (([2, 2, (w64 (1 + y_r4_1_1.1))]).getD (y_r4_5_1.1).toNat 0) (w64 (1 + y_r4_9_1.1))) fun a hk => ?_
      refine se (hs.pick [(3, 3)] rfl) hk (hK_r4_11 _ _ ?_)
      refine tlst hk rfl rfl fun K_r4_13 hK_r4_13 w hF => ?_
      have hs := hs.f hF
      refine ssw 104241 hs rfl rfl hk rfl rfl rfl rfl sz31 (by simp [Value.oneCell']) rfl fun w a hk hs => ?_
      refine se trivial hk (hK_r4_13 _ _ fun w hF => ?_)
      have hs := hs.f hF
      show R5 _ _
      rw [hR5]
      exact ⟨b_r4_12_1, (hk.c 0 rfl (hk.c 2 rfl (hk.c 3 rfl hk.k))), (hs.pick [(1, 1), (3, 3), (104241, 104241)] rfl)⟩
    refine tsst hk rfl rfl (fun K_r4_5 hK_r4_5 w hF => ?_) wt_stop
    have hs := hs.f hF
    refine sc rfl en134 hk rfl rfl rfl (spec_l00Src_next_t _ b0_ (⟨x0.code, y_r4_1_1.2.1, y_r4_1_1.2.2⟩ : S_l00Src) A0_0 p0_0 _ v0_0 (hs.hasD (k := 2) rfl) 3 ((hs.hand [(1, 1)] rfl).dpick [(2, 2)] rfl) _ h_r4_5_2) ?_
    rintro _ w ⟨rfl, hG⟩ a hk
    have hs := hs.back [(1, 1)] rfl hG [1] rfl
    refine se (hs.pick [(3, 3)] rfl) hk (hK_r4_5 _ _ ?_)
    refine tsst hk rfl rfl (fun K_r4_3 hK_r4_3 w hF => ?_) ?_
    · skip
      have hs := hs.f hF
      refine sbs (L := (Lay.int .i64)) (pv := [(0, (.int .i64 2)), (1, (.int .i64 2)), (2, (.int .i64 (w64 (1 + y_r4_1_1.1))))]) (xs := [2, 2, (w64 (1 + y_r4_1_1.1))]) (ess := [[.int .i64 2], [.int .i64 2], [.int .i64 (w64 (1 + y_r4_1_1.1))]]) 104061 hs rfl hk rfl rfl rfl un27 (bs3_8 2 2 (w64 (1 + y_r4_1_1.1))) (AllOwn.cons0 ⟨rfl, rfl⟩ (AllOwn.cons0 ⟨rfl, rfl⟩ (AllOwn.cons0 ⟨rfl, rfl⟩ AllOwn.nil))) rfl rfl rfl fun b_r4_3_1 k_r4_3_2 w a hk o_r4_3_3 hs => ?_
      refine se (hs.pick [(3, 3)] rfl) hk (hK_r4_3 _ _ ?_)
      obtain ⟨b_r4_6_2, q_r4_6_3, hAc_r4_6_1⟩ := (o_r4_3_3.view).some_ y_r4_5_1.1 c_r4_6_1.1 c_r4_6_1.2
      refine tqst (.pointer (some (padd (some ⟨b_r4_3_1, 0, none⟩) ((y_r4_5_1.1).toNat * 1)))) hk rfl rfl rfl rfl (fun w hs => si rfl hk rfl rfl rfl rfl un27 sz3 c_r4_6_1.1 c_r4_6_1.2 hAc_r4_6_1 fun a hk => qe hk) fun a hk => ?_
      refine tsst hk rfl rfl (fun K_r4_7 hK_r4_7 w hF => ?_) ?_
      · skip
        have hs := hs.f hF
        obtain ⟨_, rfl, e_r4_7_1⟩ := (o_r4_3_3.view).at_ 0 y_r4_5_1.1 c_r4_6_1.1 c_r4_6_1.2
        refine sl (v := (.int .i64 (([2, 2, (w64 (1 + y_r4_1_1.1))]).getD (y_r4_5_1.1).toNat 0))) rfl hk rfl rfl rfl ag3 ((e_r4_7_1 0 _ rfl).cell (hs.hasG (k := 104061) rfl)) fun a hk => ?_
        refine se (hs.pick [(3, 3)] rfl) hk (hK_r4_7 _ _ ?_)
        refine tsst hk rfl rfl (fun K_r4_9 hK_r4_9 w hF => ?_) wt_stop
        have hs := hs.f hF
        refine sc rfl en134 hk rfl rfl rfl (spec_l00Src_next_t _ b0_ (⟨x0.code, y_r4_5_1.2.1, y_r4_5_1.2.2⟩ : S_l00Src) A0_0 p0_0 _ v0_0 (hs.hasD (k := 2) rfl) 14 ((hs.hand [(1, 1)] rfl).dpick [(2, 2)] rfl) _ h_r4_9_2) ?_
        rintro _ w ⟨rfl, hG⟩ a hk
        have hs := hs.back [(1, 1)] rfl hG [1] rfl
        refine se (hs.pick [(3, 3)] rfl) hk (hK_r4_9 _ _ ?_)
        refine tsst hk rfl rfl (fun K_r4_10 hK_r4_10 w hF => ?_) wt_stop
        have hs := hs.f hF
        refine sv (.int .i64 (w64 (1 + y_r4_9_1.1))) hk rfl rfl rfl fun a hk => ?_
        refine se (hs.pick [(3, 3)] rfl) hk (hK_r4_10 _ _ ?_)
        refine tsst hk rfl rfl (fun K_r4_11 hK_r4_11 w hF => ?_) wt_stop
        have hs := hs.f hF
        refine sbd (pv := [(0, (.int .i64 (([2, 2, (w64 (1 + y_r4_1_1.1))]).getD (y_r4_5_1.1).toNat 0))), (1, (.int .i64 (w64 (1 + y_r4_9_1.1))))]) rfl hk rfl rfl rfl (bd31_9 (([2, 2, (w64 (1 + y_r4_1_1.1))]).getD (y_r4_5_1.1).toNat 0) (w64 (1 + y_r4_9_1.1))) fun a hk => ?_
        refine se (hs.pick [(3, 3)] rfl) hk (hK_r4_11 _ _ ?_)
        refine tlst hk rfl rfl fun K_r4_13 hK_r4_13 w hF => ?_
        have hs := hs.f hF
        refine ssw 104241 hs rfl rfl hk rfl rfl rfl rfl sz31 (by simp [Value.oneCell']) rfl fun w a hk hs => ?_
        refine se trivial hk (hK_r4_13 _ _ fun w hF => ?_)
        have hs := hs.f hF
        show R5 _ _
        rw [hR5]
        exact ⟨b_r4_12_1, (hk.c 0 rfl (hk.c 2 rfl (hk.c 3 rfl hk.k))), (hs.pick [(1, 1), (3, 3), (104241, 104241)] rfl)⟩
      refine tsst hk rfl rfl (fun K_r4_9 hK_r4_9 w hF => ?_) wt_stop
      have hs := hs.f hF
      refine sc rfl en134 hk rfl rfl rfl (spec_l00Src_next_t _ b0_ (⟨x0.code, y_r4_5_1.2.1, y_r4_5_1.2.2⟩ : S_l00Src) A0_0 p0_0 _ v0_0 (hs.hasD (k := 2) rfl) 14 ((hs.hand [(1, 1)] rfl).dpick [(2, 2)] rfl) _ h_r4_9_2) ?_
      rintro _ w ⟨rfl, hG⟩ a hk
      have hs := hs.back [(1, 1)] rfl hG [1] rfl
      refine se (hs.pick [(3, 3)] rfl) hk (hK_r4_9 _ _ ?_)
      refine tqst (.int .i64 (w64 (1 + y_r4_9_1.1))) hk rfl rfl rfl rfl (fun w hs => sv (.int .i64 (w64 (1 + y_r4_9_1.1))) hk rfl rfl rfl fun a hk => qe hk) fun a hk => ?_
      refine tsst hk rfl rfl (fun K_r4_7 hK_r4_7 w hF => ?_) wt_stop
      have hs := hs.f hF
      obtain ⟨_, rfl, e_r4_7_1⟩ := (o_r4_3_3.view).at_ 0 y_r4_5_1.1 c_r4_6_1.1 c_r4_6_1.2
      refine sl (v := (.int .i64 (([2, 2, (w64 (1 + y_r4_1_1.1))]).getD (y_r4_5_1.1).toNat 0))) rfl hk rfl rfl rfl ag3 ((e_r4_7_1 0 _ rfl).cell (hs.hasG (k := 104061) rfl)) fun a hk => ?_
      refine se (hs.pick [(3, 3)] rfl) hk (hK_r4_7 _ _ ?_)
      refine tsst hk rfl rfl (fun K_r4_11 hK_r4_11 w hF => ?_) wt_stop
      have hs := hs.f hF
      refine sbd (pv := [(0, (.int .i64 (([2, 2, (w64 (1 + y_r4_1_1.1))]).getD (y_r4_5_1.1).toNat 0))), (1, (.int .i64 (w64 (1 + y_r4_9_1.1))))]) rfl hk rfl rfl rfl (bd31_9 (([2, 2, (w64 (1 + y_r4_1_1.1))]).getD (y_r4_5_1.1).toNat 0) (w64 (1 + y_r4_9_1.1))) fun a hk => ?_
      refine se (hs.pick [(3, 3)] rfl) hk (hK_r4_11 _ _ ?_)
      refine tlst hk rfl rfl fun K_r4_13 hK_r4_13 w hF => ?_
      have hs := hs.f hF
      refine ssw 104241 hs rfl rfl hk rfl rfl rfl rfl sz31 (by simp [Value.oneCell']) rfl fun w a hk hs => ?_
      refine se trivial hk (hK_r4_13 _ _ fun w hF => ?_)
      have hs := hs.f hF
      show R5 _ _
      rw [hR5]
      exact ⟨b_r4_12_1, (hk.c 0 rfl (hk.c 2 rfl (hk.c 3 rfl hk.k))), (hs.pick [(1, 1), (3, 3), (104241, 104241)] rfl)⟩
    refine tsst hk rfl rfl (fun K_r4_9 hK_r4_9 w hF => ?_) wt_stop
    have hs := hs.f hF
    refine sc rfl en134 hk rfl rfl rfl (spec_l00Src_next_t _ b0_ (⟨x0.code, y_r4_5_1.2.1, y_r4_5_1.2.2⟩ : S_l00Src) A0_0 p0_0 _ v0_0 (hs.hasD (k := 2) rfl) 14 ((hs.hand [(1, 1)] rfl).dpick [(2, 2)] rfl) _ h_r4_9_2) ?_
    rintro _ w ⟨rfl, hG⟩ a hk
    have hs := hs.back [(1, 1)] rfl hG [1] rfl
    refine se (hs.pick [(3, 3)] rfl) hk (hK_r4_9 _ _ ?_)
    refine tqst (.int .i64 (w64 (1 + y_r4_9_1.1))) hk rfl rfl rfl rfl (fun w hs => sv (.int .i64 (w64 (1 + y_r4_9_1.1))) hk rfl rfl rfl fun a hk => qe hk) fun a hk => ?_
    refine tsst hk rfl rfl (fun K_r4_3 hK_r4_3 w hF => ?_) wt_stop
    have hs := hs.f hF
    refine sbs (L := (Lay.int .i64)) (pv := [(0, (.int .i64 2)), (1, (.int .i64 2)), (2, (.int .i64 (w64 (1 + y_r4_1_1.1))))]) (xs := [2, 2, (w64 (1 + y_r4_1_1.1))]) (ess := [[.int .i64 2], [.int .i64 2], [.int .i64 (w64 (1 + y_r4_1_1.1))]]) 104061 hs rfl hk rfl rfl rfl un27 (bs3_8 2 2 (w64 (1 + y_r4_1_1.1))) (AllOwn.cons0 ⟨rfl, rfl⟩ (AllOwn.cons0 ⟨rfl, rfl⟩ (AllOwn.cons0 ⟨rfl, rfl⟩ AllOwn.nil))) rfl rfl rfl fun b_r4_3_1 k_r4_3_2 w a hk o_r4_3_3 hs => ?_
    refine se (hs.pick [(3, 3)] rfl) hk (hK_r4_3 _ _ ?_)
    refine tsst hk rfl rfl (fun K_r4_6 hK_r4_6 w hF => ?_) wt_stop
    have hs := hs.f hF
    obtain ⟨b_r4_6_2, q_r4_6_3, hAc_r4_6_1⟩ := (o_r4_3_3.view).some_ y_r4_5_1.1 c_r4_6_1.1 c_r4_6_1.2
    refine si rfl hk rfl rfl rfl rfl un27 sz3 c_r4_6_1.1 c_r4_6_1.2 hAc_r4_6_1 fun a hk => ?_
    refine se (hs.pick [(3, 3)] rfl) hk (hK_r4_6 _ _ ?_)
    refine tsst hk rfl rfl (fun K_r4_7 hK_r4_7 w hF => ?_) wt_stop
    have hs := hs.f hF
    obtain ⟨_, rfl, e_r4_7_1⟩ := (o_r4_3_3.view).at_ 0 y_r4_5_1.1 c_r4_6_1.1 c_r4_6_1.2
    refine sl (v := (.int .i64 (([2, 2, (w64 (1 + y_r4_1_1.1))]).getD (y_r4_5_1.1).toNat 0))) rfl hk rfl rfl rfl ag3 ((e_r4_7_1 0 _ rfl).cell (hs.hasG (k := 104061) rfl)) fun a hk => ?_
    refine se (hs.pick [(3, 3)] rfl) hk (hK_r4_7 _ _ ?_)
    refine tsst hk rfl rfl (fun K_r4_11 hK_r4_11 w hF => ?_) wt_stop
    have hs := hs.f hF
    refine sbd (pv := [(0, (.int .i64 (([2, 2, (w64 (1 + y_r4_1_1.1))]).getD (y_r4_5_1.1).toNat 0))), (1, (.int .i64 (w64 (1 + y_r4_9_1.1))))]) rfl hk rfl rfl rfl (bd31_9 (([2, 2, (w64 (1 + y_r4_1_1.1))]).getD (y_r4_5_1.1).toNat 0) (w64 (1 + y_r4_9_1.1))) fun a hk => ?_
    refine se (hs.pick [(3, 3)] rfl) hk (hK_r4_11 _ _ ?_)
    refine tlst hk rfl rfl fun K_r4_13 hK_r4_13 w hF => ?_
    have hs := hs.f hF
    refine ssw 104241 hs rfl rfl hk rfl rfl rfl rfl sz31 (by simp [Value.oneCell']) rfl fun w a hk hs => ?_
    refine se trivial hk (hK_r4_13 _ _ fun w hF => ?_)
    have hs := hs.f hF
    show R5 _ _
    rw [hR5]
    exact ⟨b_r4_12_1, (hk.c 0 rfl (hk.c 2 rfl (hk.c 3 rfl hk.k))), (hs.pick [(1, 1), (3, 3), (104241, 104241)] rfl)⟩
  · intro a w hR0
    rw [hR5] at hR0
    obtain ⟨b_r4_12_1, hk, hs⟩ := hR0
    refine hK3 _ _ ?_
    apply wp_seq_k; intro K6 hK6
    apply wp_seq_k; intro K7 hK7
    apply wp_region_lit
    refine sf ⟨b_r4_12_1, 0, none⟩ rfl hk rfl rfl rfl fd31_0 rfl fun a hk => ?_
    refine sl rfl hk rfl rfl rfl ag3 (box_cell hs (k := 104241) rfl rfl) fun a hk => ?_
    show wpList _ _ _ [] _ _
    refine wpList_nil ?_
    refine hK7 _ _ ?_
    refine wp_block ?_
    apply wp_seq_k; intro K8 hK8
    apply wp_seq_k; intro K9 hK9
    apply wp_region_lit
    refine sv (.bool ((([2, 2, (w64 (1 + y_r4_1_1.1))]).getD (y_r4_5_1.1).toNat 0) == 1)) hk rfl rfl rfl fun a hk => ?_
    refine sa _ rfl hk rfl rfl rfl fun a hk => ?_
    show wpList _ _ _ [] _ _
    refine wpList_nil ?_
    refine hK9 _ _ ?_
    obtain ⟨o12, h13, HL14⟩ := bind_some H
    clear H
    obtain ⟨R15, hR15⟩ : ∃ R : Act → World → Prop, R = fun a w => ∃ (u11 : Bool), u11 = o12 ∧ Kn [(0, (.pointer (some ⟨b0_, 0, none⟩))), (2, (.pointer (some ⟨b2, 0, none⟩))), (3, (.pointer (some ⟨b_r4_12_1, 0, none⟩))), (17, (.int .i64 (([2, 2, (w64 (1 + y_r4_1_1.1))]).getD (y_r4_5_1.1).toNat 0))), (21, (.bool u11))] 42 a ∧ Sat (blks [(1, [(b0_, .cells #[.slice A0_0 x0.code.length p0_0, .int .i64 x0.at_, .int .i64 x0.seed] 159 (0, 0))])]) w0 w [(2, k0_0)] [(1, [(b0_, .cells #[.slice A0_0 x0.code.length p0_0, .int .i64 y_r4_9_1.2.1, .int .i64 y_r4_9_1.2.2] 159 (0, 0))]), (3, [(b2, .cells #[.int .i64 0, .int .i64 0, .int .i64 0] 31 (0, 0))]), (104241, [(b_r4_12_1, .cells #[.int .i64 (([2, 2, (w64 (1 + y_r4_1_1.1))]).getD (y_r4_5_1.1).toNat 0), .int .i64 (w64 (1 + y_r4_9_1.1)), .int .i64 0] 31 (0, 0))])] := ⟨_, rfl⟩
    refine wp_cutq R15 ?_ ?_
    · have H := h13
      rcases cond_some H with ⟨c16, H⟩ | ⟨c16, H⟩
      · have hk := hk.lit 21 c16 rfl
        refine cnd_true hk rfl rfl ?_
        refine wp_skip ?_
        obtain rfl := Option.some.inj H
        show R15 _ _
        rw [hR15]
        exact ⟨true, rfl, (hk.c 0 rfl (hk.c 2 rfl (hk.c 3 rfl (hk.c 17 rfl (hk.c 21 rfl hk.k))))), (hs.pick [(1, 1), (3, 3), (104241, 104241)] rfl)⟩
      · have hk := hk.lit 21 c16 rfl
        refine cnd_false hk rfl rfl ?_
        apply wp_region_lit
        refine sv (.bool ((([2, 2, (w64 (1 + y_r4_1_1.1))]).getD (y_r4_5_1.1).toNat 0) == 3)) hk rfl rfl rfl fun a hk => ?_
        refine sa _ rfl hk rfl rfl rfl fun a hk => ?_
        show wpList _ _ _ [] _ _
        refine wpList_nil ?_
        obtain rfl := Option.some.inj H
        show R15 _ _
        rw [hR15]
        exact ⟨((([2, 2, (w64 (1 + y_r4_1_1.1))]).getD (y_r4_5_1.1).toNat 0) == 3), rfl, (hk.c 0 rfl (hk.c 2 rfl (hk.c 3 rfl (hk.c 17 rfl (hk.c 21 rfl hk.k))))), (hs.pick [(1, 1), (3, 3), (104241, 104241)] rfl)⟩
    · intro a w hR0
      rw [hR15] at hR0
      obtain ⟨u11, rfl, hk, hs⟩ := hR0
      have H := HL14
      try dsimp only at H
      refine hK8 _ _ ?_
      obtain ⟨o21, h22, HL23⟩ := bind_some H
      clear H
      obtain ⟨R24, hR24⟩ : ∃ R : Act → World → Prop, R = fun a w => ∃ (u18 : Int) (u19 : Int) (u20 : Int), (u18, u19, u20) = o21 ∧ Kn [(0, (.pointer (some ⟨b0_, 0, none⟩))), (2, (.pointer (some ⟨b2, 0, none⟩))), (3, (.pointer (some ⟨b_r4_12_1, 0, none⟩)))] 42 a ∧ Sat (blks [(1, [(b0_, .cells #[.slice A0_0 x0.code.length p0_0, .int .i64 x0.at_, .int .i64 x0.seed] 159 (0, 0))])]) w0 w [(2, k0_0)] [(1, [(b0_, .cells #[.slice A0_0 x0.code.length p0_0, .int .i64 u18, .int .i64 u19] 159 (0, 0))]), (3, [(b2, .cells #[.int .i64 0, .int .i64 0, .int .i64 0] 31 (0, 0))]), (104241, [(b_r4_12_1, .cells #[.int .i64 (([2, 2, (w64 (1 + y_r4_1_1.1))]).getD (y_r4_5_1.1).toNat 0), .int .i64 (w64 (1 + y_r4_9_1.1)), .int .i64 u20] 31 (0, 0))])] := ⟨_, rfl⟩
      refine wp_cutq R24 ?_ ?_
      · have H := h22
        rcases cond_some H with ⟨c25, H⟩ | ⟨c25, H⟩
        · have hk := hk.lit 21 c25 rfl
          refine cnd_true hk rfl rfl ?_
          refine wp_skip ?_
          obtain rfl := Option.some.inj H
          show R24 _ _
          rw [hR24]
          exact ⟨y_r4_9_1.2.1, y_r4_9_1.2.2, 0, rfl, (hk.c 0 rfl (hk.c 2 rfl (hk.c 3 rfl hk.k))), (hs.pick [(1, 1), (3, 3), (104241, 104241)] rfl)⟩
        · have hk := hk.lit 21 c25 rfl
          refine cnd_false hk rfl rfl ?_
          apply wp_seq_k; intro K26 hK26
          apply wp_region_lit
          refine sv (.bool ((([2, 2, (w64 (1 + y_r4_1_1.1))]).getD (y_r4_5_1.1).toNat 0) == 6)) hk rfl rfl rfl fun a hk => ?_
          refine sa _ rfl hk rfl rfl rfl fun a hk => ?_
          show wpList _ _ _ [] _ _
          refine wpList_nil ?_
          refine hK26 _ _ ?_
          obtain ⟨o31, h32, HL33⟩ := bind_some H
          clear H
          obtain ⟨R34, hR34⟩ : ∃ R : Act → World → Prop, R = fun a w => ∃ (u28 : Int) (u29 : Int) (u30 : Int), (u28, u29, u30) = o31 ∧ Kn [(0, (.pointer (some ⟨b0_, 0, none⟩))), (2, (.pointer (some ⟨b2, 0, none⟩))), (3, (.pointer (some ⟨b_r4_12_1, 0, none⟩)))] 42 a ∧ Sat (blks [(1, [(b0_, .cells #[.slice A0_0 x0.code.length p0_0, .int .i64 x0.at_, .int .i64 x0.seed] 159 (0, 0))])]) w0 w [(2, k0_0)] [(1, [(b0_, .cells #[.slice A0_0 x0.code.length p0_0, .int .i64 u28, .int .i64 u29] 159 (0, 0))]), (3, [(b2, .cells #[.int .i64 0, .int .i64 0, .int .i64 0] 31 (0, 0))]), (104241, [(b_r4_12_1, .cells #[.int .i64 (([2, 2, (w64 (1 + y_r4_1_1.1))]).getD (y_r4_5_1.1).toNat 0), .int .i64 (w64 (1 + y_r4_9_1.1)), .int .i64 u30] 31 (0, 0))])] := ⟨_, rfl⟩
          refine wp_cutq R34 ?_ ?_
          · have H := h32
            rcases cond_some H with ⟨c35, H⟩ | ⟨c35, H⟩
            · have hk := hk.lit 24 c35 rfl
              refine cnd_true hk rfl rfl ?_
              apply wp_region_lit
              refine sm _ rfl hk rfl rfl rfl fun a hk => ?_
              obtain ⟨y36, h37, H⟩ := bind_some H
              refine sc rfl en134 hk rfl rfl rfl (spec_l00Src_next_t _ b0_ (⟨x0.code, y_r4_9_1.2.1, y_r4_9_1.2.2⟩ : S_l00Src) A0_0 p0_0 _ v0_0 (hs.hasD (k := 2) rfl) 4 ((hs.hand [(1, 1)] rfl).dpick [(2, 2)] rfl) _ h37) ?_
              rintro _ w ⟨rfl, hG⟩ a hk
              have hs := hs.back [(1, 1)] rfl hG [1] rfl
              refine sv (.int .i64 (w64 (1 + y36.1))) hk rfl rfl rfl fun a hk => ?_
              refine sf ⟨b_r4_12_1, 2, none⟩ rfl hk rfl rfl rfl fd31_2 rfl fun a hk => ?_
              refine ssx (cs' := #[.int .i64 (([2, 2, (w64 (1 + y_r4_1_1.1))]).getD (y_r4_5_1.1).toNat 0), .int .i64 (w64 (1 + y_r4_9_1.1)), .int .i64 (w64 (1 + y36.1))]) 104241 hs rfl rfl hk rfl rfl rfl rfl sz3 rfl rfl rfl rfl fun w a hk hs => ?_
              show wpList _ _ _ [] _ _
              refine wpList_nil ?_
              obtain rfl := Option.some.inj H
              show R34 _ _
              rw [hR34]
              exact ⟨y36.2.1, y36.2.2, (w64 (1 + y36.1)), rfl, (hk.c 0 rfl (hk.c 2 rfl (hk.c 3 rfl hk.k))), (hs.pick [(1, 1), (3, 3), (104241, 104241)] rfl)⟩
            · have hk := hk.lit 24 c35 rfl
              refine cnd_false hk rfl rfl ?_
              apply wp_seq_k; intro K38 hK38
              apply wp_region_lit
              refine sv (.bool ((([2, 2, (w64 (1 + y_r4_1_1.1))]).getD (y_r4_5_1.1).toNat 0) == 5)) hk rfl rfl rfl fun a hk => ?_
              refine sa _ rfl hk rfl rfl rfl fun a hk => ?_
              show wpList _ _ _ [] _ _
              refine wpList_nil ?_
              refine hK38 _ _ ?_
              obtain ⟨o43, h44, HL45⟩ := bind_some H
              clear H
              obtain ⟨R46, hR46⟩ : ∃ R : Act → World → Prop, R = fun a w => ∃ (u40 : Int) (u41 : Int) (u42 : Int), (u40, u41, u42) = o43 ∧ Kn [(0, (.pointer (some ⟨b0_, 0, none⟩))), (2, (.pointer (some ⟨b2, 0, none⟩))), (3, (.pointer (some ⟨b_r4_12_1, 0, none⟩)))] 42 a ∧ Sat (blks [(1, [(b0_, .cells #[.slice A0_0 x0.code.length p0_0, .int .i64 x0.at_, .int .i64 x0.seed] 159 (0, 0))])]) w0 w [(2, k0_0)] [(1, [(b0_, .cells #[.slice A0_0 x0.code.length p0_0, .int .i64 u40, .int .i64 u41] 159 (0, 0))]), (3, [(b2, .cells #[.int .i64 0, .int .i64 0, .int .i64 0] 31 (0, 0))]), (104241, [(b_r4_12_1, .cells #[.int .i64 (([2, 2, (w64 (1 + y_r4_1_1.1))]).getD (y_r4_5_1.1).toNat 0), .int .i64 (w64 (1 + y_r4_9_1.1)), .int .i64 u42] 31 (0, 0))])] := ⟨_, rfl⟩
              refine wp_cutq R46 ?_ ?_
              · have H := h44
                rcases cond_some H with ⟨c47, H⟩ | ⟨c47, H⟩
                · have hk := hk.lit 30 c47 rfl
                  refine cnd_true hk rfl rfl ?_
                  apply wp_region_lit
                  refine sm _ rfl hk rfl rfl rfl fun a hk => ?_
                  obtain ⟨y48, h49, H⟩ := bind_some H
                  refine sc rfl en134 hk rfl rfl rfl (spec_l00Src_next_t _ b0_ (⟨x0.code, y_r4_9_1.2.1, y_r4_9_1.2.2⟩ : S_l00Src) A0_0 p0_0 _ v0_0 (hs.hasD (k := 2) rfl) 5 ((hs.hand [(1, 1)] rfl).dpick [(2, 2)] rfl) _ h49) ?_
                  rintro _ w ⟨rfl, hG⟩ a hk
                  have hs := hs.back [(1, 1)] rfl hG [1] rfl
                  refine sbs (L := (Lay.int .i64)) (pv := [(0, (.int .i64 y48.1)), (1, (.int .i64 999999))]) (xs := [y48.1, 999999]) (ess := [[.int .i64 y48.1], [.int .i64 999999]]) 9 hs rfl hk rfl rfl rfl un27 (bs3_0 y48.1 999999) (AllOwn.cons0 ⟨rfl, rfl⟩ (AllOwn.cons0 ⟨rfl, rfl⟩ AllOwn.nil)) rfl rfl rfl fun b50 k51 w a hk o52 hs => ?_
                  refine sm _ rfl hk rfl rfl rfl fun a hk => ?_
                  obtain ⟨y53, h54, H⟩ := bind_some H
                  refine sc rfl en134 hk rfl rfl rfl (spec_l00Src_next_t _ b0_ (⟨x0.code, y48.2.1, y48.2.2⟩ : S_l00Src) A0_0 p0_0 _ v0_0 (hs.hasD (k := 2) rfl) 9 ((hs.hand [(1, 1)] rfl).dpick [(2, 2)] rfl) _ h54) ?_
                  rintro _ w ⟨rfl, hG⟩ a hk
                  have hs := hs.back [(1, 1)] rfl hG [1] rfl
                  refine sv (.int .i64 (IntKind.wrap .i64 (Int.tdiv y53.1 8))) hk rfl rfl rfl fun a hk => ?_
                  rcases ite_some H with ⟨c55, H⟩ | ⟨_, H⟩
                  rotate_left
                  · cases H
                  obtain ⟨b56, q57, hAc55⟩ := (o52.view).some_ (IntKind.wrap .i64 (Int.tdiv y53.1 8)) c55.1 c55.2
                  refine si rfl hk rfl rfl rfl rfl un27 sz3 c55.1 c55.2 hAc55 fun a hk => ?_
                  obtain ⟨_, rfl, e58⟩ := (o52.view).at_ 0 (IntKind.wrap .i64 (Int.tdiv y53.1 8)) c55.1 c55.2
                  refine sl (v := (.int .i64 (([y48.1, 999999]).getD (IntKind.wrap .i64 (Int.tdiv y53.1 8)).toNat 0))) rfl hk rfl rfl rfl ag3 ((e58 0 _ rfl).cell (hs.hasG (k := 9) rfl)) fun a hk => ?_
                  refine sf ⟨b_r4_12_1, 2, none⟩ rfl hk rfl rfl rfl fd31_2 rfl fun a hk => ?_
                  refine ssx (cs' := #[.int .i64 (([2, 2, (w64 (1 + y_r4_1_1.1))]).getD (y_r4_5_1.1).toNat 0), .int .i64 (w64 (1 + y_r4_9_1.1)), .int .i64 (([y48.1, 999999]).getD (IntKind.wrap .i64 (Int.tdiv y53.1 8)).toNat 0)]) 104241 hs rfl rfl hk rfl rfl rfl rfl sz3 rfl rfl rfl rfl fun w a hk hs => ?_
                  show wpList _ _ _ [] _ _
                  refine wpList_nil ?_
                  obtain rfl := Option.some.inj H
                  show R46 _ _
                  rw [hR46]
                  exact ⟨y53.2.1, y53.2.2, (([y48.1, 999999]).getD (IntKind.wrap .i64 (Int.tdiv y53.1 8)).toNat 0), rfl, (hk.c 0 rfl (hk.c 2 rfl (hk.c 3 rfl hk.k))), (hs.pick [(1, 1), (3, 3), (104241, 104241)] rfl)⟩
                · have hk := hk.lit 30 c47 rfl
                  refine cnd_false hk rfl rfl ?_
                  apply wp_region_lit
                  refine sm _ rfl hk rfl rfl rfl fun a hk => ?_
                  obtain ⟨y59, h60, H⟩ := bind_some H
                  refine sc rfl en134 hk rfl rfl rfl (spec_l00Src_next_t _ b0_ (⟨x0.code, y_r4_9_1.2.1, y_r4_9_1.2.2⟩ : S_l00Src) A0_0 p0_0 _ v0_0 (hs.hasD (k := 2) rfl) 4 ((hs.hand [(1, 1)] rfl).dpick [(2, 2)] rfl) _ h60) ?_
                  rintro _ w ⟨rfl, hG⟩ a hk
                  have hs := hs.back [(1, 1)] rfl hG [1] rfl
                  refine sf ⟨b_r4_12_1, 2, none⟩ rfl hk rfl rfl rfl fd31_2 rfl fun a hk => ?_
                  refine ssx (cs' := #[.int .i64 (([2, 2, (w64 (1 + y_r4_1_1.1))]).getD (y_r4_5_1.1).toNat 0), .int .i64 (w64 (1 + y_r4_9_1.1)), .int .i64 y59.1]) 104241 hs rfl rfl hk rfl rfl rfl rfl sz3 rfl rfl rfl rfl fun w a hk hs => ?_
                  show wpList _ _ _ [] _ _
                  refine wpList_nil ?_
                  obtain rfl := Option.some.inj H
                  show R46 _ _
                  rw [hR46]
                  exact ⟨y59.2.1, y59.2.2, y59.1, rfl, (hk.c 0 rfl (hk.c 2 rfl (hk.c 3 rfl hk.k))), (hs.pick [(1, 1), (3, 3), (104241, 104241)] rfl)⟩
              · intro a w hR0
                rw [hR46] at hR0
                obtain ⟨u40, u41, u42, rfl, hk, hs⟩ := hR0
                have H := HL45
                try dsimp only at H
                obtain rfl := Option.some.inj H
                show R34 _ _
                rw [hR34]
                exact ⟨u40, u41, u42, rfl, (hk.c 0 rfl (hk.c 2 rfl (hk.c 3 rfl hk.k))), (hs.pick [(1, 1), (3, 3), (104241, 104241)] rfl)⟩
          · intro a w hR0
            rw [hR34] at hR0
            obtain ⟨u28, u29, u30, rfl, hk, hs⟩ := hR0
            have H := HL33
            try dsimp only at H
            obtain rfl := Option.some.inj H
            show R24 _ _
            rw [hR24]
            exact ⟨u28, u29, u30, rfl, (hk.c 0 rfl (hk.c 2 rfl (hk.c 3 rfl hk.k))), (hs.pick [(1, 1), (3, 3), (104241, 104241)] rfl)⟩
      · intro a w hR0
        rw [hR24] at hR0
        obtain ⟨u18, u19, u20, rfl, hk, hs⟩ := hR0
        have H := HL23
        try dsimp only at H
        refine hK6 _ _ ?_
        apply wp_seq_k; intro K61 hK61
        apply wp_region_lit
        refine sln [.int .i64 (([2, 2, (w64 (1 + y_r4_1_1.1))]).getD (y_r4_5_1.1).toNat 0), .int .i64 (w64 (1 + y_r4_9_1.1)), .int .i64 u20] rfl hk rfl rfl rfl ag31 sz31 (box_cells hs (k := 104241) rfl) fun a hk => ?_
        refine ssw 3 hs rfl rfl hk rfl rfl rfl rfl sz31 (by simp [Value.oneCell']) rfl fun w a hk hs => ?_
        show wpList _ _ _ [] _ _
        refine wpList_nil ?_
        refine hK61 _ _ ?_
        refine wp_ret ?_
        obtain rfl := Option.some.inj H
        exact fin hk _ [(.agg #[.int .i64 (([2, 2, (w64 (1 + y_r4_1_1.1))]).getD (y_r4_5_1.1).toNat 0), .int .i64 (w64 (1 + y_r4_9_1.1)), .int .i64 u20])] rfl ⟨⟨_, rfl, run_loadN ag31 sz31 (box_cells hs (k := 3) rfl)⟩, trivial⟩ ⟨rfl, (hs.pick [(0, 1)] rfl).dnil⟩

noncomputable def spec_l00Src_batch.s1 (x0 : S_l00Src) (u51 : Int) (u52 : Int) (u53 : Int) (u59 : List S_Op) : Option ((Int × Int × Int × (List S_Op)) ⊕ Ex (Int × Int × (List S_Op)) ((List S_Txn) × Int × Int)) :=
  (bif (decide (u51 > 0)) then ((spec_l00Src_op.f (⟨x0.code, u52, u53⟩ : S_l00Src)).bind fun y84 => (if u59.length + ([y84.1]).length ≤ 1073741824 then (some (.inl ((w64 (u51 - 1)), y84.2.1, y84.2.2, (u59 ++ ([y84.1]))))) else none)) else (some (.inr (.out (u52, u53, u59)))))
noncomputable def spec_l00Src_batch.s0 (x0 : S_l00Src) (u19 : List S_Txn) (u16 : Int) (u17 : Int) (u18 : Int) : Option (((List S_Txn) × Int × Int × Int) ⊕ Ex ((List S_Txn) × Int × Int) ((List S_Txn) × Int × Int)) :=
  (bif (decide (u16 > 0)) then ((spec_l00Src_next.f (⟨x0.code, u17, u18⟩ : S_l00Src) 4).bind fun y47 => ((loopO (fun s => spec_l00Src_batch.s1 x0 s.1 s.2.1 s.2.2.1 s.2.2.2) ((w64 (1 + y47.1)), y47.2.1, y47.2.2, ([] : List S_Op))).bind fun o => match o with | .out (u64, u65, u66) => (if u19.length + ([(⟨u66⟩ : S_Txn)]).length ≤ 1073741824 then (some (.inl ((u19 ++ ([(⟨u66⟩ : S_Txn)])), (w64 (u16 - 1)), u64, u65))) else none) | .ret r => (some (.inr (.ret r))))) else (some (.inr (.out (u19, u17, u18)))))
noncomputable def spec_l00Src_batch.f (x0 : S_l00Src) : Option ((List S_Txn) × Int × Int) :=
  ((spec_l00Src_next.f x0 2).bind fun y8 => ((loopO (fun s => spec_l00Src_batch.s0 x0 s.1 s.2.1 s.2.2.1 s.2.2.2) (([] : List S_Txn), (w64 (1 + y8.1)), y8.2.1, y8.2.2)).bind fun o => match o with | .out (u24, u29, u30) => (some (u24, u29, u30)) | .ret r => (some r)))
set_option maxRecDepth 100000 in
set_option maxHeartbeats 0 in
theorem spec_l00Src_batch_t (w0 : World) (b0_ : Nat) (x0 : S_l00Src) (A0_0 : Option Addr) (p0_0 : Nat) (k0_0 : Chunk) (v0_0 : View (Lay.int .u8) A0_0 p0_0 x0.code k0_0) (w0_0 : Has w0 k0_0) (hs0 : Sat (blks [(1, [(b0_, .cells #[.slice A0_0 x0.code.length p0_0, .int .i64 x0.at_, .int .i64 x0.seed] 159 (0, 0))])]) w0 w0 [(2, k0_0)] [(1, [(b0_, .cells #[.slice A0_0 x0.code.length p0_0, .int .i64 x0.at_, .int .i64 x0.seed] 159 (0, 0))])]) (r : (List S_Txn) × Int × Int) (H : spec_l00Src_batch.f x0 = some r) :
    Calls Try.prog 136 #[.pointer (some ⟨b0_, 0, none⟩)] w0 (Ret (fun v w => ∃ (A0 : Option Addr) (p0 : Nat) (k0 : Chunk), v = .slice A0 r.1.length p0 ∧ Own L_impl_Txn 48 A0 p0 r.1 k0 ∧ Sat (blks [(1, [(b0_, .cells #[.slice A0_0 x0.code.length p0_0, .int .i64 x0.at_, .int .i64 x0.seed] 159 (0, 0))])]) w0 w [] [(0, k0), (1, [(b0_, .cells #[.slice A0_0 x0.code.length p0_0, .int .i64 r.2.1, .int .i64 r.2.2] 159 (0, 0))])])) := by
  have hs := hs0
  unfold spec_l00Src_batch.f at H
  refine enter Try.func136 rfl Try.ntmps136 rfl fun a hk => ?_
  apply wp_seq_k; intro K1 hK1
  apply wp_region_lit
  refine sa _ rfl hk rfl rfl rfl fun a hk => ?_
  show wpList _ _ _ [] _ _
  refine wpList_nil ?_
  refine hK1 _ _ ?_
  apply wp_seq_k; intro K2 hK2
  apply wp_region_lit
  refine sbs0 3 L_impl_Txn hs rfl hk rfl rfl un163 sz48 fun b3 k4 w a hk o5 hs => ?_
  refine sa _ rfl hk rfl rfl rfl fun a hk => ?_
  show wpList _ _ _ [] _ _
  refine wpList_nil ?_
  refine hK2 _ _ ?_
  apply wp_seq_k; intro K6 hK6
  apply wp_seq_k; intro K7 hK7
  apply wp_region_lit
  refine sm _ rfl hk rfl rfl rfl fun a hk => ?_
  obtain ⟨y8, h9, H⟩ := bind_some H
  refine sc rfl en134 hk rfl rfl rfl (spec_l00Src_next_t _ b0_ x0 A0_0 p0_0 _ v0_0 (hs.hasD (k := 2) rfl) 2 ((hs.hand [(1, 1)] rfl).dpick [(2, 2)] rfl) _ h9) ?_
  rintro _ w ⟨rfl, hG⟩ a hk
  have hs := hs.back [(1, 1)] rfl hG [1] rfl
  refine sv (.int .i64 (w64 (1 + y8.1))) hk rfl rfl rfl fun a hk => ?_
  refine sa _ rfl hk rfl rfl rfl fun a hk => ?_
  show wpList _ _ _ [] _ _
  refine wpList_nil ?_
  refine hK7 _ _ ?_
  obtain ⟨o31, h32, HL33⟩ := bind_some H
  clear H
  obtain ⟨R34, hR34⟩ : ∃ R : Act → World → Prop, R = fun a w => ∃ (u24 : List S_Txn) (u29 : Int) (u30 : Int) (A27 : Option Addr) (p28 : Nat) (k25 : Chunk), o31 = .out (u24, u29, u30) ∧ Kn [(0, (.pointer (some ⟨b0_, 0, none⟩))), (3, (.slice A27 u24.length p28))] 35 a ∧ Sat (blks [(1, [(b0_, .cells #[.slice A0_0 x0.code.length p0_0, .int .i64 x0.at_, .int .i64 x0.seed] 159 (0, 0))])]) w0 w [(2, k0_0)] [(3, k25), (1, [(b0_, .cells #[.slice A0_0 x0.code.length p0_0, .int .i64 u29, .int .i64 u30] 159 (0, 0))])] ∧ Own L_impl_Txn 48 A27 p28 u24 k25 := ⟨_, rfl⟩
  refine wp_cutq R34 ?_ ?_
  · refine wp_block ?_
    obtain ⟨fu36, h32⟩ := loopO_some h32
    obtain ⟨I35, hI35⟩ : ∃ I : Nat → Act → World → Prop, I = fun fu a w => ∃ (u19 : List S_Txn) (u16 : Int) (u17 : Int) (u18 : Int) (A22 : Option Addr) (p23 : Nat) (k20 : Chunk), loopN (fun s => spec_l00Src_batch.s0 x0 s.1 s.2.1 s.2.2.1 s.2.2.2) fu (u19, u16, u17, u18) = some o31 ∧ Kn [(0, (.pointer (some ⟨b0_, 0, none⟩))), (3, (.slice A22 u19.length p23)), (4, (.int .i64 u16))] 35 a ∧ Sat (blks [(1, [(b0_, .cells #[.slice A0_0 x0.code.length p0_0, .int .i64 x0.at_, .int .i64 x0.seed] 159 (0, 0))])]) w0 w [(2, k0_0)] [(3, k20), (1, [(b0_, .cells #[.slice A0_0 x0.code.length p0_0, .int .i64 u17, .int .i64 u18] 159 (0, 0))])] ∧ Own L_impl_Txn 48 A22 p23 u19 k20 := ⟨_, rfl⟩
    refine wp_loop_ghost I35 fu36 ?_ ?_
    · rw [hI35]
      exact ⟨([] : List S_Txn), (w64 (1 + y8.1)), y8.2.1, y8.2.2, (some ⟨b3, 0, none⟩), 0, _, h32, (hk.c 0 rfl (hk.c 3 rfl (hk.c 4 rfl hk.k))), (hs.pick [(3, 3), (1, 1)] rfl), o5⟩
    · clear h32 hk hs
      intro fu36 a w hI0
      rw [hI35] at hI0
      obtain ⟨u19, u16, u17, u18, A22, p23, k20, hi, hk, hs, o21⟩ := hI0
      obtain ⟨x37, H, h38⟩ := loop_round hi
      try dsimp only at H
      unfold spec_l00Src_batch.s0 at H
      apply wp_seq_k; intro K39 hK39
      apply wp_seq_k; intro K40 hK40
      apply wp_region_lit
      refine sm _ rfl hk rfl rfl rfl fun a hk => ?_
      refine sv (.bool (decide (u16 > 0))) hk rfl rfl rfl fun a hk => ?_
      show wpList _ _ _ [] _ _
      refine wpList_nil ?_
      refine hK40 _ _ ?_
      rcases cond_some H with ⟨c41, H⟩ | ⟨c41, H⟩
      · have hk := hk.lit 12 c41 rfl
        refine cnd_true hk rfl rfl ?_
        refine wp_skip ?_
        refine hK39 _ _ ?_
        apply wp_seq_k; intro K42 hK42
        refine wp_block ?_
        apply wp_seq_k; intro K43 hK43
        apply wp_region_lit
        refine sbd (pv := []) rfl hk rfl rfl rfl bd48_10 fun a hk => ?_
        refine salx 5 hs rfl hk rfl rfl ze48 rfl fun b44 w a hk hs => ?_
        refine ssw 5 hs rfl rfl hk rfl rfl rfl rfl sz48 (by simp [Value.oneCell']) rfl fun w a hk hs => ?_
        show wpList _ _ _ [] _ _
        refine wpList_nil ?_
        refine hK43 _ _ ?_
        apply wp_seq_k; intro K45 hK45
        apply wp_seq_k; intro K46 hK46
        apply wp_region_lit
        refine sm _ rfl hk rfl rfl rfl fun a hk => ?_
        obtain ⟨y47, h48, H⟩ := bind_some H
        refine sc rfl en134 hk rfl rfl rfl (spec_l00Src_next_t _ b0_ (⟨x0.code, u17, u18⟩ : S_l00Src) A0_0 p0_0 _ v0_0 (hs.hasD (k := 2) rfl) 4 ((hs.hand [(1, 1)] rfl).dpick [(2, 2)] rfl) _ h48) ?_
        rintro _ w ⟨rfl, hG⟩ a hk
        have hs := hs.back [(1, 1)] rfl hG [1] rfl
        refine sv (.int .i64 (w64 (1 + y47.1))) hk rfl rfl rfl fun a hk => ?_
        refine sa _ rfl hk rfl rfl rfl fun a hk => ?_
        show wpList _ _ _ [] _ _
        refine wpList_nil ?_
        refine hK46 _ _ ?_
        obtain ⟨o71, h72, HL73⟩ := bind_some H
        clear H
        obtain ⟨R74, hR74⟩ : ∃ R : Act → World → Prop, R = fun a w => ∃ (u64 : Int) (u65 : Int) (u66 : List S_Op) (A69 : Option Addr) (p70 : Nat) (k67 : Chunk), o71 = .out (u64, u65, u66) ∧ Kn [(0, (.pointer (some ⟨b0_, 0, none⟩))), (3, (.slice A22 u19.length p23)), (4, (.int .i64 u16)), (5, (.pointer (some ⟨b44, 0, none⟩)))] 35 a ∧ Sat (blks [(1, [(b0_, .cells #[.slice A0_0 x0.code.length p0_0, .int .i64 x0.at_, .int .i64 x0.seed] 159 (0, 0))])]) w0 w [(2, k0_0)] [(3, k20), (1, [(b0_, .cells #[.slice A0_0 x0.code.length p0_0, .int .i64 u64, .int .i64 u65] 159 (0, 0))]), (5, [(b44, .cells #[.slice A69 u66.length p70] 48 (0, 0))]), (8, k67)] ∧ Own L_Op 31 A69 p70 u66 k67 := ⟨_, rfl⟩
        refine wp_cutq R74 ?_ ?_
        · refine wp_block ?_
          obtain ⟨fu76, h72⟩ := loopO_some h72
          obtain ⟨I75, hI75⟩ : ∃ I : Nat → Act → World → Prop, I = fun fu a w => ∃ (u51 : Int) (u52 : Int) (u53 : Int) (u59 : List S_Op) (A62 : Option Addr) (p63 : Nat) (k60 : Chunk), loopN (fun s => spec_l00Src_batch.s1 x0 s.1 s.2.1 s.2.2.1 s.2.2.2) fu (u51, u52, u53, u59) = some o71 ∧ Kn [(0, (.pointer (some ⟨b0_, 0, none⟩))), (3, (.slice A22 u19.length p23)), (4, (.int .i64 u16)), (5, (.pointer (some ⟨b44, 0, none⟩))), (6, (.int .i64 u51))] 35 a ∧ Sat (blks [(1, [(b0_, .cells #[.slice A0_0 x0.code.length p0_0, .int .i64 x0.at_, .int .i64 x0.seed] 159 (0, 0))])]) w0 w [(2, k0_0)] [(3, k20), (1, [(b0_, .cells #[.slice A0_0 x0.code.length p0_0, .int .i64 u52, .int .i64 u53] 159 (0, 0))]), (5, [(b44, .cells #[.slice A62 u59.length p63] 48 (0, 0))]), (8, k60)] ∧ Own L_Op 31 A62 p63 u59 k60 := ⟨_, rfl⟩
          refine wp_loop_ghost I75 fu76 ?_ ?_
          · rw [hI75]
            exact ⟨(w64 (1 + y47.1)), y47.2.1, y47.2.2, ([] : List S_Op), none, 0, _, h72, (hk.c 0 rfl (hk.c 3 rfl (hk.c 4 rfl (hk.c 5 rfl (hk.c 6 rfl hk.k))))), ((hs.addNil 1008).pick [(3, 3), (1, 1), (5, 5), (8, 1008)] rfl), Own.nil _ _⟩
          · clear h72 hk hs
            intro fu76 a w hI0
            rw [hI75] at hI0
            obtain ⟨u51, u52, u53, u59, A62, p63, k60, hi, hk, hs, o61⟩ := hI0
            obtain ⟨x77, H, h78⟩ := loop_round hi
            try dsimp only at H
            unfold spec_l00Src_batch.s1 at H
            apply wp_seq_k; intro K79 hK79
            apply wp_seq_k; intro K80 hK80
            apply wp_region_lit
            refine sm _ rfl hk rfl rfl rfl fun a hk => ?_
            refine sv (.bool (decide (u51 > 0))) hk rfl rfl rfl fun a hk => ?_
            show wpList _ _ _ [] _ _
            refine wpList_nil ?_
            refine hK80 _ _ ?_
            rcases cond_some H with ⟨c81, H⟩ | ⟨c81, H⟩
            · have hk := hk.lit 20 c81 rfl
              refine cnd_true hk rfl rfl ?_
              refine wp_skip ?_
              refine hK79 _ _ ?_
              apply wp_seq_k; intro K82 hK82
              refine wp_block ?_
              refine wp_region_tree (.q 0 (.q 1 (.alt 2 (.alt 3 (.alt 4 (.alt 5 (.alt 6 (.last 7) .stop) .stop) .stop) .stop) .stop))) mo (by kernel_rfl) (hs.pick [(3, 3), (5, 5)] rfl) fun _ => ?_
              have hs := hs.drew
              refine tqst (.pointer (some ⟨b44, 0, none⟩)) hk rfl rfl rfl rfl (fun w hs => sf ⟨b44, 0, none⟩ rfl hk rfl rfl rfl fd48_0 rfl fun a hk => qe hk) fun a hk => ?_
              refine tqst (.slice A62 u59.length p63) hk rfl rfl rfl rfl (fun w hs => sl rfl hk rfl rfl rfl ag46 (box_cell hs (k := 5) rfl rfl) fun a hk => qe hk) fun a hk => ?_
              refine tsst hk rfl rfl (fun K_r83_2 hK_r83_2 w hF => ?_) wt_stop
              have hs := hs.f hF
              refine sm _ rfl hk rfl rfl rfl fun a hk => ?_
              refine se (hs.pick [(3, 3), (5, 5)] rfl) hk (hK_r83_2 _ _ ?_)
              refine tsst hk rfl rfl (fun K_r83_3 hK_r83_3 w hF => ?_) wt_stop
              have hs := hs.f hF
              obtain ⟨y84, h85, H⟩ := bind_some H
              refine sc rfl en171 hk rfl rfl rfl (spec_l00Src_op_t _ b0_ (⟨x0.code, u52, u53⟩ : S_l00Src) A0_0 p0_0 _ v0_0 (hs.hasD (k := 2) rfl) ((hs.hand [(1, 1)] rfl).dpick [(2, 2)] rfl) _ h85) ?_
              rintro _ w ⟨rfl, hG⟩ a hk
              have hs := hs.back [(1, 1)] rfl hG [1] rfl
              refine se (hs.pick [(3, 3), (5, 5)] rfl) hk (hK_r83_3 _ _ ?_)
              refine tsst hk rfl rfl (fun K_r83_4 hK_r83_4 w hF => ?_) wt_stop
              have hs := hs.f hF
              refine sbs (L := L_Op) (pv := [(0, (.agg #[.int .i64 y84.1.Kind, .int .i64 y84.1.Key, .int .i64 y84.1.Value]))]) (xs := [y84.1]) (ess := [[.int .i64 y84.1.Kind, .int .i64 y84.1.Key, .int .i64 y84.1.Value]]) 10 hs rfl hk rfl rfl rfl un46 (bs31_11 y84.1.Kind y84.1.Key y84.1.Value) (AllOwn.cons0 ⟨rfl, rfl⟩ AllOwn.nil) rfl rfl rfl fun b86 k87 w a hk o88 hs => ?_
              refine se (hs.pick [(3, 3), (5, 5)] rfl) hk (hK_r83_4 _ _ ?_)
              refine tsst hk rfl rfl (fun K_r83_5 hK_r83_5 w hF => ?_) wt_stop
              have hs := hs.f hF
              rcases ite_some H with ⟨c89, H⟩ | ⟨_, H⟩
              rotate_left
              · cases H
              refine sap 8 (xs := u59) (ys := [y84.1]) (flat_flat : (L_Op).Flat) hs rfl o61 o88.view (hs.hasG (k := 10) rfl) rfl hk rfl rfl rfl rfl rfl rfl un46 mk31 rfl rfl rfl c89 fun A90 p91 k92 w a hk o93 hs => ?_
              refine se (hs.pick [(3, 3), (5, 5)] rfl) hk (hK_r83_5 _ _ ?_)
              refine tsst hk rfl rfl (fun K_r83_6 hK_r83_6 w hF => ?_) wt_stop
              have hs := hs.f hF
              refine sf ⟨b44, 0, none⟩ rfl hk rfl rfl rfl fd48_0 rfl fun a hk => ?_
              refine se (hs.pick [(3, 3), (5, 5)] rfl) hk (hK_r83_6 _ _ ?_)
              refine tlst hk rfl rfl fun K_r83_7 hK_r83_7 w hF => ?_
              have hs := hs.f hF
              refine ssx (cs' := #[.slice A90 (u59 ++ ([y84.1])).length p91]) 5 hs rfl rfl hk rfl rfl rfl rfl sz46 rfl rfl rfl rfl fun w a hk hs => ?_
              refine se trivial hk (hK_r83_7 _ _ fun w hF => ?_)
              have hs := hs.f hF
              refine hK82 _ _ ?_
              apply wp_region_lit
              refine sm _ rfl hk rfl rfl rfl fun a hk => ?_
              refine sv (.int .i64 (w64 (u51 - 1))) hk rfl rfl rfl fun a hk => ?_
              refine sa _ rfl hk rfl rfl rfl fun a hk => ?_
              show wpList _ _ _ [] _ _
              refine wpList_nil ?_
              obtain rfl := Option.some.inj H
              obtain ⟨m94, hmm94, h78⟩ := h78
              show ∃ n', n' < _ ∧ I75 n' _ _
              refine ⟨m94, hmm94, ?_⟩
              rw [hI75]
              exact ⟨(w64 (u51 - 1)), y84.2.1, y84.2.2, (u59 ++ ([y84.1])), A90, p91, _, h78, (hk.c 0 rfl (hk.c 3 rfl (hk.c 4 rfl (hk.c 5 rfl (hk.c 6 rfl hk.k))))), (hs.pick [(3, 3), (1, 1), (5, 5), (8, 8)] rfl), o93⟩
            · have hk := hk.lit 20 c81 rfl
              refine cnd_false hk rfl rfl ?_
              refine wp_exit ?_
              obtain rfl := Option.some.inj H
              show R74 _ _
              rw [hR74]
              exact ⟨u52, u53, u59, A62, p63, _, h78.symm, (hk.c 0 rfl (hk.c 3 rfl (hk.c 4 rfl (hk.c 5 rfl hk.k)))), (hs.pick [(3, 3), (1, 1), (5, 5), (8, 8)] rfl), o61⟩
        · intro a w hR0
          rw [hR74] at hR0
          obtain ⟨u64, u65, u66, A69, p70, k67, rfl, hk, hs, o68⟩ := hR0
          have H := HL73
          try dsimp only at H
          refine hK45 _ _ ?_
          apply wp_region_lit
          refine sm _ rfl hk rfl rfl rfl fun a hk => ?_
          refine sln [.slice A69 u66.length p70] rfl hk rfl rfl rfl ag48 sz48 (box_cells hs (k := 5) rfl) fun a hk => ?_
          refine sbs1 (L := L_impl_Txn) (pv := [(0, (.agg #[.slice A69 u66.length p70]))]) (xs := [(⟨u66⟩ : S_Txn)]) (ess := [[.slice A69 u66.length p70]]) 11 8 hs rfl rfl hk rfl rfl rfl un163 (bs48_12 A69 u66.length p70) (AllOwn.one ⟨_, rfl, o68.toV⟩) rfl rfl rfl fun b95 k96 w a hk o97 hs => ?_
          rcases ite_some H with ⟨c98, H⟩ | ⟨_, H⟩
          rotate_left
          · cases H
          refine sapm 3 11 (xs := u19) (ys := [(⟨u66⟩ : S_Txn)]) hs rfl rfl o21 o97 rfl hk rfl rfl rfl rfl rfl rfl un163 mk48 rfl rfl rfl c98 fun A99 p100 k101 w a hk o102 hs => ?_
          refine sa _ rfl hk rfl rfl rfl fun a hk => ?_
          show wpList _ _ _ [] _ _
          refine wpList_nil ?_
          refine hK42 _ _ ?_
          apply wp_region_lit
          refine sm _ rfl hk rfl rfl rfl fun a hk => ?_
          refine sv (.int .i64 (w64 (u16 - 1))) hk rfl rfl rfl fun a hk => ?_
          refine sa _ rfl hk rfl rfl rfl fun a hk => ?_
          show wpList _ _ _ [] _ _
          refine wpList_nil ?_
          obtain rfl := Option.some.inj H
          obtain ⟨m103, hmm103, h38⟩ := h38
          show ∃ n', n' < _ ∧ I35 n' _ _
          refine ⟨m103, hmm103, ?_⟩
          rw [hI35]
          exact ⟨(u19 ++ ([(⟨u66⟩ : S_Txn)])), (w64 (u16 - 1)), u64, u65, A99, p100, _, h38, (hk.c 0 rfl (hk.c 3 rfl (hk.c 4 rfl hk.k))), (hs.pick [(3, 3), (1, 1)] rfl), o102⟩
      · have hk := hk.lit 12 c41 rfl
        refine cnd_false hk rfl rfl ?_
        refine wp_exit ?_
        obtain rfl := Option.some.inj H
        show R34 _ _
        rw [hR34]
        exact ⟨u19, u17, u18, A22, p23, _, h38.symm, (hk.c 0 rfl (hk.c 3 rfl hk.k)), (hs.pick [(3, 3), (1, 1)] rfl), o21⟩
  · intro a w hR0
    rw [hR34] at hR0
    obtain ⟨u24, u29, u30, A27, p28, k25, rfl, hk, hs, o26⟩ := hR0
    have H := HL33
    try dsimp only at H
    refine hK6 _ _ ?_
    apply wp_seq_k; intro K104 hK104
    apply wp_region_lit
    refine sm _ rfl hk rfl rfl rfl fun a hk => ?_
    refine sa _ rfl hk rfl rfl rfl fun a hk => ?_
    show wpList _ _ _ [] _ _
    refine wpList_nil ?_
    refine hK104 _ _ ?_
    refine wp_ret ?_
    obtain rfl := Option.some.inj H
    exact fin hk _ [(.slice A27 u24.length p28)] rfl ⟨rfl, trivial⟩ ⟨A27, p28, _, rfl, o26, (hs.pick [(0, 3), (1, 1)] rfl).dnil⟩

noncomputable def spec_l00Src_entries.s0 (x0 : S_l00Src) (u12 : List S_Entry) (u16 : Int) (u17 : Int) (u18 : Int) : Option (((List S_Entry) × Int × Int × Int) ⊕ Ex ((List S_Entry) × Int × Int) ((List S_Entry) × Int × Int)) :=
  (bif (decide (u16 > 0)) then ((spec_l00Src_batch.f (⟨x0.code, u17, u18⟩ : S_l00Src)).bind fun y38 => ((spec_l10Batch.f u12 y38.1).bind fun y44 => (some (.inl (y44.1, (w64 (u16 - 1)), y38.2.1, y38.2.2))))) else (some (.inr (.out (u12, u17, u18)))))
noncomputable def spec_l00Src_entries.f (x0 : S_l00Src) : Option ((List S_Entry) × Int × Int) :=
  ((spec_l00Src_next.f x0 9).bind fun y8 => ((loopO (fun s => spec_l00Src_entries.s0 x0 s.1 s.2.1 s.2.2.1 s.2.2.2) (([] : List S_Entry), y8.1, y8.2.1, y8.2.2)).bind fun o => match o with | .out (u19, u23, u24) => (some (u19, u23, u24)) | .ret r => (some r)))
set_option maxRecDepth 100000 in
set_option maxHeartbeats 0 in
theorem spec_l00Src_entries_t (w0 : World) (b0_ : Nat) (x0 : S_l00Src) (A0_0 : Option Addr) (p0_0 : Nat) (k0_0 : Chunk) (v0_0 : View (Lay.int .u8) A0_0 p0_0 x0.code k0_0) (w0_0 : Has w0 k0_0) (hs0 : Sat (blks [(1, [(b0_, .cells #[.slice A0_0 x0.code.length p0_0, .int .i64 x0.at_, .int .i64 x0.seed] 159 (0, 0))])]) w0 w0 [(2, k0_0)] [(1, [(b0_, .cells #[.slice A0_0 x0.code.length p0_0, .int .i64 x0.at_, .int .i64 x0.seed] 159 (0, 0))])]) (r : (List S_Entry) × Int × Int) (H : spec_l00Src_entries.f x0 = some r) :
    Calls Try.prog 80 #[.pointer (some ⟨b0_, 0, none⟩)] w0 (Ret (fun v w => ∃ (A0 : Option Addr) (p0 : Nat), ∃ (kS : Chunk), v = .slice A0 r.1.length p0 ∧ View L_Entry A0 p0 r.1 (k0_0 ++ kS) ∧ Sat (blks [(1, [(b0_, .cells #[.slice A0_0 x0.code.length p0_0, .int .i64 x0.at_, .int .i64 x0.seed] 159 (0, 0))])]) w0 w [] [(0, [(b0_, .cells #[.slice A0_0 x0.code.length p0_0, .int .i64 r.2.1, .int .i64 r.2.2] 159 (0, 0))]), (1, kS)])) := by
  have hs := hs0
  unfold spec_l00Src_entries.f at H
  refine enter Try.func80 rfl Try.ntmps80 rfl fun a hk => ?_
  apply wp_seq_k; intro K1 hK1
  apply wp_region_lit
  refine sa _ rfl hk rfl rfl rfl fun a hk => ?_
  show wpList _ _ _ [] _ _
  refine wpList_nil ?_
  refine hK1 _ _ ?_
  apply wp_seq_k; intro K2 hK2
  apply wp_region_lit
  refine sbs0 3 L_Entry hs rfl hk rfl rfl un26 sz62 fun b3 k4 w a hk o5 hs => ?_
  refine sa _ rfl hk rfl rfl rfl fun a hk => ?_
  show wpList _ _ _ [] _ _
  refine wpList_nil ?_
  refine hK2 _ _ ?_
  apply wp_seq_k; intro K6 hK6
  apply wp_seq_k; intro K7 hK7
  apply wp_region_lit
  refine sm _ rfl hk rfl rfl rfl fun a hk => ?_
  obtain ⟨y8, h9, H⟩ := bind_some H
  refine sc rfl en134 hk rfl rfl rfl (spec_l00Src_next_t _ b0_ x0 A0_0 p0_0 _ v0_0 (hs.hasD (k := 2) rfl) 9 ((hs.hand [(1, 1)] rfl).dpick [(2, 2)] rfl) _ h9) ?_
  rintro _ w ⟨rfl, hG⟩ a hk
  have hs := hs.back [(1, 1)] rfl hG [1] rfl
  refine sa _ rfl hk rfl rfl rfl fun a hk => ?_
  show wpList _ _ _ [] _ _
  refine wpList_nil ?_
  refine hK7 _ _ ?_
  obtain ⟨o25, h26, HL27⟩ := bind_some H
  clear H
  obtain ⟨R28, hR28⟩ : ∃ R : Act → World → Prop, R = fun a w => ∃ (u19 : List S_Entry) (u23 : Int) (u24 : Int) (A20 : Option Addr) (p21 : Nat) (kf11 : Chunk), o25 = .out (u19, u23, u24) ∧ Kn [(0, (.pointer (some ⟨b0_, 0, none⟩))), (3, (.slice A20 u19.length p21))] 23 a ∧ Sat (blks [(1, [(b0_, .cells #[.slice A0_0 x0.code.length p0_0, .int .i64 x0.at_, .int .i64 x0.seed] 159 (0, 0))])]) w0 w [(2, k0_0)] [(4, kf11), (1, [(b0_, .cells #[.slice A0_0 x0.code.length p0_0, .int .i64 u23, .int .i64 u24] 159 (0, 0))])] ∧ View L_Entry A20 p21 u19 (k0_0 ++ kf11) := ⟨_, rfl⟩
  refine wp_cutq R28 ?_ ?_
  · refine wp_block ?_
    obtain ⟨fu30, h26⟩ := loopO_some h26
    obtain ⟨I29, hI29⟩ : ∃ I : Nat → Act → World → Prop, I = fun fu a w => ∃ (u12 : List S_Entry) (u16 : Int) (u17 : Int) (u18 : Int) (A13 : Option Addr) (p14 : Nat) (kf10 : Chunk), loopN (fun s => spec_l00Src_entries.s0 x0 s.1 s.2.1 s.2.2.1 s.2.2.2) fu (u12, u16, u17, u18) = some o25 ∧ Kn [(0, (.pointer (some ⟨b0_, 0, none⟩))), (3, (.slice A13 u12.length p14)), (4, (.int .i64 u16))] 23 a ∧ Sat (blks [(1, [(b0_, .cells #[.slice A0_0 x0.code.length p0_0, .int .i64 x0.at_, .int .i64 x0.seed] 159 (0, 0))])]) w0 w [(2, k0_0)] [(4, kf10), (1, [(b0_, .cells #[.slice A0_0 x0.code.length p0_0, .int .i64 u17, .int .i64 u18] 159 (0, 0))])] ∧ View L_Entry A13 p14 u12 (k0_0 ++ kf10) := ⟨_, rfl⟩
    refine wp_loop_ghost I29 fu30 ?_ ?_
    · rw [hI29]
      exact ⟨([] : List S_Entry), y8.1, y8.2.1, y8.2.2, (some ⟨b3, 0, none⟩), 0, _, h26, (hk.c 0 rfl (hk.c 3 rfl (hk.c 4 rfl hk.k))), (hs.pick [(4, 3), (1, 1)] rfl), (o5.view).sub (Sub.r _ (Sub.refl _))⟩
    · clear h26 hk hs
      intro fu30 a w hI0
      rw [hI29] at hI0
      obtain ⟨u12, u16, u17, u18, A13, p14, kf10, hi, hk, hs, v15⟩ := hI0
      obtain ⟨x31, H, h32⟩ := loop_round hi
      try dsimp only at H
      unfold spec_l00Src_entries.s0 at H
      apply wp_seq_k; intro K33 hK33
      apply wp_seq_k; intro K34 hK34
      apply wp_region_lit
      refine sm _ rfl hk rfl rfl rfl fun a hk => ?_
      refine sv (.bool (decide (u16 > 0))) hk rfl rfl rfl fun a hk => ?_
      show wpList _ _ _ [] _ _
      refine wpList_nil ?_
      refine hK34 _ _ ?_
      rcases cond_some H with ⟨c35, H⟩ | ⟨c35, H⟩
      · have hk := hk.lit 11 c35 rfl
        refine cnd_true hk rfl rfl ?_
        refine wp_skip ?_
        refine hK33 _ _ ?_
        apply wp_seq_k; intro K36 hK36
        refine wp_block ?_
        apply wp_seq_k; intro K37 hK37
        apply wp_region_lit
        refine sm _ rfl hk rfl rfl rfl fun a hk => ?_
        refine sm _ rfl hk rfl rfl rfl fun a hk => ?_
        obtain ⟨y38, h39, H⟩ := bind_some H
        refine sc rfl en136 hk rfl rfl rfl (spec_l00Src_batch_t _ b0_ (⟨x0.code, u17, u18⟩ : S_l00Src) A0_0 p0_0 _ v0_0 (hs.hasD (k := 2) rfl) ((hs.hand [(1, 1)] rfl).dpick [(2, 2)] rfl) _ h39) ?_
        rintro _ w ⟨A40, p41, k42, rfl, o43, hG⟩ a hk
        have hs := hs.back [(1, 1)] rfl hG [5, 1] rfl
        obtain ⟨y44, h45, H⟩ := bind_some H
        refine sc rfl en135 hk rfl rfl rfl (spec_l10Batch_t _ A13 p14 u12 _ v15 (Has.app (hs.hasD (k := 2) rfl) (hs.hasG (k := 4) rfl)) A40 p41 y38.1 _ o43.view (hs.hasG (k := 5) rfl) _ h45) ?_
        rintro _ w ⟨A47, p48, A50, p51, k52, k46, rfl, v49, o53, hG⟩ a hk
        have hs := hs.call0k hG [7, 6] rfl
        refine sm _ rfl hk rfl rfl rfl fun a hk => ?_
        refine sv (.slice A47 y44.1.length p48) hk rfl rfl rfl fun a hk => ?_
        refine sv (.slice A50 y44.2.length p51) hk rfl rfl rfl fun a hk => ?_
        refine sa _ rfl hk rfl rfl rfl fun a hk => ?_
        refine sa _ rfl hk rfl rfl rfl fun a hk => ?_
        show wpList _ _ _ [] _ _
        refine wpList_nil ?_
        refine hK37 _ _ ?_
        apply wp_region_lit
        refine sm _ rfl hk rfl rfl rfl fun a hk => ?_
        refine sa _ rfl hk rfl rfl rfl fun a hk => ?_
        show wpList _ _ _ [] _ _
        refine wpList_nil ?_
        refine hK36 _ _ ?_
        apply wp_region_lit
        refine sm _ rfl hk rfl rfl rfl fun a hk => ?_
        refine sv (.int .i64 (w64 (u16 - 1))) hk rfl rfl rfl fun a hk => ?_
        refine sa _ rfl hk rfl rfl rfl fun a hk => ?_
        show wpList _ _ _ [] _ _
        refine wpList_nil ?_
        obtain rfl := Option.some.inj H
        obtain ⟨m54, hmm54, h32⟩ := h32
        show ∃ n', n' < _ ∧ I29 n' _ _
        refine ⟨m54, hmm54, ?_⟩
        rw [hI29]
        exact ⟨y44.1, (w64 (u16 - 1)), y38.2.1, y38.2.2, A47, p48, _, h32, (hk.c 0 rfl (hk.c 3 rfl (hk.c 4 rfl hk.k))), (((hs.join (k := 4) (j := 5) 4008 rfl rfl).join (k := 4008) (j := 6) 4009 rfl rfl).pick [(4, 4009), (1, 1)] rfl), (v49).sub (Sub.a (Sub.a (Sub.l _ (Sub.refl _)) (Sub.r _ (Sub.l _ (Sub.l _ (Sub.refl _))))) (Sub.a (Sub.r _ (Sub.l _ (Sub.r _ (Sub.refl _)))) (Sub.r _ (Sub.r _ (Sub.refl _)))))⟩
      · have hk := hk.lit 11 c35 rfl
        refine cnd_false hk rfl rfl ?_
        refine wp_exit ?_
        obtain rfl := Option.some.inj H
        show R28 _ _
        rw [hR28]
        exact ⟨u12, u17, u18, A13, p14, _, h32.symm, (hk.c 0 rfl (hk.c 3 rfl hk.k)), (hs.pick [(4, 4), (1, 1)] rfl), (v15).sub (Sub.refl _)⟩
  · intro a w hR0
    rw [hR28] at hR0
    obtain ⟨u19, u23, u24, A20, p21, kf11, rfl, hk, hs, v22⟩ := hR0
    have H := HL27
    try dsimp only at H
    refine hK6 _ _ ?_
    apply wp_seq_k; intro K55 hK55
    apply wp_region_lit
    refine sm _ rfl hk rfl rfl rfl fun a hk => ?_
    refine sa _ rfl hk rfl rfl rfl fun a hk => ?_
    show wpList _ _ _ [] _ _
    refine wpList_nil ?_
    refine hK55 _ _ ?_
    refine wp_ret ?_
    obtain rfl := Option.some.inj H
    exact fin hk _ [(.slice A20 u19.length p21)] rfl ⟨rfl, trivial⟩ ⟨A20, p21, _, rfl, (v22).sub (Sub.refl _), (hs.pick [(0, 1), (1, 4)] rfl).dnil⟩

noncomputable def spec_EntriesOf.f (l0 : List Int) : Option ((List S_Entry)) :=
  ((spec_l00Source.f l0).bind fun y3 => ((spec_l00Src_entries.f y3).bind fun y10 => (some y10.1)))
set_option maxRecDepth 100000 in
set_option maxHeartbeats 0 in
theorem spec_EntriesOf_t (w0 : World) (A0_ : Option Addr) (p0_ : Nat) (l0 : List Int) (k0_ : Chunk) (v0_ : View (Lay.int .u8) A0_ p0_ l0 k0_) (w0_ : Has w0 k0_) (r : (List S_Entry)) (H : spec_EntriesOf.f l0 = some r) :
    Calls Try.prog 31 #[.slice A0_ l0.length p0_] w0 (Ret (fun v w => ∃ (A0 : Option Addr) (p0 : Nat), ∃ (kS : Chunk), v = .slice A0 r.length p0 ∧ View L_Entry A0 p0 r (k0_ ++ kS) ∧ Sat [] w0 w [] [(0, kS)])) := by
  have hs : Sat [] w0 w0 [(1, k0_)] [] := Sat.init w0 [(1, k0_)] [] (by simp only [List.mem_cons, List.not_mem_nil, or_false]; rintro x (rfl) <;> assumption) (by simp) List.nodup_nil (by simp [blks])
  unfold spec_EntriesOf.f at H
  refine enter Try.func31 rfl Try.ntmps31 rfl fun a hk => ?_
  apply wp_seq_k; intro K1 hK1
  apply wp_region_lit
  refine sa _ rfl hk rfl rfl rfl fun a hk => ?_
  show wpList _ _ _ [] _ _
  refine wpList_nil ?_
  refine hK1 _ _ ?_
  apply wp_seq_k; intro K2 hK2
  apply wp_region_lit
  refine sm _ rfl hk rfl rfl rfl fun a hk => ?_
  obtain ⟨y3, h4, H⟩ := bind_some H
  refine sc rfl en79 hk rfl rfl rfl (spec_l00Source_t _ A0_ p0_ l0 _ v0_ (hs.hasD (k := 1) rfl) _ h4) ?_
  rintro _ w ⟨b6, A7, p8, k5, rfl, v9, hG⟩ a hk
  have hs := hs.call0k hG [3, 2] rfl
  obtain ⟨y10, h11, H⟩ := bind_some H
  refine sc rfl en80 hk rfl rfl rfl (spec_l00Src_entries_t _ b6 y3 A7 p8 _ v9 (Has.app (hs.hasD (k := 1) rfl) (hs.hasG (k := 2) rfl)) (((hs.hand [(1, 3)] rfl).dcat 2004 (k := 1) (l := 2) rfl rfl).dpick [(2, 2004)] rfl) _ h11) ?_
  rintro _ w ⟨A13, p14, k12, rfl, v15, hG⟩ a hk
  have hs := hs.back [(1, 3)] rfl hG [3, 5] rfl
  refine sa _ rfl hk rfl rfl rfl fun a hk => ?_
  show wpList _ _ _ [] _ _
  refine wpList_nil ?_
  refine hK2 _ _ ?_
  refine wp_ret ?_
  obtain rfl := Option.some.inj H
  exact fin hk _ [(.slice A13 y10.1.length p14)] rfl ⟨rfl, trivial⟩ ⟨A13, p14, _, rfl, (v15).sub (Sub.a (Sub.a (Sub.l _ (Sub.refl _)) (Sub.r _ (Sub.l _ (Sub.refl _)))) (Sub.r _ (Sub.r _ (Sub.refl _)))), ((hs.join (k := 2) (j := 5) 4006 rfl rfl).pick [(0, 4006)] rfl).dnil⟩

end Go.Proofs.Ytlbbkehdfgjneaa
