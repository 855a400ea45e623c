/- Further functions. -/
import Derived.Test.YtmgfkpfacdlfbaaGXReadStaten2
namespace Go.Proofs.Ytmgfkpfacdlfbaa
open Go Go.Z Go.Proofs Go.MuLone Go.ChangeShapes Go.WideShapes Go.ChangeAt Go.RowKit
set_option linter.unusedVariables false
set_option linter.unusedSimpArgs false
noncomputable def spec_ReadState.f (x0 : ByteArray) : Option (S_Enc × (List S_Result) × Int) :=
  (bif (decide ((x0.size : Int) > 65536)) then (some ((⟨([] : List Int), (⟨([] : List Int), ([] : List S_Block), ([] : List (List S_Block))⟩ : S_Oram)⟩ : S_Enc), ([] : List S_Result), 2)) else ((spec_l12ToState.f x0).bind fun y11 => (bif (!y11.2.2) then (some ((⟨([] : List Int), (⟨([] : List Int), ([] : List S_Block), ([] : List (List S_Block))⟩ : S_Oram)⟩ : S_Enc), ([] : List S_Result), 3)) else ((spec_l11Own.f y11.1).bind fun y42 => (some (y42, y11.2.1, 0))))))
set_option maxRecDepth 100000 in
set_option maxHeartbeats 0 in
theorem spec_ReadState_t (w0 : World) (x0 : ByteArray) (r : S_Enc × (List S_Result) × Int) (H : spec_ReadState.f x0 = some r) :
    Calls Try.prog 43 #[.string x0] w0 (Ret (fun v w => ∃ (A0 : Option Addr) (p0 : Nat) (k0 : Chunk), ∃ (A1 : Option Addr) (p1 : Nat) (k1 : Chunk), ∃ (A2 : Option Addr) (p2 : Nat) (k2 : Chunk), ∃ (A3 : Option Addr) (p3 : Nat) (k3 : Chunk), ∃ (A4 : Option Addr) (p4 : Nat) (k4 : Chunk), v = .tuple #[.agg #[.slice A0 r.1.Keys.length p0, .slice A1 r.1.Oram.Pos.length p1, .slice A2 r.1.Oram.Stash.length p2, .slice A3 r.1.Oram.Buckets.length p3], .slice A4 r.2.1.length p4, .int .i64 r.2.2] ∧ Own (Lay.int .i64) 3 A0 p0 r.1.Keys k0 ∧ Own (Lay.int .i64) 3 A1 p1 r.1.Oram.Pos k1 ∧ Own L_Block 81 A2 p2 r.1.Oram.Stash k2 ∧ Own (Lay.sl L_Block 81) 26 A3 p3 r.1.Oram.Buckets k3 ∧ Own L_impl_Result 105 A4 p4 r.2.1 k4 ∧ Sat [] w0 w [] [(0, k0), (1, k1), (2, k2), (3, k3), (4, k4)])) := by
  have hs : Sat [] w0 w0 [] [] := Sat.init w0 [] [] (by simp) (by simp) List.nodup_nil (by simp [blks])
  unfold spec_ReadState.f at H
  refine enter Try.func43 rfl Try.ntmps43 rfl fun a hk => ?_
  apply wp_seq_k; intro K1 hK1
  apply wp_region_lit
  refine salx 1 hs rfl hk rfl rfl ze53 rfl fun b2 w a hk hs => ?_
  refine sa _ rfl hk rfl rfl rfl fun a hk => ?_
  refine sa _ rfl hk rfl rfl rfl fun a hk => ?_
  show wpList _ _ _ [] _ _
  refine wpList_nil ?_
  refine hK1 _ _ ?_
  apply wp_seq_k; intro K3 hK3
  apply wp_seq_k; intro K4 hK4
  apply wp_region_lit
  refine sm _ rfl hk rfl rfl rfl fun a hk => ?_
  refine sles rfl hk rfl rfl rfl un9 fun a hk => ?_
  refine sv (.bool (decide ((x0.size : Int) > 65536))) hk rfl rfl rfl fun a hk => ?_
  show wpList _ _ _ [] _ _
  refine wpList_nil ?_
  refine hK4 _ _ ?_
  rcases cond_some H with ⟨c5, H⟩ | ⟨c5, H⟩
  ·have hk := hk.lit 10 c5 rfl
   refine cnd_true hk rfl rfl ?_
   apply wp_seq_k; intro K6 hK6
   apply wp_region_lit
   refine sbd (pv := []) rfl hk rfl rfl rfl bd53_11 fun a hk => ?_
   refine sbs0 2 L_impl_Result hs rfl hk rfl rfl un55 sz105 fun b7 k8 w a hk o9 hs => ?_
   refine ssw 1 hs rfl rfl hk rfl rfl rfl rfl sz53 (by simp [Value.oneCell']) rfl fun w a hk hs => ?_
   refine sa _ rfl hk rfl rfl rfl fun a hk => ?_
   refine sa _ rfl hk rfl rfl rfl fun a hk => ?_
   show wpList _ _ _ [] _ _
   refine wpList_nil ?_
   refine hK6 _ _ ?_
   refine wp_ret ?_
   obtain rfl := Option.some.inj H
   have hs := hs.addNil 3
   have hs := hs.addNil 4
   have hs := hs.addNil 5
   have hs := hs.addNil 6
   exact fin hk _ [(.agg #[.slice none 0 0, .slice none 0 0, .slice none 0 0, .slice none 0 0]), (.slice (some ⟨b7, 0, none⟩) 0 0), (.int .i64 2)] rfl ⟨⟨_, rfl, run_loadN ag53 sz53 (box_cells hs (k := 1) rfl)⟩, ⟨rfl, ⟨rfl, trivial⟩⟩⟩ ⟨none, 0, [], none, 0, [], none, 0, [], none, 0, [], (some ⟨b7, 0, none⟩), 0, _, rfl, Own.nil _ _, Own.nil _ _, Own.nil _ _, Own.nil _ _, o9, (hs.pick [(0, 3), (1, 4), (2, 5), (3, 6), (4, 2)] rfl).dnil⟩
  ·have hk := hk.lit 10 c5 rfl
   refine cnd_false hk rfl rfl ?_
   refine wp_skip ?_
   refine hK3 _ _ ?_
   apply wp_seq_k; intro K10 hK10
   apply wp_region_lit
   refine sm _ rfl hk rfl rfl rfl fun a hk => ?_
   obtain ⟨y11, h12, H⟩ := bind_some H
   refine sc rfl en92 hk rfl rfl rfl (spec_l12ToState_t _ x0 _ h12) ?_
   rintro _ w ⟨A13, p14, k15, A17, p18, k19, A21, p22, k23, A25, p26, k27, A29, p30, k31, rfl, o16, o20, o24, o28, o32, hG⟩ a hk
   have hs := hs.call0k hG [7, 8, 9, 10, 11] rfl
   refine sm _ rfl hk rfl rfl rfl fun a hk => ?_
   refine sv (.agg #[.slice A13 y11.1.Keys.length p14, .slice A17 y11.1.Oram.Pos.length p18, .slice A21 y11.1.Oram.Stash.length p22, .slice A25 y11.1.Oram.Buckets.length p26]) hk rfl rfl rfl fun a hk => ?_
   refine sv (.slice A29 y11.2.1.length p30) hk rfl rfl rfl fun a hk => ?_
   refine sv (.bool y11.2.2) hk rfl rfl rfl fun a hk => ?_
   refine salx 12 hs rfl hk rfl rfl ze53 rfl fun b33 w a hk hs => ?_
   refine ssw 12 hs rfl rfl hk rfl rfl rfl rfl sz53 (by simp [Value.oneCell']) rfl fun w a hk hs => ?_
   refine sa _ rfl hk rfl rfl rfl fun a hk => ?_
   refine sa _ rfl hk rfl rfl rfl fun a hk => ?_
   show wpList _ _ _ [] _ _
   refine wpList_nil ?_
   refine hK10 _ _ ?_
   apply wp_seq_k; intro K34 hK34
   apply wp_seq_k; intro K35 hK35
   apply wp_region_lit
   refine sm _ rfl hk rfl rfl rfl fun a hk => ?_
   refine sv (.bool (!y11.2.2)) hk rfl rfl rfl fun a hk => ?_
   show wpList _ _ _ [] _ _
   refine wpList_nil ?_
   refine hK35 _ _ ?_
   rcases cond_some H with ⟨c36, H⟩ | ⟨c36, H⟩
   ·have hk := hk.lit 20 c36 rfl
    refine cnd_true hk rfl rfl ?_
    apply wp_seq_k; intro K37 hK37
    apply wp_region_lit
    refine sbd (pv := []) rfl hk rfl rfl rfl bd53_11 fun a hk => ?_
    refine sbs0 13 L_impl_Result hs rfl hk rfl rfl un55 sz105 fun b38 k39 w a hk o40 hs => ?_
    refine ssw 1 hs rfl rfl hk rfl rfl rfl rfl sz53 (by simp [Value.oneCell']) rfl fun w a hk hs => ?_
    refine sa _ rfl hk rfl rfl rfl fun a hk => ?_
    refine sa _ rfl hk rfl rfl rfl fun a hk => ?_
    show wpList _ _ _ [] _ _
    refine wpList_nil ?_
    refine hK37 _ _ ?_
    refine wp_ret ?_
    obtain rfl := Option.some.inj H
    have hs := hs.addNil 14
    have hs := hs.addNil 15
    have hs := hs.addNil 16
    have hs := hs.addNil 17
    exact fin hk _ [(.agg #[.slice none 0 0, .slice none 0 0, .slice none 0 0, .slice none 0 0]), (.slice (some ⟨b38, 0, none⟩) 0 0), (.int .i64 3)] rfl ⟨⟨_, rfl, run_loadN ag53 sz53 (box_cells hs (k := 1) rfl)⟩, ⟨rfl, ⟨rfl, trivial⟩⟩⟩ ⟨none, 0, [], none, 0, [], none, 0, [], none, 0, [], (some ⟨b38, 0, none⟩), 0, _, rfl, Own.nil _ _, Own.nil _ _, Own.nil _ _, Own.nil _ _, o40, (hs.pick [(0, 14), (1, 15), (2, 16), (3, 17), (4, 13)] rfl).dnil⟩
   ·have hk := hk.lit 20 c36 rfl
    refine cnd_false hk rfl rfl ?_
    refine wp_skip ?_
    refine hK34 _ _ ?_
    apply wp_seq_k; intro K41 hK41
    apply wp_region_lit
    refine sln [.slice A13 y11.1.Keys.length p14, .slice A17 y11.1.Oram.Pos.length p18, .slice A21 y11.1.Oram.Stash.length p22, .slice A25 y11.1.Oram.Buckets.length p26] rfl hk rfl rfl rfl ag53 sz53 (box_cells hs (k := 12) rfl) fun a hk => ?_
    obtain ⟨y42, h43, H⟩ := bind_some H
    refine sc rfl en93 hk rfl rfl rfl (spec_l11Own_t _ y11.1 A13 p14 _ o16.view (hs.hasG (k := 7) rfl) A17 p18 _ o20.view (hs.hasG (k := 8) rfl) A21 p22 _ o24.view (hs.hasG (k := 9) rfl) A25 p26 _ o28.view (hs.hasG (k := 10) rfl) _ h43) ?_
    rintro _ w ⟨A44, p45, k46, A48, p49, k50, A52, p53, k54, A56, p57, k58, rfl, o47, o51, o55, o59, hG⟩ a hk
    have hs := hs.call0k hG [18, 19, 20, 21] rfl
    refine sm _ rfl hk rfl rfl rfl fun a hk => ?_
    refine ssw 1 hs rfl rfl hk rfl rfl rfl rfl sz53 (by simp [Value.oneCell']) rfl fun w a hk hs => ?_
    refine sa _ rfl hk rfl rfl rfl fun a hk => ?_
    refine sa _ rfl hk rfl rfl rfl fun a hk => ?_
    show wpList _ _ _ [] _ _
    refine wpList_nil ?_
    refine hK41 _ _ ?_
    refine wp_ret ?_
    obtain rfl := Option.some.inj H
    exact fin hk _ [(.agg #[.slice A44 y42.Keys.length p45, .slice A48 y42.Oram.Pos.length p49, .slice A52 y42.Oram.Stash.length p53, .slice A56 y42.Oram.Buckets.length p57]), (.slice A29 y11.2.1.length p30), (.int .i64 0)] rfl ⟨⟨_, rfl, run_loadN ag53 sz53 (box_cells hs (k := 1) rfl)⟩, ⟨rfl, ⟨rfl, trivial⟩⟩⟩ ⟨A44, p45, _, A48, p49, _, A52, p53, _, A56, p57, _, A29, p30, _, rfl, o47, o51, o55, o59, o32, (hs.pick [(0, 18), (1, 19), (2, 20), (3, 21), (4, 11)] rfl).dnil⟩

noncomputable def slices_IndexFunc_string_string.s0 (l0 : List ByteArray) (q1 : ByteArray → Option (Bool)) (u6 : Int) : Option ((Int) ⊕ Ex (Unit) (Int)) :=
  (bif (decide (u6 < (l0.length : Int))) then (if 0 ≤ u6 ∧ u6 < (l0.length : Int) then ((q1 (l0.getD u6.toNat ByteArray.empty)).bind fun y25 => (bif y25 then (some (.inr (.ret u6))) else (some (.inl (w64 (u6 + 1)))))) else none) else (some (.inr (.out ()))))
noncomputable def slices_IndexFunc_string_string.f (l0 : List ByteArray) (q1 : ByteArray → Option (Bool)) : Option (Int) :=
  ((loopO (fun s => slices_IndexFunc_string_string.s0 l0 q1 s) 0).bind fun o => match o with | .out _ => (some (-1)) | .ret r => (some r))
set_option maxRecDepth 100000 in
set_option maxHeartbeats 0 in
theorem slices_IndexFunc_string_string_t (w0 : World) (A0_ : Option Addr) (p0_ : Nat) (l0 : List ByteArray) (k0_ : Chunk) (v0_ : View Lay.str A0_ p0_ l0 k0_) (w0_ : Has w0 k0_) (f1_ : FuncId) (c1_ : List Value) (e1_ : Enters Try.prog f1_) (q1 : ByteArray → Option (Bool)) (k1_ : Chunk) (t1_ : ∀ w, Has w k1_ → ∀ (z0 : ByteArray) (r : Bool), q1 z0 = some r → Calls Try.prog f1_ (([.string z0] : List Value) ++ c1_).toArray w (Ret (fun v w2 => v = .bool r ∧ Sat [] w w2 [] []))) (w1_ : Has w0 k1_) (r : Int) (H : slices_IndexFunc_string_string.f l0 q1 = some r) :
    Calls Try.prog 190 #[.slice A0_ l0.length p0_, .func (.func f1_) #[] c1_.toArray] w0 (Ret (fun v w => v = .int .i64 r ∧ Sat [] w0 w [] [])) := by
  have hs : Sat [] w0 w0 [(1, k0_), (2, k1_)] [] := Sat.init w0 [(1, k0_), (2, k1_)] [] (by simp only [List.mem_cons, List.not_mem_nil, or_false]; rintro x (rfl | rfl) <;> assumption) (by simp) List.nodup_nil (by simp [blks])
  unfold slices_IndexFunc_string_string.f at H
  refine enter Try.func190 rfl Try.ntmps190 rfl fun a hk => ?_
  apply wp_seq_k; intro K1 hK1
  apply wp_region_lit
  refine sa _ rfl hk rfl rfl rfl fun a hk => ?_
  show wpList _ _ _ [] _ _
  refine wpList_nil ?_
  refine hK1 _ _ ?_
  apply wp_seq_k; intro K2 hK2
  apply wp_seq_k; intro K3 hK3
  apply wp_region_lit
  refine sm _ rfl hk rfl rfl rfl fun a hk => ?_
  refine sle rfl hk rfl rfl rfl un154 fun a hk => ?_
  refine sm _ rfl hk rfl rfl rfl fun a hk => ?_
  show wpList _ _ _ [] _ _
  refine wpList_nil ?_
  refine hK3 _ _ ?_
  obtain ⟨o7, h8, HL9⟩ := bind_some H
  clear H
  obtain ⟨R10, hR10⟩ : ∃ R : Act → World → Prop, R = fun a w => o7 = .out () ∧ Kn [] 19 a ∧ Sat [] w0 w [(1, k0_), (2, k1_)] [] := ⟨_, rfl⟩
  refine wp_cutq R10 ?_ ?_
  ·refine wp_block ?_
   obtain ⟨fu12, h8⟩ := loopO_some h8
   obtain ⟨I11, hI11⟩ : ∃ I : Nat → Act → World → Prop, I = fun fu a w => ∃ (u6 : Int), loopN (fun s => slices_IndexFunc_string_string.s0 l0 q1 s) fu u6 = some o7 ∧ Kn [(0, (.slice A0_ l0.length p0_)), (1, (.func (.func f1_) #[] c1_.toArray)), (7, (.int .i64 (l0.length : Int))), (8, (.int .i64 u6))] 19 a ∧ Sat [] w0 w [(1, k0_), (2, k1_)] [] := ⟨_, rfl⟩
   refine wp_loop_ghost I11 fu12 ?_ ?_
   ·rw [hI11]
    exact ⟨0, h8, (hk.c 0 rfl (hk.c 1 rfl (hk.c 7 rfl (hk.c 8 rfl hk.k)))), (hs.pick [] rfl)⟩
   ·clear h8 hk hs
    intro fu12 a w hI0
    rw [hI11] at hI0
    obtain ⟨u6, hi, hk, hs⟩ := hI0
    obtain ⟨x13, H, h14⟩ := loop_round hi
    try dsimp only at H
    unfold slices_IndexFunc_string_string.s0 at H
    apply wp_seq_k; intro K15 hK15
    apply wp_region_lit
    refine sv (.bool (decide (u6 < (l0.length : Int)))) hk rfl rfl rfl fun a hk => ?_
    show wpList _ _ _ [] _ _
    refine wpList_nil ?_
    refine hK15 _ _ ?_
    apply wp_seq_k; intro K16 hK16
    rcases cond_some H with ⟨c17, H⟩ | ⟨c17, H⟩
    ·have hk := hk.lit 9 c17 rfl
     refine cnd_true hk rfl rfl ?_
     refine wp_skip ?_
     refine hK16 _ _ ?_
     apply wp_seq_k; intro K18 hK18
     refine wp_block ?_
     apply wp_seq_k; intro K19 hK19
     apply wp_region_lit
     refine sm _ rfl hk rfl rfl rfl fun a hk => ?_
     refine sa _ rfl hk rfl rfl rfl fun a hk => ?_
     show wpList _ _ _ [] _ _
     refine wpList_nil ?_
     refine hK19 _ _ ?_
     apply wp_seq_k; intro K20 hK20
     apply wp_region_lit
     refine sm _ rfl hk rfl rfl rfl fun a hk => ?_
     refine sm _ rfl hk rfl rfl rfl fun a hk => ?_
     refine sm _ rfl hk rfl rfl rfl fun a hk => ?_
     rcases ite_some H with ⟨c21, H⟩ | ⟨_, H⟩
     rotate_left
     ·cases H
     obtain ⟨b22, q23, hAc21⟩ := (v0_).some_ u6 c21.1 c21.2
     refine si rfl hk rfl rfl rfl rfl un154 sz9 c21.1 c21.2 hAc21 fun a hk => ?_
     obtain ⟨_, rfl, e24⟩ := (v0_).at_ ByteArray.empty u6 c21.1 c21.2
     refine sl (v := (.string (l0.getD u6.toNat ByteArray.empty))) rfl hk rfl rfl rfl ag9 ((e24 0 _ rfl).cell (hs.hasD (k := 1) rfl)) fun a hk => ?_
     obtain ⟨y25, h26, H⟩ := bind_some H
     refine scv (vs := ([(.string (l0.getD u6.toNat ByteArray.empty))] : List Value) ++ c1_) rfl rfl e1_ hk rfl rfl rfl (t1_ _ (hs.hasD (k := 2) rfl) (l0.getD u6.toNat ByteArray.empty) _ h26) ?_
     rintro _ w ⟨rfl, hG⟩ a hk
     have hs := hs.call0 hG
     show wpList _ _ _ [] _ _
     refine wpList_nil ?_
     refine hK20 _ _ ?_
     rcases cond_some H with ⟨c27, H⟩ | ⟨c27, H⟩
     ·have hk := hk.lit 16 c27 rfl
      refine cnd_true hk rfl rfl ?_
      apply wp_seq_k; intro K28 hK28
      apply wp_region_lit
      refine sm _ rfl hk rfl rfl rfl fun a hk => ?_
      refine sa _ rfl hk rfl rfl rfl fun a hk => ?_
      show wpList _ _ _ [] _ _
      refine wpList_nil ?_
      refine hK28 _ _ ?_
      refine wp_ret ?_
      obtain rfl := Option.some.inj H
      have ho7 := h14
      try dsimp only at ho7
      subst ho7
      have H := HL9
      try dsimp only at H
      obtain rfl := Option.some.inj H
      exact fin hk _ [(.int .i64 u6)] rfl ⟨rfl, trivial⟩ ⟨rfl, (hs.pick [] rfl).dnil⟩
     ·have hk := hk.lit 16 c27 rfl
      refine cnd_false hk rfl rfl ?_
      refine wp_skip ?_
      refine hK18 _ _ ?_
      apply wp_region_lit
      refine sv (.int .i64 (w64 (u6 + 1))) hk rfl rfl rfl fun a hk => ?_
      refine sm _ rfl hk rfl rfl rfl fun a hk => ?_
      show wpList _ _ _ [] _ _
      refine wpList_nil ?_
      obtain rfl := Option.some.inj H
      obtain ⟨m29, hmm29, h14⟩ := h14
      show ∃ n', n' < _ ∧ I11 n' _ _
      refine ⟨m29, hmm29, ?_⟩
      rw [hI11]
      exact ⟨(w64 (u6 + 1)), h14, (hk.c 0 rfl (hk.c 1 rfl (hk.c 7 rfl (hk.c 8 rfl hk.k)))), (hs.pick [] rfl)⟩
    ·have hk := hk.lit 9 c17 rfl
     refine cnd_false hk rfl rfl ?_
     refine wp_exit ?_
     obtain rfl := Option.some.inj H
     show R10 _ _
     rw [hR10]
     exact ⟨h14.symm, hk.k, (hs.pick [] rfl)⟩
  ·intro a w hR0
   rw [hR10] at hR0
   obtain ⟨rfl, hk, hs⟩ := hR0
   have H := HL9
   try dsimp only at H
   refine hK2 _ _ ?_
   apply wp_seq_k; intro K30 hK30
   apply wp_region_lit
   refine sa _ rfl hk rfl rfl rfl fun a hk => ?_
   show wpList _ _ _ [] _ _
   refine wpList_nil ?_
   refine hK30 _ _ ?_
   refine wp_ret ?_
   obtain rfl := Option.some.inj H
   exact fin hk _ [(.int .i64 (-1))] rfl ⟨rfl, trivial⟩ ⟨rfl, (hs.pick [] rfl).dnil⟩

noncomputable def slices_ContainsFunc_string_string.f (l0 : List ByteArray) (q1 : ByteArray → Option (Bool)) : Option (Bool) :=
  ((slices_IndexFunc_string_string.f l0 q1).bind fun y3 => (some (decide (y3 ≥ 0))))
set_option maxRecDepth 100000 in
set_option maxHeartbeats 0 in
theorem slices_ContainsFunc_string_string_t (w0 : World) (A0_ : Option Addr) (p0_ : Nat) (l0 : List ByteArray) (k0_ : Chunk) (v0_ : View Lay.str A0_ p0_ l0 k0_) (w0_ : Has w0 k0_) (f1_ : FuncId) (c1_ : List Value) (e1_ : Enters Try.prog f1_) (q1 : ByteArray → Option (Bool)) (k1_ : Chunk) (t1_ : ∀ w, Has w k1_ → ∀ (z0 : ByteArray) (r : Bool), q1 z0 = some r → Calls Try.prog f1_ (([.string z0] : List Value) ++ c1_).toArray w (Ret (fun v w2 => v = .bool r ∧ Sat [] w w2 [] []))) (w1_ : Has w0 k1_) (r : Bool) (H : slices_ContainsFunc_string_string.f l0 q1 = some r) :
    Calls Try.prog 170 #[.slice A0_ l0.length p0_, .func (.func f1_) #[] c1_.toArray] w0 (Ret (fun v w => v = .bool r ∧ Sat [] w0 w [] [])) := by
  have hs : Sat [] w0 w0 [(1, k0_), (2, k1_)] [] := Sat.init w0 [(1, k0_), (2, k1_)] [] (by simp only [List.mem_cons, List.not_mem_nil, or_false]; rintro x (rfl | rfl) <;> assumption) (by simp) List.nodup_nil (by simp [blks])
  unfold slices_ContainsFunc_string_string.f at H
  refine enter Try.func170 rfl Try.ntmps170 rfl fun a hk => ?_
  apply wp_seq_k; intro K1 hK1
  apply wp_region_lit
  refine sa _ rfl hk rfl rfl rfl fun a hk => ?_
  show wpList _ _ _ [] _ _
  refine wpList_nil ?_
  refine hK1 _ _ ?_
  apply wp_seq_k; intro K2 hK2
  apply wp_region_lit
  refine sm _ rfl hk rfl rfl rfl fun a hk => ?_
  refine sm _ rfl hk rfl rfl rfl fun a hk => ?_
  obtain ⟨y3, h4, H⟩ := bind_some H
  refine sc rfl en190 hk rfl rfl rfl (slices_IndexFunc_string_string_t _ A0_ p0_ l0 _ v0_ (hs.hasD (k := 1) rfl) f1_ c1_ e1_ q1 k1_ t1_ (hs.hasD (k := 2) rfl) _ h4) ?_
  rintro _ w ⟨rfl, hG⟩ a hk
  have hs := hs.call0 hG
  refine sv (.bool (decide (y3 ≥ 0))) hk rfl rfl rfl fun a hk => ?_
  refine sa _ rfl hk rfl rfl rfl fun a hk => ?_
  show wpList _ _ _ [] _ _
  refine wpList_nil ?_
  refine hK2 _ _ ?_
  refine wp_ret ?_
  obtain rfl := Option.some.inj H
  exact fin hk _ [(.bool (decide (y3 ≥ 0)))] rfl ⟨rfl, trivial⟩ ⟨rfl, (hs.pick [] rfl).dnil⟩

noncomputable def impl_areAll_string__c1.f (x0 : ByteArray) (q1 : ByteArray → Option (Bool)) : Option (Bool) :=
  ((q1 x0).bind fun y3 => (some (!y3)))
set_option maxRecDepth 100000 in
set_option maxHeartbeats 0 in
theorem impl_areAll_string__c1_t (w0 : World) (x0 : ByteArray) (b1_ : Nat) (f1_ : FuncId) (c1_ : List Value) (e1_ : Enters Try.prog f1_) (q1 : ByteArray → Option (Bool)) (k1_ : Chunk) (t1_ : ∀ w, Has w k1_ → ∀ (z0 : ByteArray) (r : Bool), q1 z0 = some r → Calls Try.prog f1_ (([.string z0] : List Value) ++ c1_).toArray w (Ret (fun v w2 => v = .bool r ∧ Sat [] w w2 [] []))) (w1_ : Has w0 k1_) (h1_ : Has w0 [(b1_, .cells #[.func (.func f1_) #[] c1_.toArray] 65 (0, 0))]) (r : Bool) (H : impl_areAll_string__c1.f x0 q1 = some r) :
    Calls Try.prog 171 #[.string x0, .pointer (some ⟨b1_, 0, none⟩)] w0 (Ret (fun v w => v = .bool r ∧ Sat [] w0 w [] [])) := by
  have hs : Sat [] w0 w0 [(2, k1_), (1, [(b1_, .cells #[.func (.func f1_) #[] c1_.toArray] 65 (0, 0))])] [] := Sat.init w0 [(2, k1_), (1, [(b1_, .cells #[.func (.func f1_) #[] c1_.toArray] 65 (0, 0))])] [] (by simp only [List.mem_cons, List.not_mem_nil, or_false]; rintro x (rfl | rfl) <;> assumption) (by simp) List.nodup_nil (by simp [blks])
  unfold impl_areAll_string__c1.f at H
  refine enter Try.func171 rfl Try.ntmps171 rfl fun a hk => ?_
  apply wp_seq_k; intro K1 hK1
  apply wp_region_lit
  refine sa _ rfl hk rfl rfl rfl fun a hk => ?_
  show wpList _ _ _ [] _ _
  refine wpList_nil ?_
  refine hK1 _ _ ?_
  apply wp_seq_k; intro K2 hK2
  apply wp_region_lit
  refine sl rfl hk rfl rfl rfl ag65 (box_cellD hs (k := 1) rfl rfl) fun a hk => ?_
  refine sm _ rfl hk rfl rfl rfl fun a hk => ?_
  obtain ⟨y3, h4, H⟩ := bind_some H
  refine scv (vs := ([(.string x0)] : List Value) ++ c1_) rfl rfl e1_ hk rfl rfl rfl (t1_ _ (hs.hasD (k := 2) rfl) x0 _ h4) ?_
  rintro _ w ⟨rfl, hG⟩ a hk
  have hs := hs.call0 hG
  refine sv (.bool (!y3)) hk rfl rfl rfl fun a hk => ?_
  refine sa _ rfl hk rfl rfl rfl fun a hk => ?_
  show wpList _ _ _ [] _ _
  refine wpList_nil ?_
  refine hK2 _ _ ?_
  refine wp_ret ?_
  obtain rfl := Option.some.inj H
  exact fin hk _ [(.bool (!y3))] rfl ⟨rfl, trivial⟩ ⟨rfl, (hs.pick [] rfl).dnil⟩

noncomputable def impl_areAll_string.f (l0 : List ByteArray) (q1 : ByteArray → Option (Bool)) : Option (Bool) :=
  ((slices_ContainsFunc_string_string.f l0 (fun z0 => impl_areAll_string__c1.f z0 q1)).bind fun y4 => (some (!y4)))
set_option maxRecDepth 100000 in
set_option maxHeartbeats 0 in
theorem impl_areAll_string_t (w0 : World) (A0_ : Option Addr) (p0_ : Nat) (l0 : List ByteArray) (k0_ : Chunk) (v0_ : View Lay.str A0_ p0_ l0 k0_) (w0_ : Has w0 k0_) (f1_ : FuncId) (c1_ : List Value) (e1_ : Enters Try.prog f1_) (q1 : ByteArray → Option (Bool)) (k1_ : Chunk) (t1_ : ∀ w, Has w k1_ → ∀ (z0 : ByteArray) (r : Bool), q1 z0 = some r → Calls Try.prog f1_ (([.string z0] : List Value) ++ c1_).toArray w (Ret (fun v w2 => v = .bool r ∧ Sat [] w w2 [] []))) (w1_ : Has w0 k1_) (r : Bool) (H : impl_areAll_string.f l0 q1 = some r) :
    Calls Try.prog 135 #[.slice A0_ l0.length p0_, .func (.func f1_) #[] c1_.toArray] w0 (Ret (fun v w => v = .bool r ∧ Sat [] w0 w [] [])) := by
  have hs : Sat [] w0 w0 [(1, k0_), (2, k1_)] [] := Sat.init w0 [(1, k0_), (2, k1_)] [] (by simp only [List.mem_cons, List.not_mem_nil, or_false]; rintro x (rfl | rfl) <;> assumption) (by simp) List.nodup_nil (by simp [blks])
  unfold impl_areAll_string.f at H
  refine enter Try.func135 rfl Try.ntmps135 rfl fun a hk => ?_
  apply wp_seq_k; intro K1 hK1
  apply wp_region_lit
  refine sbx 3 hs rfl hk rfl rfl rfl rfl fun b2 w a hk hs => ?_
  refine sa _ rfl hk rfl rfl rfl fun a hk => ?_
  show wpList _ _ _ [] _ _
  refine wpList_nil ?_
  refine hK1 _ _ ?_
  apply wp_seq_k; intro K3 hK3
  apply wp_region_lit
  refine sm _ rfl hk rfl rfl rfl fun a hk => ?_
  refine smf (cs := [.pointer (some ⟨b2, 0, none⟩)]) rfl hk rfl rfl rfl fun a hk => ?_
  obtain ⟨y4, h5, H⟩ := bind_some H
  refine sc rfl en170 hk rfl rfl rfl (slices_ContainsFunc_string_string_t _ A0_ p0_ l0 _ v0_ (hs.hasD (k := 1) rfl) 171 [.pointer (some ⟨b2, 0, none⟩)] en171 (fun z0 => impl_areAll_string__c1.f z0 q1) ([(b2, .cells #[.func (.func f1_) #[] c1_.toArray] 65 (0, 0))] ++ k1_) (fun w hz z0 r h => impl_areAll_string__c1_t w z0 _ f1_ c1_ e1_ q1 k1_ t1_ (Has.right hz) (Has.left hz) r h) (Has.app (hs.hasG (k := 3) rfl) (hs.hasD (k := 2) rfl)) _ h5) ?_
  rintro _ w ⟨rfl, hG⟩ a hk
  have hs := hs.call0 hG
  refine sv (.bool (!y4)) hk rfl rfl rfl fun a hk => ?_
  refine sa _ rfl hk rfl rfl rfl fun a hk => ?_
  show wpList _ _ _ [] _ _
  refine wpList_nil ?_
  refine hK3 _ _ ?_
  refine wp_ret ?_
  obtain rfl := Option.some.inj H
  exact fin hk _ [(.bool (!y4))] rfl ⟨rfl, trivial⟩ ⟨rfl, (hs.pick [] rfl).dnil⟩

noncomputable def impl_areShort_c1.f (x0 : ByteArray) : Option (Bool) :=
  (some (decide ((x0.size : Int) ≤ 65536)))
set_option maxRecDepth 100000 in
set_option maxHeartbeats 0 in
theorem impl_areShort_c1_t (w0 : World) (x0 : ByteArray) (r : Bool) (H : impl_areShort_c1.f x0 = some r) :
    Calls Try.prog 136 #[.string x0] w0 (Ret (fun v w => v = .bool r ∧ Sat [] w0 w [] [])) := by
  have hs : Sat [] w0 w0 [] [] := Sat.init w0 [] [] (by simp) (by simp) List.nodup_nil (by simp [blks])
  unfold impl_areShort_c1.f at H
  refine enter Try.func136 rfl Try.ntmps136 rfl fun a hk => ?_
  apply wp_seq_k; intro K1 hK1
  apply wp_region_lit
  refine sa _ rfl hk rfl rfl rfl fun a hk => ?_
  show wpList _ _ _ [] _ _
  refine wpList_nil ?_
  refine hK1 _ _ ?_
  apply wp_seq_k; intro K2 hK2
  apply wp_region_lit
  refine sm _ rfl hk rfl rfl rfl fun a hk => ?_
  refine sles rfl hk rfl rfl rfl un9 fun a hk => ?_
  refine sv (.bool (decide ((x0.size : Int) ≤ 65536))) hk rfl rfl rfl fun a hk => ?_
  refine sa _ rfl hk rfl rfl rfl fun a hk => ?_
  show wpList _ _ _ [] _ _
  refine wpList_nil ?_
  refine hK2 _ _ ?_
  refine wp_ret ?_
  obtain rfl := Option.some.inj H
  exact fin hk _ [(.bool (decide ((x0.size : Int) ≤ 65536)))] rfl ⟨rfl, trivial⟩ ⟨rfl, (hs.pick [] rfl).dnil⟩

noncomputable def impl_areShort.f (l0 : List ByteArray) : Option (Bool) :=
  ((impl_areAll_string.f l0 impl_areShort_c1.f).bind fun y3 => (some y3))
set_option maxRecDepth 100000 in
set_option maxHeartbeats 0 in
theorem impl_areShort_t (w0 : World) (A0_ : Option Addr) (p0_ : Nat) (l0 : List ByteArray) (k0_ : Chunk) (v0_ : View Lay.str A0_ p0_ l0 k0_) (w0_ : Has w0 k0_) (r : Bool) (H : impl_areShort.f l0 = some r) :
    Calls Try.prog 86 #[.slice A0_ l0.length p0_] w0 (Ret (fun v w => v = .bool r ∧ Sat [] w0 w [] [])) := by
  have hs : Sat [] w0 w0 [(1, k0_)] [] := Sat.init w0 [(1, k0_)] [] (by simp only [List.mem_cons, List.not_mem_nil, or_false]; rintro x (rfl) <;> assumption) (by simp) List.nodup_nil (by simp [blks])
  unfold impl_areShort.f at H
  refine enter Try.func86 rfl Try.ntmps86 rfl fun a hk => ?_
  apply wp_seq_k; intro K1 hK1
  apply wp_region_lit
  refine sa _ rfl hk rfl rfl rfl fun a hk => ?_
  show wpList _ _ _ [] _ _
  refine wpList_nil ?_
  refine hK1 _ _ ?_
  apply wp_seq_k; intro K2 hK2
  apply wp_region_lit
  refine sm _ rfl hk rfl rfl rfl fun a hk => ?_
  obtain ⟨y3, h4, H⟩ := bind_some H
  refine sc rfl en135 hk rfl rfl rfl (impl_areAll_string_t _ A0_ p0_ l0 _ v0_ (hs.hasD (k := 1) rfl) 136 [] en136 impl_areShort_c1.f [] (fun w _ z0 r h => impl_areShort_c1_t w z0 r h) (Has.nil _) _ h4) ?_
  rintro _ w ⟨rfl, hG⟩ a hk
  have hs := hs.call0 hG
  refine sa _ rfl hk rfl rfl rfl fun a hk => ?_
  show wpList _ _ _ [] _ _
  refine wpList_nil ?_
  refine hK2 _ _ ?_
  refine wp_ret ?_
  obtain rfl := Option.some.inj H
  exact fin hk _ [(.bool y3)] rfl ⟨rfl, trivial⟩ ⟨rfl, (hs.pick [] rfl).dnil⟩

noncomputable def impl_within.f (x0 : Int) (x1 : Int) (x2 : Int) : Option (Bool) :=
  (((bif (decide (x1 ≤ x0)) then (some (decide (x0 ≤ x2))) else (some false)) : Option (Bool)).bind fun u4 => (some u4))
set_option maxRecDepth 100000 in
set_option maxHeartbeats 0 in
theorem impl_within_t (w0 : World) (x0 : Int) (x1 : Int) (x2 : Int) (r : Bool) (H : impl_within.f x0 x1 x2 = some r) :
    Calls Try.prog 115 #[.int .i64 x0, .int .i64 x1, .int .i64 x2] w0 (Ret (fun v w => v = .bool r ∧ Sat [] w0 w [] [])) := by
  have hs : Sat [] w0 w0 [] [] := Sat.init w0 [] [] (by simp) (by simp) List.nodup_nil (by simp [blks])
  unfold impl_within.f at H
  refine enter Try.func115 rfl Try.ntmps115 rfl fun a hk => ?_
  apply wp_seq_k; intro K1 hK1
  apply wp_region_lit
  refine sa _ rfl hk rfl rfl rfl fun a hk => ?_
  show wpList _ _ _ [] _ _
  refine wpList_nil ?_
  refine hK1 _ _ ?_
  apply wp_seq_k; intro K2 hK2
  obtain ⟨o5, h6, HL7⟩ := bind_some H
  clear H
  obtain ⟨R8, hR8⟩ : ∃ R : Act → World → Prop, R = fun a w => ∃ (u4 : Bool), u4 = o5 ∧ Kn [(6, (.bool u4))] 15 a ∧ Sat [] w0 w [] [] := ⟨_, rfl⟩
  refine wp_cutq R8 ?_ ?_
  ·have H := h6
   apply wp_region_lit
   refine sm _ rfl hk rfl rfl rfl fun a hk => ?_
   refine sm _ rfl hk rfl rfl rfl fun a hk => ?_
   refine sv (.bool (decide (x1 ≤ x0))) hk rfl rfl rfl fun a hk => ?_
   refine sm _ rfl hk rfl rfl rfl fun a hk => ?_
   rcases cond_some H with ⟨c9, H⟩ | ⟨c9, H⟩
   ·have hk := hk.lit 10 c9 rfl
    refine sm _ rfl hk rfl rfl rfl fun a hk => ?_
    refine sm _ rfl hk rfl rfl rfl fun a hk => ?_
    refine sv (.bool (decide (x0 ≤ x2))) hk rfl rfl rfl fun a hk => ?_
    refine sv (.bool (decide (x0 ≤ x2))) hk rfl rfl rfl fun a hk => ?_
    refine sa _ rfl hk rfl rfl rfl fun a hk => ?_
    show wpList _ _ _ [] _ _
    refine wpList_nil ?_
    obtain rfl := Option.some.inj H
    show R8 _ _
    rw [hR8]
    exact ⟨(decide (x0 ≤ x2)), rfl, (hk.c 6 rfl hk.k), (hs.pick [] rfl)⟩
   ·have hk := hk.lit 10 c9 rfl
    refine sk hk rfl rfl rfl fun a hk => ?_
    refine sk hk rfl rfl rfl fun a hk => ?_
    refine sk hk rfl rfl rfl fun a hk => ?_
    refine sv (.bool false) hk rfl rfl rfl fun a hk => ?_
    refine sa _ rfl hk rfl rfl rfl fun a hk => ?_
    show wpList _ _ _ [] _ _
    refine wpList_nil ?_
    obtain rfl := Option.some.inj H
    show R8 _ _
    rw [hR8]
    exact ⟨false, rfl, (hk.c 6 rfl hk.k), (hs.pick [] rfl)⟩
  ·intro a w hR0
   rw [hR8] at hR0
   obtain ⟨u4, rfl, hk, hs⟩ := hR0
   have H := HL7
   try dsimp only at H
   refine hK2 _ _ ?_
   refine wp_ret ?_
   obtain rfl := Option.some.inj H
   exact fin hk _ [(.bool u4)] rfl ⟨rfl, trivial⟩ ⟨rfl, (hs.pick [] rfl).dnil⟩

noncomputable def impl_isKey.f (x0 : Int) : Option (Bool) :=
  ((impl_within.f x0 1 9999).bind fun y3 => (some y3))
set_option maxRecDepth 100000 in
set_option maxHeartbeats 0 in
theorem impl_isKey_t (w0 : World) (x0 : Int) (r : Bool) (H : impl_isKey.f x0 = some r) :
    Calls Try.prog 83 #[.int .i64 x0] w0 (Ret (fun v w => v = .bool r ∧ Sat [] w0 w [] [])) := by
  have hs : Sat [] w0 w0 [] [] := Sat.init w0 [] [] (by simp) (by simp) List.nodup_nil (by simp [blks])
  unfold impl_isKey.f at H
  refine enter Try.func83 rfl Try.ntmps83 rfl fun a hk => ?_
  apply wp_seq_k; intro K1 hK1
  apply wp_region_lit
  refine sa _ rfl hk rfl rfl rfl fun a hk => ?_
  show wpList _ _ _ [] _ _
  refine wpList_nil ?_
  refine hK1 _ _ ?_
  apply wp_seq_k; intro K2 hK2
  apply wp_region_lit
  refine sm _ rfl hk rfl rfl rfl fun a hk => ?_
  obtain ⟨y3, h4, H⟩ := bind_some H
  refine sc rfl en115 hk rfl rfl rfl (impl_within_t _ x0 1 9999 _ h4) ?_
  rintro _ w ⟨rfl, hG⟩ a hk
  have hs := hs.call0 hG
  refine sa _ rfl hk rfl rfl rfl fun a hk => ?_
  show wpList _ _ _ [] _ _
  refine wpList_nil ?_
  refine hK2 _ _ ?_
  refine wp_ret ?_
  obtain rfl := Option.some.inj H
  exact fin hk _ [(.bool y3)] rfl ⟨rfl, trivial⟩ ⟨rfl, (hs.pick [] rfl).dnil⟩

noncomputable def slices_IndexFunc_impl_Block_impl_Block.s0 (l0 : List S_Block) (q1 : S_Block → Option (Bool)) (u6 : Int) : Option ((Int) ⊕ Ex (Unit) (Int)) :=
  (bif (decide (u6 < (l0.length : Int))) then (if 0 ≤ u6 ∧ u6 < (l0.length : Int) then ((q1 (l0.getD u6.toNat z_Block)).bind fun y25 => (bif y25 then (some (.inr (.ret u6))) else (some (.inl (w64 (u6 + 1)))))) else none) else (some (.inr (.out ()))))
noncomputable def slices_IndexFunc_impl_Block_impl_Block.f (l0 : List S_Block) (q1 : S_Block → Option (Bool)) : Option (Int) :=
  ((loopO (fun s => slices_IndexFunc_impl_Block_impl_Block.s0 l0 q1 s) 0).bind fun o => match o with | .out _ => (some (-1)) | .ret r => (some r))
set_option maxRecDepth 100000 in
set_option maxHeartbeats 0 in
theorem slices_IndexFunc_impl_Block_impl_Block_t (w0 : World) (A0_ : Option Addr) (p0_ : Nat) (l0 : List S_Block) (k0_ : Chunk) (v0_ : View L_Block A0_ p0_ l0 k0_) (w0_ : Has w0 k0_) (f1_ : FuncId) (c1_ : List Value) (e1_ : Enters Try.prog f1_) (q1 : S_Block → Option (Bool)) (k1_ : Chunk) (t1_ : ∀ w, Has w k1_ → ∀ (z0 : S_Block) (r : Bool), q1 z0 = some r → Calls Try.prog f1_ (([.agg #[.int .i64 z0.Id, .int .i64 z0.Leaf, .int .i64 z0.Value]] : List Value) ++ c1_).toArray w (Ret (fun v w2 => v = .bool r ∧ Sat [] w w2 [] []))) (w1_ : Has w0 k1_) (r : Int) (H : slices_IndexFunc_impl_Block_impl_Block.f l0 q1 = some r) :
    Calls Try.prog 150 #[.slice A0_ l0.length p0_, .func (.func f1_) #[] c1_.toArray] w0 (Ret (fun v w => v = .int .i64 r ∧ Sat [] w0 w [] [])) := by
  have hs : Sat [] w0 w0 [(1, k0_), (2, k1_)] [] := Sat.init w0 [(1, k0_), (2, k1_)] [] (by simp only [List.mem_cons, List.not_mem_nil, or_false]; rintro x (rfl | rfl) <;> assumption) (by simp) List.nodup_nil (by simp [blks])
  unfold slices_IndexFunc_impl_Block_impl_Block.f at H
  refine enter Try.func150 rfl Try.ntmps150 rfl fun a hk => ?_
  apply wp_seq_k; intro K1 hK1
  apply wp_region_lit
  refine sa _ rfl hk rfl rfl rfl fun a hk => ?_
  show wpList _ _ _ [] _ _
  refine wpList_nil ?_
  refine hK1 _ _ ?_
  apply wp_seq_k; intro K2 hK2
  apply wp_seq_k; intro K3 hK3
  apply wp_region_lit
  refine sm _ rfl hk rfl rfl rfl fun a hk => ?_
  refine sle rfl hk rfl rfl rfl un26 fun a hk => ?_
  refine sm _ rfl hk rfl rfl rfl fun a hk => ?_
  show wpList _ _ _ [] _ _
  refine wpList_nil ?_
  refine hK3 _ _ ?_
  obtain ⟨o7, h8, HL9⟩ := bind_some H
  clear H
  obtain ⟨R10, hR10⟩ : ∃ R : Act → World → Prop, R = fun a w => o7 = .out () ∧ Kn [] 19 a ∧ Sat [] w0 w [(1, k0_), (2, k1_)] [] := ⟨_, rfl⟩
  refine wp_cutq R10 ?_ ?_
  ·refine wp_block ?_
   obtain ⟨fu12, h8⟩ := loopO_some h8
   obtain ⟨I11, hI11⟩ : ∃ I : Nat → Act → World → Prop, I = fun fu a w => ∃ (u6 : Int), loopN (fun s => slices_IndexFunc_impl_Block_impl_Block.s0 l0 q1 s) fu u6 = some o7 ∧ Kn [(0, (.slice A0_ l0.length p0_)), (1, (.func (.func f1_) #[] c1_.toArray)), (7, (.int .i64 (l0.length : Int))), (8, (.int .i64 u6))] 19 a ∧ Sat [] w0 w [(1, k0_), (2, k1_)] [] := ⟨_, rfl⟩
   refine wp_loop_ghost I11 fu12 ?_ ?_
   ·rw [hI11]
    exact ⟨0, h8, (hk.c 0 rfl (hk.c 1 rfl (hk.c 7 rfl (hk.c 8 rfl hk.k)))), (hs.pick [] rfl)⟩
   ·clear h8 hk hs
    intro fu12 a w hI0
    rw [hI11] at hI0
    obtain ⟨u6, hi, hk, hs⟩ := hI0
    obtain ⟨x13, H, h14⟩ := loop_round hi
    try dsimp only at H
    unfold slices_IndexFunc_impl_Block_impl_Block.s0 at H
    apply wp_seq_k; intro K15 hK15
    apply wp_region_lit
    refine sv (.bool (decide (u6 < (l0.length : Int)))) hk rfl rfl rfl fun a hk => ?_
    show wpList _ _ _ [] _ _
    refine wpList_nil ?_
    refine hK15 _ _ ?_
    apply wp_seq_k; intro K16 hK16
    rcases cond_some H with ⟨c17, H⟩ | ⟨c17, H⟩
    ·have hk := hk.lit 9 c17 rfl
     refine cnd_true hk rfl rfl ?_
     refine wp_skip ?_
     refine hK16 _ _ ?_
     apply wp_seq_k; intro K18 hK18
     refine wp_block ?_
     apply wp_seq_k; intro K19 hK19
     apply wp_region_lit
     refine sm _ rfl hk rfl rfl rfl fun a hk => ?_
     refine sa _ rfl hk rfl rfl rfl fun a hk => ?_
     show wpList _ _ _ [] _ _
     refine wpList_nil ?_
     refine hK19 _ _ ?_
     apply wp_seq_k; intro K20 hK20
     apply wp_region_lit
     refine sm _ rfl hk rfl rfl rfl fun a hk => ?_
     refine sm _ rfl hk rfl rfl rfl fun a hk => ?_
     refine sm _ rfl hk rfl rfl rfl fun a hk => ?_
     rcases ite_some H with ⟨c21, H⟩ | ⟨_, H⟩
     rotate_left
     ·cases H
     obtain ⟨b22, q23, hAc21⟩ := (v0_).some_ u6 c21.1 c21.2
     refine si rfl hk rfl rfl rfl rfl un26 sz81 c21.1 c21.2 hAc21 fun a hk => ?_
     obtain ⟨_, rfl, e24⟩ := (v0_).at_ z_Block u6 c21.1 c21.2
     refine sln [.int .i64 ((l0.getD u6.toNat z_Block).Id), .int .i64 ((l0.getD u6.toNat z_Block).Leaf), .int .i64 ((l0.getD u6.toNat z_Block).Value)] rfl hk rfl rfl rfl ag81 sz81 (cells_at e24 (hs.hasD (k := 1) rfl)) fun a hk => ?_
     obtain ⟨y25, h26, H⟩ := bind_some H
     refine scv (vs := ([(.agg #[.int .i64 ((l0.getD u6.toNat z_Block).Id), .int .i64 ((l0.getD u6.toNat z_Block).Leaf), .int .i64 ((l0.getD u6.toNat z_Block).Value)])] : List Value) ++ c1_) rfl rfl e1_ hk rfl rfl rfl (t1_ _ (hs.hasD (k := 2) rfl) (l0.getD u6.toNat z_Block) _ h26) ?_
     rintro _ w ⟨rfl, hG⟩ a hk
     have hs := hs.call0 hG
     show wpList _ _ _ [] _ _
     refine wpList_nil ?_
     refine hK20 _ _ ?_
     rcases cond_some H with ⟨c27, H⟩ | ⟨c27, H⟩
     ·have hk := hk.lit 16 c27 rfl
      refine cnd_true hk rfl rfl ?_
      apply wp_seq_k; intro K28 hK28
      apply wp_region_lit
      refine sm _ rfl hk rfl rfl rfl fun a hk => ?_
      refine sa _ rfl hk rfl rfl rfl fun a hk => ?_
      show wpList _ _ _ [] _ _
      refine wpList_nil ?_
      refine hK28 _ _ ?_
      refine wp_ret ?_
      obtain rfl := Option.some.inj H
      have ho7 := h14
      try dsimp only at ho7
      subst ho7
      have H := HL9
      try dsimp only at H
      obtain rfl := Option.some.inj H
      exact fin hk _ [(.int .i64 u6)] rfl ⟨rfl, trivial⟩ ⟨rfl, (hs.pick [] rfl).dnil⟩
     ·have hk := hk.lit 16 c27 rfl
      refine cnd_false hk rfl rfl ?_
      refine wp_skip ?_
      refine hK18 _ _ ?_
      apply wp_region_lit
      refine sv (.int .i64 (w64 (u6 + 1))) hk rfl rfl rfl fun a hk => ?_
      refine sm _ rfl hk rfl rfl rfl fun a hk => ?_
      show wpList _ _ _ [] _ _
      refine wpList_nil ?_
      obtain rfl := Option.some.inj H
      obtain ⟨m29, hmm29, h14⟩ := h14
      show ∃ n', n' < _ ∧ I11 n' _ _
      refine ⟨m29, hmm29, ?_⟩
      rw [hI11]
      exact ⟨(w64 (u6 + 1)), h14, (hk.c 0 rfl (hk.c 1 rfl (hk.c 7 rfl (hk.c 8 rfl hk.k)))), (hs.pick [] rfl)⟩
    ·have hk := hk.lit 9 c17 rfl
     refine cnd_false hk rfl rfl ?_
     refine wp_exit ?_
     obtain rfl := Option.some.inj H
     show R10 _ _
     rw [hR10]
     exact ⟨h14.symm, hk.k, (hs.pick [] rfl)⟩
  ·intro a w hR0
   rw [hR10] at hR0
   obtain ⟨rfl, hk, hs⟩ := hR0
   have H := HL9
   try dsimp only at H
   refine hK2 _ _ ?_
   apply wp_seq_k; intro K30 hK30
   apply wp_region_lit
   refine sa _ rfl hk rfl rfl rfl fun a hk => ?_
   show wpList _ _ _ [] _ _
   refine wpList_nil ?_
   refine hK30 _ _ ?_
   refine wp_ret ?_
   obtain rfl := Option.some.inj H
   exact fin hk _ [(.int .i64 (-1))] rfl ⟨rfl, trivial⟩ ⟨rfl, (hs.pick [] rfl).dnil⟩

noncomputable def slices_ContainsFunc_impl_Block_impl_Block.f (l0 : List S_Block) (q1 : S_Block → Option (Bool)) : Option (Bool) :=
  ((slices_IndexFunc_impl_Block_impl_Block.f l0 q1).bind fun y3 => (some (decide (y3 ≥ 0))))
set_option maxRecDepth 100000 in
set_option maxHeartbeats 0 in
theorem slices_ContainsFunc_impl_Block_impl_Block_t (w0 : World) (A0_ : Option Addr) (p0_ : Nat) (l0 : List S_Block) (k0_ : Chunk) (v0_ : View L_Block A0_ p0_ l0 k0_) (w0_ : Has w0 k0_) (f1_ : FuncId) (c1_ : List Value) (e1_ : Enters Try.prog f1_) (q1 : S_Block → Option (Bool)) (k1_ : Chunk) (t1_ : ∀ w, Has w k1_ → ∀ (z0 : S_Block) (r : Bool), q1 z0 = some r → Calls Try.prog f1_ (([.agg #[.int .i64 z0.Id, .int .i64 z0.Leaf, .int .i64 z0.Value]] : List Value) ++ c1_).toArray w (Ret (fun v w2 => v = .bool r ∧ Sat [] w w2 [] []))) (w1_ : Has w0 k1_) (r : Bool) (H : slices_ContainsFunc_impl_Block_impl_Block.f l0 q1 = some r) :
    Calls Try.prog 103 #[.slice A0_ l0.length p0_, .func (.func f1_) #[] c1_.toArray] w0 (Ret (fun v w => v = .bool r ∧ Sat [] w0 w [] [])) := by
  have hs : Sat [] w0 w0 [(1, k0_), (2, k1_)] [] := Sat.init w0 [(1, k0_), (2, k1_)] [] (by simp only [List.mem_cons, List.not_mem_nil, or_false]; rintro x (rfl | rfl) <;> assumption) (by simp) List.nodup_nil (by simp [blks])
  unfold slices_ContainsFunc_impl_Block_impl_Block.f at H
  refine enter Try.func103 rfl Try.ntmps103 rfl fun a hk => ?_
  apply wp_seq_k; intro K1 hK1
  apply wp_region_lit
  refine sa _ rfl hk rfl rfl rfl fun a hk => ?_
  show wpList _ _ _ [] _ _
  refine wpList_nil ?_
  refine hK1 _ _ ?_
  apply wp_seq_k; intro K2 hK2
  apply wp_region_lit
  refine sm _ rfl hk rfl rfl rfl fun a hk => ?_
  refine sm _ rfl hk rfl rfl rfl fun a hk => ?_
  obtain ⟨y3, h4, H⟩ := bind_some H
  refine sc rfl en150 hk rfl rfl rfl (slices_IndexFunc_impl_Block_impl_Block_t _ A0_ p0_ l0 _ v0_ (hs.hasD (k := 1) rfl) f1_ c1_ e1_ q1 k1_ t1_ (hs.hasD (k := 2) rfl) _ h4) ?_
  rintro _ w ⟨rfl, hG⟩ a hk
  have hs := hs.call0 hG
  refine sv (.bool (decide (y3 ≥ 0))) hk rfl rfl rfl fun a hk => ?_
  refine sa _ rfl hk rfl rfl rfl fun a hk => ?_
  show wpList _ _ _ [] _ _
  refine wpList_nil ?_
  refine hK2 _ _ ?_
  refine wp_ret ?_
  obtain rfl := Option.some.inj H
  exact fin hk _ [(.bool (decide (y3 ≥ 0)))] rfl ⟨rfl, trivial⟩ ⟨rfl, (hs.pick [] rfl).dnil⟩

noncomputable def impl_areAll_impl_Block__c1.f (x0 : S_Block) (q1 : S_Block → Option (Bool)) : Option (Bool) :=
  ((q1 x0).bind fun y4 => (some (!y4)))
set_option maxRecDepth 100000 in
set_option maxHeartbeats 0 in
theorem impl_areAll_impl_Block__c1_t (w0 : World) (x0 : S_Block) (b1_ : Nat) (f1_ : FuncId) (c1_ : List Value) (e1_ : Enters Try.prog f1_) (q1 : S_Block → Option (Bool)) (k1_ : Chunk) (t1_ : ∀ w, Has w k1_ → ∀ (z0 : S_Block) (r : Bool), q1 z0 = some r → Calls Try.prog f1_ (([.agg #[.int .i64 z0.Id, .int .i64 z0.Leaf, .int .i64 z0.Value]] : List Value) ++ c1_).toArray w (Ret (fun v w2 => v = .bool r ∧ Sat [] w w2 [] []))) (w1_ : Has w0 k1_) (h1_ : Has w0 [(b1_, .cells #[.func (.func f1_) #[] c1_.toArray] 85 (0, 0))]) (r : Bool) (H : impl_areAll_impl_Block__c1.f x0 q1 = some r) :
    Calls Try.prog 104 #[.agg #[.int .i64 x0.Id, .int .i64 x0.Leaf, .int .i64 x0.Value], .pointer (some ⟨b1_, 0, none⟩)] w0 (Ret (fun v w => v = .bool r ∧ Sat [] w0 w [] [])) := by
  have hs : Sat [] w0 w0 [(2, k1_), (1, [(b1_, .cells #[.func (.func f1_) #[] c1_.toArray] 85 (0, 0))])] [] := Sat.init w0 [(2, k1_), (1, [(b1_, .cells #[.func (.func f1_) #[] c1_.toArray] 85 (0, 0))])] [] (by simp only [List.mem_cons, List.not_mem_nil, or_false]; rintro x (rfl | rfl) <;> assumption) (by simp) List.nodup_nil (by simp [blks])
  unfold impl_areAll_impl_Block__c1.f at H
  refine enter Try.func104 rfl Try.ntmps104 rfl fun a hk => ?_
  apply wp_seq_k; intro K1 hK1
  apply wp_region_lit
  refine sbx 3 hs rfl hk rfl rfl rfl rfl fun b2 w a hk hs => ?_
  refine sa _ rfl hk rfl rfl rfl fun a hk => ?_
  show wpList _ _ _ [] _ _
  refine wpList_nil ?_
  refine hK1 _ _ ?_
  apply wp_seq_k; intro K3 hK3
  apply wp_region_lit
  refine sl rfl hk rfl rfl rfl ag85 (box_cellD hs (k := 1) rfl rfl) fun a hk => ?_
  refine sln [.int .i64 x0.Id, .int .i64 x0.Leaf, .int .i64 x0.Value] rfl hk rfl rfl rfl ag81 sz81 (box_cells hs (k := 3) rfl) fun a hk => ?_
  obtain ⟨y4, h5, H⟩ := bind_some H
  refine scv (vs := ([(.agg #[.int .i64 x0.Id, .int .i64 x0.Leaf, .int .i64 x0.Value])] : List Value) ++ c1_) rfl rfl e1_ hk rfl rfl rfl (t1_ _ (hs.hasD (k := 2) rfl) x0 _ h5) ?_
  rintro _ w ⟨rfl, hG⟩ a hk
  have hs := hs.call0 hG
  refine sv (.bool (!y4)) hk rfl rfl rfl fun a hk => ?_
  refine sa _ rfl hk rfl rfl rfl fun a hk => ?_
  show wpList _ _ _ [] _ _
  refine wpList_nil ?_
  refine hK3 _ _ ?_
  refine wp_ret ?_
  obtain rfl := Option.some.inj H
  exact fin hk _ [(.bool (!y4))] rfl ⟨rfl, trivial⟩ ⟨rfl, (hs.pick [] rfl).dnil⟩

noncomputable def impl_areAll_impl_Block.f (l0 : List S_Block) (q1 : S_Block → Option (Bool)) : Option (Bool) :=
  ((slices_ContainsFunc_impl_Block_impl_Block.f l0 (fun z0 => impl_areAll_impl_Block__c1.f z0 q1)).bind fun y4 => (some (!y4)))
set_option maxRecDepth 100000 in
set_option maxHeartbeats 0 in
theorem impl_areAll_impl_Block_t (w0 : World) (A0_ : Option Addr) (p0_ : Nat) (l0 : List S_Block) (k0_ : Chunk) (v0_ : View L_Block A0_ p0_ l0 k0_) (w0_ : Has w0 k0_) (f1_ : FuncId) (c1_ : List Value) (e1_ : Enters Try.prog f1_) (q1 : S_Block → Option (Bool)) (k1_ : Chunk) (t1_ : ∀ w, Has w k1_ → ∀ (z0 : S_Block) (r : Bool), q1 z0 = some r → Calls Try.prog f1_ (([.agg #[.int .i64 z0.Id, .int .i64 z0.Leaf, .int .i64 z0.Value]] : List Value) ++ c1_).toArray w (Ret (fun v w2 => v = .bool r ∧ Sat [] w w2 [] []))) (w1_ : Has w0 k1_) (r : Bool) (H : impl_areAll_impl_Block.f l0 q1 = some r) :
    Calls Try.prog 56 #[.slice A0_ l0.length p0_, .func (.func f1_) #[] c1_.toArray] w0 (Ret (fun v w => v = .bool r ∧ Sat [] w0 w [] [])) := by
  have hs : Sat [] w0 w0 [(1, k0_), (2, k1_)] [] := Sat.init w0 [(1, k0_), (2, k1_)] [] (by simp only [List.mem_cons, List.not_mem_nil, or_false]; rintro x (rfl | rfl) <;> assumption) (by simp) List.nodup_nil (by simp [blks])
  unfold impl_areAll_impl_Block.f at H
  refine enter Try.func56 rfl Try.ntmps56 rfl fun a hk => ?_
  apply wp_seq_k; intro K1 hK1
  apply wp_region_lit
  refine sbx 3 hs rfl hk rfl rfl rfl rfl fun b2 w a hk hs => ?_
  refine sa _ rfl hk rfl rfl rfl fun a hk => ?_
  show wpList _ _ _ [] _ _
  refine wpList_nil ?_
  refine hK1 _ _ ?_
  apply wp_seq_k; intro K3 hK3
  apply wp_region_lit
  refine sm _ rfl hk rfl rfl rfl fun a hk => ?_
  refine smf (cs := [.pointer (some ⟨b2, 0, none⟩)]) rfl hk rfl rfl rfl fun a hk => ?_
  obtain ⟨y4, h5, H⟩ := bind_some H
  refine sc rfl en103 hk rfl rfl rfl (slices_ContainsFunc_impl_Block_impl_Block_t _ A0_ p0_ l0 _ v0_ (hs.hasD (k := 1) rfl) 104 [.pointer (some ⟨b2, 0, none⟩)] en104 (fun z0 => impl_areAll_impl_Block__c1.f z0 q1) ([(b2, .cells #[.func (.func f1_) #[] c1_.toArray] 85 (0, 0))] ++ k1_) (fun w hz z0 r h => impl_areAll_impl_Block__c1_t w z0 _ f1_ c1_ e1_ q1 k1_ t1_ (Has.right hz) (Has.left hz) r h) (Has.app (hs.hasG (k := 3) rfl) (hs.hasD (k := 2) rfl)) _ h5) ?_
  rintro _ w ⟨rfl, hG⟩ a hk
  have hs := hs.call0 hG
  refine sv (.bool (!y4)) hk rfl rfl rfl fun a hk => ?_
  refine sa _ rfl hk rfl rfl rfl fun a hk => ?_
  show wpList _ _ _ [] _ _
  refine wpList_nil ?_
  refine hK3 _ _ ?_
  refine wp_ret ?_
  obtain rfl := Option.some.inj H
  exact fin hk _ [(.bool (!y4))] rfl ⟨rfl, trivial⟩ ⟨rfl, (hs.pick [] rfl).dnil⟩

noncomputable def impl_isId.f (x0 : Int) : Option (Bool) :=
  ((impl_within.f x0 0 11).bind fun y3 => (some y3))
set_option maxRecDepth 100000 in
set_option maxHeartbeats 0 in
theorem impl_isId_t (w0 : World) (x0 : Int) (r : Bool) (H : impl_isId.f x0 = some r) :
    Calls Try.prog 105 #[.int .i64 x0] w0 (Ret (fun v w => v = .bool r ∧ Sat [] w0 w [] [])) := by
  have hs : Sat [] w0 w0 [] [] := Sat.init w0 [] [] (by simp) (by simp) List.nodup_nil (by simp [blks])
  unfold impl_isId.f at H
  refine enter Try.func105 rfl Try.ntmps105 rfl fun a hk => ?_
  apply wp_seq_k; intro K1 hK1
  apply wp_region_lit
  refine sa _ rfl hk rfl rfl rfl fun a hk => ?_
  show wpList _ _ _ [] _ _
  refine wpList_nil ?_
  refine hK1 _ _ ?_
  apply wp_seq_k; intro K2 hK2
  apply wp_region_lit
  refine sm _ rfl hk rfl rfl rfl fun a hk => ?_
  obtain ⟨y3, h4, H⟩ := bind_some H
  refine sc rfl en115 hk rfl rfl rfl (impl_within_t _ x0 0 11 _ h4) ?_
  rintro _ w ⟨rfl, hG⟩ a hk
  have hs := hs.call0 hG
  refine sa _ rfl hk rfl rfl rfl fun a hk => ?_
  show wpList _ _ _ [] _ _
  refine wpList_nil ?_
  refine hK2 _ _ ?_
  refine wp_ret ?_
  obtain rfl := Option.some.inj H
  exact fin hk _ [(.bool y3)] rfl ⟨rfl, trivial⟩ ⟨rfl, (hs.pick [] rfl).dnil⟩

noncomputable def impl_isLeaf.f (x0 : Int) : Option (Bool) :=
  ((impl_within.f x0 0 7).bind fun y3 => (some y3))
set_option maxRecDepth 100000 in
set_option maxHeartbeats 0 in
theorem impl_isLeaf_t (w0 : World) (x0 : Int) (r : Bool) (H : impl_isLeaf.f x0 = some r) :
    Calls Try.prog 106 #[.int .i64 x0] w0 (Ret (fun v w => v = .bool r ∧ Sat [] w0 w [] [])) := by
  have hs : Sat [] w0 w0 [] [] := Sat.init w0 [] [] (by simp) (by simp) List.nodup_nil (by simp [blks])
  unfold impl_isLeaf.f at H
  refine enter Try.func106 rfl Try.ntmps106 rfl fun a hk => ?_
  apply wp_seq_k; intro K1 hK1
  apply wp_region_lit
  refine sa _ rfl hk rfl rfl rfl fun a hk => ?_
  show wpList _ _ _ [] _ _
  refine wpList_nil ?_
  refine hK1 _ _ ?_
  apply wp_seq_k; intro K2 hK2
  apply wp_region_lit
  refine sm _ rfl hk rfl rfl rfl fun a hk => ?_
  obtain ⟨y3, h4, H⟩ := bind_some H
  refine sc rfl en115 hk rfl rfl rfl (impl_within_t _ x0 0 7 _ h4) ?_
  rintro _ w ⟨rfl, hG⟩ a hk
  have hs := hs.call0 hG
  refine sa _ rfl hk rfl rfl rfl fun a hk => ?_
  show wpList _ _ _ [] _ _
  refine wpList_nil ?_
  refine hK2 _ _ ?_
  refine wp_ret ?_
  obtain rfl := Option.some.inj H
  exact fin hk _ [(.bool y3)] rfl ⟨rfl, trivial⟩ ⟨rfl, (hs.pick [] rfl).dnil⟩

noncomputable def impl_isValue.f (x0 : Int) : Option (Bool) :=
  ((impl_within.f x0 0 999999).bind fun y3 => (some y3))
set_option maxRecDepth 100000 in
set_option maxHeartbeats 0 in
theorem impl_isValue_t (w0 : World) (x0 : Int) (r : Bool) (H : impl_isValue.f x0 = some r) :
    Calls Try.prog 107 #[.int .i64 x0] w0 (Ret (fun v w => v = .bool r ∧ Sat [] w0 w [] [])) := by
  have hs : Sat [] w0 w0 [] [] := Sat.init w0 [] [] (by simp) (by simp) List.nodup_nil (by simp [blks])
  unfold impl_isValue.f at H
  refine enter Try.func107 rfl Try.ntmps107 rfl fun a hk => ?_
  apply wp_seq_k; intro K1 hK1
  apply wp_region_lit
  refine sa _ rfl hk rfl rfl rfl fun a hk => ?_
  show wpList _ _ _ [] _ _
  refine wpList_nil ?_
  refine hK1 _ _ ?_
  apply wp_seq_k; intro K2 hK2
  apply wp_region_lit
  refine sm _ rfl hk rfl rfl rfl fun a hk => ?_
  obtain ⟨y3, h4, H⟩ := bind_some H
  refine sc rfl en115 hk rfl rfl rfl (impl_within_t _ x0 0 999999 _ h4) ?_
  rintro _ w ⟨rfl, hG⟩ a hk
  have hs := hs.call0 hG
  refine sa _ rfl hk rfl rfl rfl fun a hk => ?_
  show wpList _ _ _ [] _ _
  refine wpList_nil ?_
  refine hK2 _ _ ?_
  refine wp_ret ?_
  obtain rfl := Option.some.inj H
  exact fin hk _ [(.bool y3)] rfl ⟨rfl, trivial⟩ ⟨rfl, (hs.pick [] rfl).dnil⟩

noncomputable def impl_isBlock.f (x0 : S_Block) : Option (Bool) :=
  ((((impl_isId.f x0.Id).bind fun y10 => (bif y10 then ((impl_isLeaf.f x0.Leaf).bind fun y13 => (bif y13 then ((impl_isValue.f x0.Value).bind fun y16 => (some y16)) else (some false))) else (some false))) : Option (Bool)).bind fun u5 => (some u5))
set_option maxRecDepth 100000 in
set_option maxHeartbeats 0 in
theorem impl_isBlock_t (w0 : World) (x0 : S_Block) (r : Bool) (H : impl_isBlock.f x0 = some r) :
    Calls Try.prog 57 #[.agg #[.int .i64 x0.Id, .int .i64 x0.Leaf, .int .i64 x0.Value]] w0 (Ret (fun v w => v = .bool r ∧ Sat [] w0 w [] [])) := by
  have hs : Sat [] w0 w0 [] [] := Sat.init w0 [] [] (by simp) (by simp) List.nodup_nil (by simp [blks])
  unfold impl_isBlock.f at H
  refine enter Try.func57 rfl Try.ntmps57 rfl fun a hk => ?_
  apply wp_seq_k; intro K1 hK1
  apply wp_region_lit
  refine sbx 1 hs rfl hk rfl rfl rfl rfl fun b2 w a hk hs => ?_
  refine sa _ rfl hk rfl rfl rfl fun a hk => ?_
  show wpList _ _ _ [] _ _
  refine wpList_nil ?_
  refine hK1 _ _ ?_
  apply wp_seq_k; intro K3 hK3
  obtain ⟨o6, h7, HL8⟩ := bind_some H
  clear H
  obtain ⟨R9, hR9⟩ : ∃ R : Act → World → Prop, R = fun a w => ∃ (u5 : Bool), u5 = o6 ∧ Kn [(2, (.bool u5))] 16 a ∧ Sat [] w0 w [] [] := ⟨_, rfl⟩
  refine wp_cutq R9 ?_ ?_
  ·have H := h7
   apply wp_region_lit
   refine sf ⟨b2, 0, none⟩ rfl hk rfl rfl rfl fd81_0 rfl fun a hk => ?_
   refine sl rfl hk rfl rfl rfl ag3 (box_cell hs (k := 1) rfl rfl) fun a hk => ?_
   obtain ⟨y10, h11, H⟩ := bind_some H
   refine sc rfl en105 hk rfl rfl rfl (impl_isId_t _ x0.Id _ h11) ?_
   rintro _ w ⟨rfl, hG⟩ a hk
   have hs := hs.call0 hG
   refine sm _ rfl hk rfl rfl rfl fun a hk => ?_
   rcases cond_some H with ⟨c12, H⟩ | ⟨c12, H⟩
   ·have hk := hk.lit 6 c12 rfl
    refine sf ⟨b2, 1, none⟩ rfl hk rfl rfl rfl fd81_1 rfl fun a hk => ?_
    refine sl rfl hk rfl rfl rfl ag3 (box_cell hs (k := 1) rfl rfl) fun a hk => ?_
    obtain ⟨y13, h14, H⟩ := bind_some H
    refine sc rfl en106 hk rfl rfl rfl (impl_isLeaf_t _ x0.Leaf _ h14) ?_
    rintro _ w ⟨rfl, hG⟩ a hk
    have hs := hs.call0 hG
    refine sv (.bool y13) hk rfl rfl rfl fun a hk => ?_
    refine sm _ rfl hk rfl rfl rfl fun a hk => ?_
    rcases cond_some H with ⟨c15, H⟩ | ⟨c15, H⟩
    ·have hk := hk.lit 11 c15 rfl
     refine sf ⟨b2, 2, none⟩ rfl hk rfl rfl rfl fd81_2 rfl fun a hk => ?_
     refine sl rfl hk rfl rfl rfl ag3 (box_cell hs (k := 1) rfl rfl) fun a hk => ?_
     obtain ⟨y16, h17, H⟩ := bind_some H
     refine sc rfl en107 hk rfl rfl rfl (impl_isValue_t _ x0.Value _ h17) ?_
     rintro _ w ⟨rfl, hG⟩ a hk
     have hs := hs.call0 hG
     refine sv (.bool y16) hk rfl rfl rfl fun a hk => ?_
     refine sa _ rfl hk rfl rfl rfl fun a hk => ?_
     show wpList _ _ _ [] _ _
     refine wpList_nil ?_
     obtain rfl := Option.some.inj H
     show R9 _ _
     rw [hR9]
     exact ⟨y16, rfl, (hk.c 2 rfl hk.k), (hs.pick [] rfl)⟩
    ·have hk := hk.lit 11 c15 rfl
     refine sk hk rfl rfl rfl fun a hk => ?_
     refine sk hk rfl rfl rfl fun a hk => ?_
     refine sk hk rfl rfl rfl fun a hk => ?_
     refine sv (.bool false) hk rfl rfl rfl fun a hk => ?_
     refine sa _ rfl hk rfl rfl rfl fun a hk => ?_
     show wpList _ _ _ [] _ _
     refine wpList_nil ?_
     obtain rfl := Option.some.inj H
     show R9 _ _
     rw [hR9]
     exact ⟨false, rfl, (hk.c 2 rfl hk.k), (hs.pick [] rfl)⟩
   ·have hk := hk.lit 6 c12 rfl
    refine sk hk rfl rfl rfl fun a hk => ?_
    refine sk hk rfl rfl rfl fun a hk => ?_
    refine sk hk rfl rfl rfl fun a hk => ?_
    refine sv (.bool false) hk rfl rfl rfl fun a hk => ?_
    refine sm _ rfl hk rfl rfl rfl fun a hk => ?_
    refine sk hk rfl rfl rfl fun a hk => ?_
    refine sk hk rfl rfl rfl fun a hk => ?_
    refine sk hk rfl rfl rfl fun a hk => ?_
    refine sv (.bool false) hk rfl rfl rfl fun a hk => ?_
    refine sa _ rfl hk rfl rfl rfl fun a hk => ?_
    show wpList _ _ _ [] _ _
    refine wpList_nil ?_
    obtain rfl := Option.some.inj H
    show R9 _ _
    rw [hR9]
    exact ⟨false, rfl, (hk.c 2 rfl hk.k), (hs.pick [] rfl)⟩
  ·intro a w hR0
   rw [hR9] at hR0
   obtain ⟨u5, rfl, hk, hs⟩ := hR0
   have H := HL8
   try dsimp only at H
   refine hK3 _ _ ?_
   refine wp_ret ?_
   obtain rfl := Option.some.inj H
   exact fin hk _ [(.bool u5)] rfl ⟨rfl, trivial⟩ ⟨rfl, (hs.pick [] rfl).dnil⟩

noncomputable def slices_IndexFunc_int_int.s0 (l0 : List Int) (q1 : Int → Option (Bool)) (u6 : Int) : Option ((Int) ⊕ Ex (Unit) (Int)) :=
  (bif (decide (u6 < (l0.length : Int))) then (if 0 ≤ u6 ∧ u6 < (l0.length : Int) then ((q1 (l0.getD u6.toNat 0)).bind fun y25 => (bif y25 then (some (.inr (.ret u6))) else (some (.inl (w64 (u6 + 1)))))) else none) else (some (.inr (.out ()))))
noncomputable def slices_IndexFunc_int_int.f (l0 : List Int) (q1 : Int → Option (Bool)) : Option (Int) :=
  ((loopO (fun s => slices_IndexFunc_int_int.s0 l0 q1 s) 0).bind fun o => match o with | .out _ => (some (-1)) | .ret r => (some r))
set_option maxRecDepth 100000 in
set_option maxHeartbeats 0 in
theorem slices_IndexFunc_int_int_t (w0 : World) (A0_ : Option Addr) (p0_ : Nat) (l0 : List Int) (k0_ : Chunk) (v0_ : View (Lay.int .i64) A0_ p0_ l0 k0_) (w0_ : Has w0 k0_) (f1_ : FuncId) (c1_ : List Value) (e1_ : Enters Try.prog f1_) (q1 : Int → Option (Bool)) (k1_ : Chunk) (t1_ : ∀ w, Has w k1_ → ∀ (z0 : Int) (r : Bool), q1 z0 = some r → Calls Try.prog f1_ (([.int .i64 z0] : List Value) ++ c1_).toArray w (Ret (fun v w2 => v = .bool r ∧ Sat [] w w2 [] []))) (w1_ : Has w0 k1_) (r : Int) (H : slices_IndexFunc_int_int.f l0 q1 = some r) :
    Calls Try.prog 180 #[.slice A0_ l0.length p0_, .func (.func f1_) #[] c1_.toArray] w0 (Ret (fun v w => v = .int .i64 r ∧ Sat [] w0 w [] [])) := by
  have hs : Sat [] w0 w0 [(1, k0_), (2, k1_)] [] := Sat.init w0 [(1, k0_), (2, k1_)] [] (by simp only [List.mem_cons, List.not_mem_nil, or_false]; rintro x (rfl | rfl) <;> assumption) (by simp) List.nodup_nil (by simp [blks])
  unfold slices_IndexFunc_int_int.f at H
  refine enter Try.func180 rfl Try.ntmps180 rfl fun a hk => ?_
  apply wp_seq_k; intro K1 hK1
  apply wp_region_lit
  refine sa _ rfl hk rfl rfl rfl fun a hk => ?_
  show wpList _ _ _ [] _ _
  refine wpList_nil ?_
  refine hK1 _ _ ?_
  apply wp_seq_k; intro K2 hK2
  apply wp_seq_k; intro K3 hK3
  apply wp_region_lit
  refine sm _ rfl hk rfl rfl rfl fun a hk => ?_
  refine sle rfl hk rfl rfl rfl un31 fun a hk => ?_
  refine sm _ rfl hk rfl rfl rfl fun a hk => ?_
  show wpList _ _ _ [] _ _
  refine wpList_nil ?_
  refine hK3 _ _ ?_
  obtain ⟨o7, h8, HL9⟩ := bind_some H
  clear H
  obtain ⟨R10, hR10⟩ : ∃ R : Act → World → Prop, R = fun a w => o7 = .out () ∧ Kn [] 19 a ∧ Sat [] w0 w [(1, k0_), (2, k1_)] [] := ⟨_, rfl⟩
  refine wp_cutq R10 ?_ ?_
  ·refine wp_block ?_
   obtain ⟨fu12, h8⟩ := loopO_some h8
   obtain ⟨I11, hI11⟩ : ∃ I : Nat → Act → World → Prop, I = fun fu a w => ∃ (u6 : Int), loopN (fun s => slices_IndexFunc_int_int.s0 l0 q1 s) fu u6 = some o7 ∧ Kn [(0, (.slice A0_ l0.length p0_)), (1, (.func (.func f1_) #[] c1_.toArray)), (7, (.int .i64 (l0.length : Int))), (8, (.int .i64 u6))] 19 a ∧ Sat [] w0 w [(1, k0_), (2, k1_)] [] := ⟨_, rfl⟩
   refine wp_loop_ghost I11 fu12 ?_ ?_
   ·rw [hI11]
    exact ⟨0, h8, (hk.c 0 rfl (hk.c 1 rfl (hk.c 7 rfl (hk.c 8 rfl hk.k)))), (hs.pick [] rfl)⟩
   ·clear h8 hk hs
    intro fu12 a w hI0
    rw [hI11] at hI0
    obtain ⟨u6, hi, hk, hs⟩ := hI0
    obtain ⟨x13, H, h14⟩ := loop_round hi
    try dsimp only at H
    unfold slices_IndexFunc_int_int.s0 at H
    apply wp_seq_k; intro K15 hK15
    apply wp_region_lit
    refine sv (.bool (decide (u6 < (l0.length : Int)))) hk rfl rfl rfl fun a hk => ?_
    show wpList _ _ _ [] _ _
    refine wpList_nil ?_
    refine hK15 _ _ ?_
    apply wp_seq_k; intro K16 hK16
    rcases cond_some H with ⟨c17, H⟩ | ⟨c17, H⟩
    ·have hk := hk.lit 9 c17 rfl
     refine cnd_true hk rfl rfl ?_
     refine wp_skip ?_
     refine hK16 _ _ ?_
     apply wp_seq_k; intro K18 hK18
     refine wp_block ?_
     apply wp_seq_k; intro K19 hK19
     apply wp_region_lit
     refine sm _ rfl hk rfl rfl rfl fun a hk => ?_
     refine sa _ rfl hk rfl rfl rfl fun a hk => ?_
     show wpList _ _ _ [] _ _
     refine wpList_nil ?_
     refine hK19 _ _ ?_
     apply wp_seq_k; intro K20 hK20
     apply wp_region_lit
     refine sm _ rfl hk rfl rfl rfl fun a hk => ?_
     refine sm _ rfl hk rfl rfl rfl fun a hk => ?_
     refine sm _ rfl hk rfl rfl rfl fun a hk => ?_
     rcases ite_some H with ⟨c21, H⟩ | ⟨_, H⟩
     rotate_left
     ·cases H
     obtain ⟨b22, q23, hAc21⟩ := (v0_).some_ u6 c21.1 c21.2
     refine si rfl hk rfl rfl rfl rfl un31 sz3 c21.1 c21.2 hAc21 fun a hk => ?_
     obtain ⟨_, rfl, e24⟩ := (v0_).at_ 0 u6 c21.1 c21.2
     refine sl (v := (.int .i64 (l0.getD u6.toNat 0))) rfl hk rfl rfl rfl ag3 ((e24 0 _ rfl).cell (hs.hasD (k := 1) rfl)) fun a hk => ?_
     obtain ⟨y25, h26, H⟩ := bind_some H
     refine scv (vs := ([(.int .i64 (l0.getD u6.toNat 0))] : List Value) ++ c1_) rfl rfl e1_ hk rfl rfl rfl (t1_ _ (hs.hasD (k := 2) rfl) (l0.getD u6.toNat 0) _ h26) ?_
     rintro _ w ⟨rfl, hG⟩ a hk
     have hs := hs.call0 hG
     show wpList _ _ _ [] _ _
     refine wpList_nil ?_
     refine hK20 _ _ ?_
     rcases cond_some H with ⟨c27, H⟩ | ⟨c27, H⟩
     ·have hk := hk.lit 16 c27 rfl
      refine cnd_true hk rfl rfl ?_
      apply wp_seq_k; intro K28 hK28
      apply wp_region_lit
      refine sm _ rfl hk rfl rfl rfl fun a hk => ?_
      refine sa _ rfl hk rfl rfl rfl fun a hk => ?_
      show wpList _ _ _ [] _ _
      refine wpList_nil ?_
      refine hK28 _ _ ?_
      refine wp_ret ?_
      obtain rfl := Option.some.inj H
      have ho7 := h14
      try dsimp only at ho7
      subst ho7
      have H := HL9
      try dsimp only at H
      obtain rfl := Option.some.inj H
      exact fin hk _ [(.int .i64 u6)] rfl ⟨rfl, trivial⟩ ⟨rfl, (hs.pick [] rfl).dnil⟩
     ·have hk := hk.lit 16 c27 rfl
      refine cnd_false hk rfl rfl ?_
      refine wp_skip ?_
      refine hK18 _ _ ?_
      apply wp_region_lit
      refine sv (.int .i64 (w64 (u6 + 1))) hk rfl rfl rfl fun a hk => ?_
      refine sm _ rfl hk rfl rfl rfl fun a hk => ?_
      show wpList _ _ _ [] _ _
      refine wpList_nil ?_
      obtain rfl := Option.some.inj H
      obtain ⟨m29, hmm29, h14⟩ := h14
      show ∃ n', n' < _ ∧ I11 n' _ _
      refine ⟨m29, hmm29, ?_⟩
      rw [hI11]
      exact ⟨(w64 (u6 + 1)), h14, (hk.c 0 rfl (hk.c 1 rfl (hk.c 7 rfl (hk.c 8 rfl hk.k)))), (hs.pick [] rfl)⟩
    ·have hk := hk.lit 9 c17 rfl
     refine cnd_false hk rfl rfl ?_
     refine wp_exit ?_
     obtain rfl := Option.some.inj H
     show R10 _ _
     rw [hR10]
     exact ⟨h14.symm, hk.k, (hs.pick [] rfl)⟩
  ·intro a w hR0
   rw [hR10] at hR0
   obtain ⟨rfl, hk, hs⟩ := hR0
   have H := HL9
   try dsimp only at H
   refine hK2 _ _ ?_
   apply wp_seq_k; intro K30 hK30
   apply wp_region_lit
   refine sa _ rfl hk rfl rfl rfl fun a hk => ?_
   show wpList _ _ _ [] _ _
   refine wpList_nil ?_
   refine hK30 _ _ ?_
   refine wp_ret ?_
   obtain rfl := Option.some.inj H
   exact fin hk _ [(.int .i64 (-1))] rfl ⟨rfl, trivial⟩ ⟨rfl, (hs.pick [] rfl).dnil⟩

noncomputable def slices_ContainsFunc_int_int.f (l0 : List Int) (q1 : Int → Option (Bool)) : Option (Bool) :=
  ((slices_IndexFunc_int_int.f l0 q1).bind fun y3 => (some (decide (y3 ≥ 0))))
set_option maxRecDepth 100000 in
set_option maxHeartbeats 0 in
theorem slices_ContainsFunc_int_int_t (w0 : World) (A0_ : Option Addr) (p0_ : Nat) (l0 : List Int) (k0_ : Chunk) (v0_ : View (Lay.int .i64) A0_ p0_ l0 k0_) (w0_ : Has w0 k0_) (f1_ : FuncId) (c1_ : List Value) (e1_ : Enters Try.prog f1_) (q1 : Int → Option (Bool)) (k1_ : Chunk) (t1_ : ∀ w, Has w k1_ → ∀ (z0 : Int) (r : Bool), q1 z0 = some r → Calls Try.prog f1_ (([.int .i64 z0] : List Value) ++ c1_).toArray w (Ret (fun v w2 => v = .bool r ∧ Sat [] w w2 [] []))) (w1_ : Has w0 k1_) (r : Bool) (H : slices_ContainsFunc_int_int.f l0 q1 = some r) :
    Calls Try.prog 154 #[.slice A0_ l0.length p0_, .func (.func f1_) #[] c1_.toArray] w0 (Ret (fun v w => v = .bool r ∧ Sat [] w0 w [] [])) := by
  have hs : Sat [] w0 w0 [(1, k0_), (2, k1_)] [] := Sat.init w0 [(1, k0_), (2, k1_)] [] (by simp only [List.mem_cons, List.not_mem_nil, or_false]; rintro x (rfl | rfl) <;> assumption) (by simp) List.nodup_nil (by simp [blks])
  unfold slices_ContainsFunc_int_int.f at H
  refine enter Try.func154 rfl Try.ntmps154 rfl fun a hk => ?_
  apply wp_seq_k; intro K1 hK1
  apply wp_region_lit
  refine sa _ rfl hk rfl rfl rfl fun a hk => ?_
  show wpList _ _ _ [] _ _
  refine wpList_nil ?_
  refine hK1 _ _ ?_
  apply wp_seq_k; intro K2 hK2
  apply wp_region_lit
  refine sm _ rfl hk rfl rfl rfl fun a hk => ?_
  refine sm _ rfl hk rfl rfl rfl fun a hk => ?_
  obtain ⟨y3, h4, H⟩ := bind_some H
  refine sc rfl en180 hk rfl rfl rfl (slices_IndexFunc_int_int_t _ A0_ p0_ l0 _ v0_ (hs.hasD (k := 1) rfl) f1_ c1_ e1_ q1 k1_ t1_ (hs.hasD (k := 2) rfl) _ h4) ?_
  rintro _ w ⟨rfl, hG⟩ a hk
  have hs := hs.call0 hG
  refine sv (.bool (decide (y3 ≥ 0))) hk rfl rfl rfl fun a hk => ?_
  refine sa _ rfl hk rfl rfl rfl fun a hk => ?_
  show wpList _ _ _ [] _ _
  refine wpList_nil ?_
  refine hK2 _ _ ?_
  refine wp_ret ?_
  obtain rfl := Option.some.inj H
  exact fin hk _ [(.bool (decide (y3 ≥ 0)))] rfl ⟨rfl, trivial⟩ ⟨rfl, (hs.pick [] rfl).dnil⟩

noncomputable def impl_areAll_int__c1.f (x0 : Int) (q1 : Int → Option (Bool)) : Option (Bool) :=
  ((q1 x0).bind fun y3 => (some (!y3)))
set_option maxRecDepth 100000 in
set_option maxHeartbeats 0 in
theorem impl_areAll_int__c1_t (w0 : World) (x0 : Int) (b1_ : Nat) (f1_ : FuncId) (c1_ : List Value) (e1_ : Enters Try.prog f1_) (q1 : Int → Option (Bool)) (k1_ : Chunk) (t1_ : ∀ w, Has w k1_ → ∀ (z0 : Int) (r : Bool), q1 z0 = some r → Calls Try.prog f1_ (([.int .i64 z0] : List Value) ++ c1_).toArray w (Ret (fun v w2 => v = .bool r ∧ Sat [] w w2 [] []))) (w1_ : Has w0 k1_) (h1_ : Has w0 [(b1_, .cells #[.func (.func f1_) #[] c1_.toArray] 113 (0, 0))]) (r : Bool) (H : impl_areAll_int__c1.f x0 q1 = some r) :
    Calls Try.prog 155 #[.int .i64 x0, .pointer (some ⟨b1_, 0, none⟩)] w0 (Ret (fun v w => v = .bool r ∧ Sat [] w0 w [] [])) := by
  have hs : Sat [] w0 w0 [(2, k1_), (1, [(b1_, .cells #[.func (.func f1_) #[] c1_.toArray] 113 (0, 0))])] [] := Sat.init w0 [(2, k1_), (1, [(b1_, .cells #[.func (.func f1_) #[] c1_.toArray] 113 (0, 0))])] [] (by simp only [List.mem_cons, List.not_mem_nil, or_false]; rintro x (rfl | rfl) <;> assumption) (by simp) List.nodup_nil (by simp [blks])
  unfold impl_areAll_int__c1.f at H
  refine enter Try.func155 rfl Try.ntmps155 rfl fun a hk => ?_
  apply wp_seq_k; intro K1 hK1
  apply wp_region_lit
  refine sa _ rfl hk rfl rfl rfl fun a hk => ?_
  show wpList _ _ _ [] _ _
  refine wpList_nil ?_
  refine hK1 _ _ ?_
  apply wp_seq_k; intro K2 hK2
  apply wp_region_lit
  refine sl rfl hk rfl rfl rfl ag113 (box_cellD hs (k := 1) rfl rfl) fun a hk => ?_
  refine sm _ rfl hk rfl rfl rfl fun a hk => ?_
  obtain ⟨y3, h4, H⟩ := bind_some H
  refine scv (vs := ([(.int .i64 x0)] : List Value) ++ c1_) rfl rfl e1_ hk rfl rfl rfl (t1_ _ (hs.hasD (k := 2) rfl) x0 _ h4) ?_
  rintro _ w ⟨rfl, hG⟩ a hk
  have hs := hs.call0 hG
  refine sv (.bool (!y3)) hk rfl rfl rfl fun a hk => ?_
  refine sa _ rfl hk rfl rfl rfl fun a hk => ?_
  show wpList _ _ _ [] _ _
  refine wpList_nil ?_
  refine hK2 _ _ ?_
  refine wp_ret ?_
  obtain rfl := Option.some.inj H
  exact fin hk _ [(.bool (!y3))] rfl ⟨rfl, trivial⟩ ⟨rfl, (hs.pick [] rfl).dnil⟩

noncomputable def impl_areAll_int.f (l0 : List Int) (q1 : Int → Option (Bool)) : Option (Bool) :=
  ((slices_ContainsFunc_int_int.f l0 (fun z0 => impl_areAll_int__c1.f z0 q1)).bind fun y4 => (some (!y4)))
set_option maxRecDepth 100000 in
set_option maxHeartbeats 0 in
theorem impl_areAll_int_t (w0 : World) (A0_ : Option Addr) (p0_ : Nat) (l0 : List Int) (k0_ : Chunk) (v0_ : View (Lay.int .i64) A0_ p0_ l0 k0_) (w0_ : Has w0 k0_) (f1_ : FuncId) (c1_ : List Value) (e1_ : Enters Try.prog f1_) (q1 : Int → Option (Bool)) (k1_ : Chunk) (t1_ : ∀ w, Has w k1_ → ∀ (z0 : Int) (r : Bool), q1 z0 = some r → Calls Try.prog f1_ (([.int .i64 z0] : List Value) ++ c1_).toArray w (Ret (fun v w2 => v = .bool r ∧ Sat [] w w2 [] []))) (w1_ : Has w0 k1_) (r : Bool) (H : impl_areAll_int.f l0 q1 = some r) :
    Calls Try.prog 114 #[.slice A0_ l0.length p0_, .func (.func f1_) #[] c1_.toArray] w0 (Ret (fun v w => v = .bool r ∧ Sat [] w0 w [] [])) := by
  have hs : Sat [] w0 w0 [(1, k0_), (2, k1_)] [] := Sat.init w0 [(1, k0_), (2, k1_)] [] (by simp only [List.mem_cons, List.not_mem_nil, or_false]; rintro x (rfl | rfl) <;> assumption) (by simp) List.nodup_nil (by simp [blks])
  unfold impl_areAll_int.f at H
  refine enter Try.func114 rfl Try.ntmps114 rfl fun a hk => ?_
  apply wp_seq_k; intro K1 hK1
  apply wp_region_lit
  refine sbx 3 hs rfl hk rfl rfl rfl rfl fun b2 w a hk hs => ?_
  refine sa _ rfl hk rfl rfl rfl fun a hk => ?_
  show wpList _ _ _ [] _ _
  refine wpList_nil ?_
  refine hK1 _ _ ?_
  apply wp_seq_k; intro K3 hK3
  apply wp_region_lit
  refine sm _ rfl hk rfl rfl rfl fun a hk => ?_
  refine smf (cs := [.pointer (some ⟨b2, 0, none⟩)]) rfl hk rfl rfl rfl fun a hk => ?_
  obtain ⟨y4, h5, H⟩ := bind_some H
  refine sc rfl en154 hk rfl rfl rfl (slices_ContainsFunc_int_int_t _ A0_ p0_ l0 _ v0_ (hs.hasD (k := 1) rfl) 155 [.pointer (some ⟨b2, 0, none⟩)] en155 (fun z0 => impl_areAll_int__c1.f z0 q1) ([(b2, .cells #[.func (.func f1_) #[] c1_.toArray] 113 (0, 0))] ++ k1_) (fun w hz z0 r h => impl_areAll_int__c1_t w z0 _ f1_ c1_ e1_ q1 k1_ t1_ (Has.right hz) (Has.left hz) r h) (Has.app (hs.hasG (k := 3) rfl) (hs.hasD (k := 2) rfl)) _ h5) ?_
  rintro _ w ⟨rfl, hG⟩ a hk
  have hs := hs.call0 hG
  refine sv (.bool (!y4)) hk rfl rfl rfl fun a hk => ?_
  refine sa _ rfl hk rfl rfl rfl fun a hk => ?_
  show wpList _ _ _ [] _ _
  refine wpList_nil ?_
  refine hK3 _ _ ?_
  refine wp_ret ?_
  obtain rfl := Option.some.inj H
  exact fin hk _ [(.bool (!y4))] rfl ⟨rfl, trivial⟩ ⟨rfl, (hs.pick [] rfl).dnil⟩

noncomputable def slices_Index_int_int.s0 (l0 : List Int) (x1 : Int) (u6 : Int) : Option ((Int) ⊕ Ex (Unit) (Int)) :=
  (bif (decide (u6 < (l0.length : Int))) then (if 0 ≤ u6 ∧ u6 < (l0.length : Int) then (bif (x1 == (l0.getD u6.toNat 0)) then (some (.inr (.ret u6))) else (some (.inl (w64 (u6 + 1))))) else none) else (some (.inr (.out ()))))
noncomputable def slices_Index_int_int.f (l0 : List Int) (x1 : Int) : Option (Int) :=
  ((loopO (fun s => slices_Index_int_int.s0 l0 x1 s) 0).bind fun o => match o with | .out _ => (some (-1)) | .ret r => (some r))
set_option maxRecDepth 100000 in
set_option maxHeartbeats 0 in
theorem slices_Index_int_int_t (w0 : World) (A0_ : Option Addr) (p0_ : Nat) (l0 : List Int) (k0_ : Chunk) (v0_ : View (Lay.int .i64) A0_ p0_ l0 k0_) (w0_ : Has w0 k0_) (x1 : Int) (r : Int) (H : slices_Index_int_int.f l0 x1 = some r) :
    Calls Try.prog 186 #[.slice A0_ l0.length p0_, .int .i64 x1] w0 (Ret (fun v w => v = .int .i64 r ∧ Sat [] w0 w [] [])) := by
  have hs : Sat [] w0 w0 [(1, k0_)] [] := Sat.init w0 [(1, k0_)] [] (by simp only [List.mem_cons, List.not_mem_nil, or_false]; rintro x (rfl) <;> assumption) (by simp) List.nodup_nil (by simp [blks])
  unfold slices_Index_int_int.f at H
  refine enter Try.func186 rfl Try.ntmps186 rfl fun a hk => ?_
  apply wp_seq_k; intro K1 hK1
  apply wp_region_lit
  refine sa _ rfl hk rfl rfl rfl fun a hk => ?_
  show wpList _ _ _ [] _ _
  refine wpList_nil ?_
  refine hK1 _ _ ?_
  apply wp_seq_k; intro K2 hK2
  apply wp_seq_k; intro K3 hK3
  apply wp_region_lit
  refine sm _ rfl hk rfl rfl rfl fun a hk => ?_
  refine sle rfl hk rfl rfl rfl un31 fun a hk => ?_
  refine sm _ rfl hk rfl rfl rfl fun a hk => ?_
  show wpList _ _ _ [] _ _
  refine wpList_nil ?_
  refine hK3 _ _ ?_
  obtain ⟨o7, h8, HL9⟩ := bind_some H
  clear H
  obtain ⟨R10, hR10⟩ : ∃ R : Act → World → Prop, R = fun a w => o7 = .out () ∧ Kn [] 19 a ∧ Sat [] w0 w [(1, k0_)] [] := ⟨_, rfl⟩
  refine wp_cutq R10 ?_ ?_
  ·refine wp_block ?_
   obtain ⟨fu12, h8⟩ := loopO_some h8
   obtain ⟨I11, hI11⟩ : ∃ I : Nat → Act → World → Prop, I = fun fu a w => ∃ (u6 : Int), loopN (fun s => slices_Index_int_int.s0 l0 x1 s) fu u6 = some o7 ∧ Kn [(0, (.slice A0_ l0.length p0_)), (1, (.int .i64 x1)), (7, (.int .i64 (l0.length : Int))), (8, (.int .i64 u6))] 19 a ∧ Sat [] w0 w [(1, k0_)] [] := ⟨_, rfl⟩
   refine wp_loop_ghost I11 fu12 ?_ ?_
   ·rw [hI11]
    exact ⟨0, h8, (hk.c 0 rfl (hk.c 1 rfl (hk.c 7 rfl (hk.c 8 rfl hk.k)))), (hs.pick [] rfl)⟩
   ·clear h8 hk hs
    intro fu12 a w hI0
    rw [hI11] at hI0
    obtain ⟨u6, hi, hk, hs⟩ := hI0
    obtain ⟨x13, H, h14⟩ := loop_round hi
    try dsimp only at H
    unfold slices_Index_int_int.s0 at H
    apply wp_seq_k; intro K15 hK15
    apply wp_region_lit
    refine sv (.bool (decide (u6 < (l0.length : Int)))) hk rfl rfl rfl fun a hk => ?_
    show wpList _ _ _ [] _ _
    refine wpList_nil ?_
    refine hK15 _ _ ?_
    apply wp_seq_k; intro K16 hK16
    rcases cond_some H with ⟨c17, H⟩ | ⟨c17, H⟩
    ·have hk := hk.lit 9 c17 rfl
     refine cnd_true hk rfl rfl ?_
     refine wp_skip ?_
     refine hK16 _ _ ?_
     apply wp_seq_k; intro K18 hK18
     refine wp_block ?_
     apply wp_seq_k; intro K19 hK19
     apply wp_region_lit
     refine sm _ rfl hk rfl rfl rfl fun a hk => ?_
     refine sa _ rfl hk rfl rfl rfl fun a hk => ?_
     show wpList _ _ _ [] _ _
     refine wpList_nil ?_
     refine hK19 _ _ ?_
     apply wp_seq_k; intro K20 hK20
     apply wp_region_lit
     refine sm _ rfl hk rfl rfl rfl fun a hk => ?_
     refine sm _ rfl hk rfl rfl rfl fun a hk => ?_
     refine sm _ rfl hk rfl rfl rfl fun a hk => ?_
     rcases ite_some H with ⟨c21, H⟩ | ⟨_, H⟩
     rotate_left
     ·cases H
     obtain ⟨b22, q23, hAc21⟩ := (v0_).some_ u6 c21.1 c21.2
     refine si rfl hk rfl rfl rfl rfl un31 sz3 c21.1 c21.2 hAc21 fun a hk => ?_
     obtain ⟨_, rfl, e24⟩ := (v0_).at_ 0 u6 c21.1 c21.2
     refine sl (v := (.int .i64 (l0.getD u6.toNat 0))) rfl hk rfl rfl rfl ag3 ((e24 0 _ rfl).cell (hs.hasD (k := 1) rfl)) fun a hk => ?_
     refine sv (.bool (x1 == (l0.getD u6.toNat 0))) hk rfl rfl rfl fun a hk => ?_
     show wpList _ _ _ [] _ _
     refine wpList_nil ?_
     refine hK20 _ _ ?_
     rcases cond_some H with ⟨c25, H⟩ | ⟨c25, H⟩
     ·have hk := hk.lit 16 c25 rfl
      refine cnd_true hk rfl rfl ?_
      apply wp_seq_k; intro K26 hK26
      apply wp_region_lit
      refine sm _ rfl hk rfl rfl rfl fun a hk => ?_
      refine sa _ rfl hk rfl rfl rfl fun a hk => ?_
      show wpList _ _ _ [] _ _
      refine wpList_nil ?_
      refine hK26 _ _ ?_
      refine wp_ret ?_
      obtain rfl := Option.some.inj H
      have ho7 := h14
      try dsimp only at ho7
      subst ho7
      have H := HL9
      try dsimp only at H
      obtain rfl := Option.some.inj H
      exact fin hk _ [(.int .i64 u6)] rfl ⟨rfl, trivial⟩ ⟨rfl, (hs.pick [] rfl).dnil⟩
     ·have hk := hk.lit 16 c25 rfl
      refine cnd_false hk rfl rfl ?_
      refine wp_skip ?_
      refine hK18 _ _ ?_
      apply wp_region_lit
      refine sv (.int .i64 (w64 (u6 + 1))) hk rfl rfl rfl fun a hk => ?_
      refine sm _ rfl hk rfl rfl rfl fun a hk => ?_
      show wpList _ _ _ [] _ _
      refine wpList_nil ?_
      obtain rfl := Option.some.inj H
      obtain ⟨m27, hmm27, h14⟩ := h14
      show ∃ n', n' < _ ∧ I11 n' _ _
      refine ⟨m27, hmm27, ?_⟩
      rw [hI11]
      exact ⟨(w64 (u6 + 1)), h14, (hk.c 0 rfl (hk.c 1 rfl (hk.c 7 rfl (hk.c 8 rfl hk.k)))), (hs.pick [] rfl)⟩
    ·have hk := hk.lit 9 c17 rfl
     refine cnd_false hk rfl rfl ?_
     refine wp_exit ?_
     obtain rfl := Option.some.inj H
     show R10 _ _
     rw [hR10]
     exact ⟨h14.symm, hk.k, (hs.pick [] rfl)⟩
  ·intro a w hR0
   rw [hR10] at hR0
   obtain ⟨rfl, hk, hs⟩ := hR0
   have H := HL9
   try dsimp only at H
   refine hK2 _ _ ?_
   apply wp_seq_k; intro K28 hK28
   apply wp_region_lit
   refine sa _ rfl hk rfl rfl rfl fun a hk => ?_
   show wpList _ _ _ [] _ _
   refine wpList_nil ?_
   refine hK28 _ _ ?_
   refine wp_ret ?_
   obtain rfl := Option.some.inj H
   exact fin hk _ [(.int .i64 (-1))] rfl ⟨rfl, trivial⟩ ⟨rfl, (hs.pick [] rfl).dnil⟩

noncomputable def slices_Contains_int_int.f (l0 : List Int) (x1 : Int) : Option (Bool) :=
  ((slices_Index_int_int.f l0 x1).bind fun y3 => (some (decide (y3 ≥ 0))))
set_option maxRecDepth 100000 in
set_option maxHeartbeats 0 in
theorem slices_Contains_int_int_t (w0 : World) (A0_ : Option Addr) (p0_ : Nat) (l0 : List Int) (k0_ : Chunk) (v0_ : View (Lay.int .i64) A0_ p0_ l0 k0_) (w0_ : Has w0 k0_) (x1 : Int) (r : Bool) (H : slices_Contains_int_int.f l0 x1 = some r) :
    Calls Try.prog 165 #[.slice A0_ l0.length p0_, .int .i64 x1] w0 (Ret (fun v w => v = .bool r ∧ Sat [] w0 w [] [])) := by
  have hs : Sat [] w0 w0 [(1, k0_)] [] := Sat.init w0 [(1, k0_)] [] (by simp only [List.mem_cons, List.not_mem_nil, or_false]; rintro x (rfl) <;> assumption) (by simp) List.nodup_nil (by simp [blks])
  unfold slices_Contains_int_int.f at H
  refine enter Try.func165 rfl Try.ntmps165 rfl fun a hk => ?_
  apply wp_seq_k; intro K1 hK1
  apply wp_region_lit
  refine sa _ rfl hk rfl rfl rfl fun a hk => ?_
  show wpList _ _ _ [] _ _
  refine wpList_nil ?_
  refine hK1 _ _ ?_
  apply wp_seq_k; intro K2 hK2
  apply wp_region_lit
  refine sm _ rfl hk rfl rfl rfl fun a hk => ?_
  refine sm _ rfl hk rfl rfl rfl fun a hk => ?_
  obtain ⟨y3, h4, H⟩ := bind_some H
  refine sc rfl en186 hk rfl rfl rfl (slices_Index_int_int_t _ A0_ p0_ l0 _ v0_ (hs.hasD (k := 1) rfl) x1 _ h4) ?_
  rintro _ w ⟨rfl, hG⟩ a hk
  have hs := hs.call0 hG
  refine sv (.bool (decide (y3 ≥ 0))) hk rfl rfl rfl fun a hk => ?_
  refine sa _ rfl hk rfl rfl rfl fun a hk => ?_
  show wpList _ _ _ [] _ _
  refine wpList_nil ?_
  refine hK2 _ _ ?_
  refine wp_ret ?_
  obtain rfl := Option.some.inj H
  exact fin hk _ [(.bool (decide (y3 ≥ 0)))] rfl ⟨rfl, trivial⟩ ⟨rfl, (hs.pick [] rfl).dnil⟩

noncomputable def slices_Reverse_int_int.s0 (l0 : List Int) (u_r8_13_7 : List Int) (u_r8_13_11 : Int) (u_r8_13_12 : Int) : Option (((List Int) × Int × Int) ⊕ Ex ((List Int)) ((List Int))) :=
  (bif (decide (u_r8_13_11 < u_r8_13_12)) then (if 0 ≤ u_r8_13_12 ∧ u_r8_13_12 < (l0.length : Int) then (if 0 ≤ u_r8_13_11 ∧ u_r8_13_11 < (l0.length : Int) then (if 0 ≤ u_r8_13_11 ∧ u_r8_13_11 < (l0.length : Int) then (if 0 ≤ u_r8_13_12 ∧ u_r8_13_12 < (l0.length : Int) then (some (.inl (((u_r8_13_7.set u_r8_13_11.toNat (u_r8_13_7.getD u_r8_13_12.toNat 0)).set u_r8_13_12.toNat (u_r8_13_7.getD u_r8_13_11.toNat 0)), (w64 (u_r8_13_11 + 1)), (w64 (u_r8_13_12 - 1))))) else none) else none) else none) else none) else (some (.inr (.out u_r8_13_7))))
noncomputable def slices_Reverse_int_int.f (l0 : List Int) : Option ((List Int)) :=
  ((loopO (fun s => slices_Reverse_int_int.s0 l0 s.1 s.2.1 s.2.2) (l0, 0, (w64 ((l0.length : Int) - 1)))).bind fun o => match o with | .out u_r8_13_17 => (some u_r8_13_17) | .ret r => (some r))
set_option maxRecDepth 100000 in
set_option maxHeartbeats 0 in
theorem slices_Reverse_int_int_t (w0 : World) (A0_ : Option Addr) (p0_ : Nat) (l0 : List Int) (k0_ : Chunk) (v0_ : Own (Lay.int .i64) 3 A0_ p0_ l0 k0_) (hs0 : Sat (blks [(103261, k0_)]) w0 w0 [] [(103261, k0_)]) (r : (List Int)) (H : slices_Reverse_int_int.f l0 = some r) :
    Calls Try.prog 187 #[.slice A0_ l0.length p0_] w0 (Ret (fun v w => ∃ (k0 : Chunk), v = .tuple #[] ∧ (Own (Lay.int .i64) 3 A0_ p0_ r k0 ∧ r.length = l0.length) ∧ Sat (blks [(103261, k0_)]) w0 w [] [(0, k0)])) := by
  have hs := hs0
  unfold slices_Reverse_int_int.f at H
  refine enter Try.func187 rfl Try.ntmps187 rfl fun a hk => ?_
  apply wp_seq_k; intro K1 hK1
  apply wp_region_lit
  refine sm _ rfl hk rfl rfl rfl fun a hk => ?_
  refine sle rfl hk rfl rfl rfl un31 fun a hk => ?_
  refine sv (.int .i64 (w64 ((l0.length : Int) - 1))) hk rfl rfl rfl fun a hk => ?_
  refine sa _ rfl hk rfl rfl rfl fun a hk => ?_
  refine sa _ rfl hk rfl rfl rfl fun a hk => ?_
  show wpList _ _ _ [] _ _
  refine wpList_nil ?_
  refine hK1 _ _ ?_
  obtain ⟨o_r8_13_21, h_r8_13_22, HL_r8_13_23⟩ := bind_some H
  clear H
  obtain ⟨R_r8_13_24, hR_r8_13_24⟩ : ∃ R : Act → World → Prop, R = fun a w => ∃ (u_r8_13_17 : List Int) (k_r8_13_18 : Chunk), o_r8_13_21 = .out u_r8_13_17 ∧ Kn [(0, (.slice A0_ l0.length p0_))] 28 a ∧ Sat (blks [(103261, k0_)]) w0 w [] [(103261, k_r8_13_18)] ∧ Own (Lay.int .i64) 3 A0_ p0_ u_r8_13_17 k_r8_13_18 ∧ u_r8_13_17.length = l0.length := ⟨_, rfl⟩
  refine wp_cutq R_r8_13_24 ?_ ?_
  ·refine wp_block ?_
   obtain ⟨fu_r8_13_26, h_r8_13_22⟩ := loopO_some h_r8_13_22
   obtain ⟨I_r8_13_25, hI_r8_13_25⟩ : ∃ I : Nat → Act → World → Prop, I = fun fu a w => ∃ (u_r8_13_7 : List Int) (u_r8_13_11 : Int) (u_r8_13_12 : Int) (k_r8_13_8 : Chunk), loopN (fun s => slices_Reverse_int_int.s0 l0 s.1 s.2.1 s.2.2) fu (u_r8_13_7, u_r8_13_11, u_r8_13_12) = some o_r8_13_21 ∧ Kn [(0, (.slice A0_ l0.length p0_)), (2, (.int .i64 u_r8_13_11)), (3, (.int .i64 u_r8_13_12))] 28 a ∧ Sat (blks [(103261, k0_)]) w0 w [] [(103261, k_r8_13_8)] ∧ Own (Lay.int .i64) 3 A0_ p0_ u_r8_13_7 k_r8_13_8 ∧ u_r8_13_7.length = l0.length := ⟨_, rfl⟩
   refine wp_loop_ghost I_r8_13_25 fu_r8_13_26 ?_ ?_
   ·rw [hI_r8_13_25]
    exact ⟨l0, 0, (w64 ((l0.length : Int) - 1)), _, h_r8_13_22, (hk.c 0 rfl (hk.c 2 rfl (hk.c 3 rfl hk.k))), (hs.pick [(103261, 103261)] rfl), v0_, rfl⟩
   ·clear h_r8_13_22 hk hs
    intro fu_r8_13_26 a w hI0
    rw [hI_r8_13_25] at hI0
    obtain ⟨u_r8_13_7, u_r8_13_11, u_r8_13_12, k_r8_13_8, hi, hk, hs, o_r8_13_9, lh_r8_13_10⟩ := hI0
    obtain ⟨x_r8_13_27, H, h_r8_13_28⟩ := loop_round hi
    try dsimp only at H
    unfold slices_Reverse_int_int.s0 at H
    apply wp_seq_k; intro K2 hK2
    apply wp_seq_k; intro K3 hK3
    apply wp_region_lit
    refine sm _ rfl hk rfl rfl rfl fun a hk => ?_
    refine sm _ rfl hk rfl rfl rfl fun a hk => ?_
    refine sv (.bool (decide (u_r8_13_11 < u_r8_13_12))) hk rfl rfl rfl fun a hk => ?_
    show wpList _ _ _ [] _ _
    refine wpList_nil ?_
    refine hK3 _ _ ?_
    rcases cond_some H with ⟨c_r8_13_30, H⟩ | ⟨c_r8_13_30, H⟩
    ·have hk := hk.lit 9 c_r8_13_30 rfl
     refine cnd_true hk rfl rfl ?_
     refine wp_skip ?_
     refine hK2 _ _ ?_
     apply wp_seq_k; intro K4 hK4
     refine wp_block ?_
     rcases ite_some H with ⟨c_r_r8_13_31_6_1, H⟩ | ⟨_, H⟩
     rotate_left
     ·cases H
     rcases ite_some H with ⟨c_r_r8_13_31_10_1, H⟩ | ⟨_, H⟩
     rotate_left
     ·cases H
     rcases ite_some H with ⟨c_r_r8_13_31_12_1, H⟩ | ⟨_, H⟩
     rotate_left
     ·cases H
     rcases ite_some H with ⟨c_r_r8_13_31_14_1, H⟩ | ⟨_, H⟩
     rotate_left
     ·cases H
     obtain ⟨R_r8_13_32, hR_r8_13_32⟩ : ∃ R : Act → World → Prop, R = fun a w => ∃ (k_r_r8_13_31_15_1 : Chunk), Kn [(0, (.slice A0_ l0.length p0_)), (2, (.int .i64 u_r8_13_11)), (3, (.int .i64 u_r8_13_12))] 28 a ∧ Sat (blks [(103261, k0_)]) w0 w [] [(103261, k_r_r8_13_31_15_1)] ∧ Own (Lay.int .i64) 3 A0_ p0_ ((u_r8_13_7.set u_r8_13_11.toNat (u_r8_13_7.getD u_r8_13_12.toNat 0)).set u_r8_13_12.toNat (u_r8_13_7.getD u_r8_13_11.toNat 0)) k_r_r8_13_31_15_1 ∧ ((u_r8_13_7.set u_r8_13_11.toNat (u_r8_13_7.getD u_r8_13_12.toNat 0)).set u_r8_13_12.toNat (u_r8_13_7.getD u_r8_13_11.toNat 0)).length = l0.length := ⟨_, rfl⟩
     refine wp_cutq R_r8_13_32 ?_ ?_
     ·skip
      refine wp_region_tree (.q 0 (.q 1 (.q 2 (.q 3 (.q 4 (.q 5 (.q 6 (.q 8 (.q 9 (.q 10 (.alt 7 (.alt 11 (.alt 12 (.alt 13 (.alt 14 (.last 15) .stop) .stop) .stop) .stop) (.alt 11 (.alt 7 (.alt 12 (.alt 13 (.alt 14 (.last 15) .stop) .stop) .stop) .stop) .stop)))))))))))) mo (by kernel_rfl) (hs.pick [] rfl) fun _ => ?_
      have hs := hs.drew
      refine tqst (.slice A0_ l0.length p0_) hk rfl rfl rfl rfl (fun w hs => sm _ rfl hk rfl rfl rfl fun a hk => qe hk) fun a hk => ?_
      refine tqst (.int .i64 u_r8_13_11) hk rfl rfl rfl rfl (fun w hs => sm _ rfl hk rfl rfl rfl fun a hk => qe hk) fun a hk => ?_
      refine tqst (.slice A0_ l0.length p0_) hk rfl rfl rfl rfl (fun w hs => sm _ rfl hk rfl rfl rfl fun a hk => qe hk) fun a hk => ?_
      refine tqst (.int .i64 u_r8_13_12) hk rfl rfl rfl rfl (fun w hs => sm _ rfl hk rfl rfl rfl fun a hk => qe hk) fun a hk => ?_
      refine tqst (.slice A0_ l0.length p0_) hk rfl rfl rfl rfl (fun w hs => sm _ rfl hk rfl rfl rfl fun a hk => qe hk) fun a hk => ?_
      refine tqst (.int .i64 u_r8_13_12) hk rfl rfl rfl rfl (fun w hs => sm _ rfl hk rfl rfl rfl fun a hk => qe hk) fun a hk => ?_
      obtain ⟨b_r_r8_13_31_6_2, q_r_r8_13_31_6_3, hAc_r_r8_13_31_6_1⟩ := (o_r8_13_9.view).some_ u_r8_13_12 c_r_r8_13_31_6_1.1 (by rw [lh_r8_13_10]; exact c_r_r8_13_31_6_1.2)
      refine tqst (.pointer (some (padd A0_ (u_r8_13_12.toNat * 1)))) hk rfl rfl rfl rfl (fun w hs => si rfl hk rfl rfl rfl rfl un31 sz3 c_r_r8_13_31_6_1.1 c_r_r8_13_31_6_1.2 hAc_r_r8_13_31_6_1 fun a hk => qe hk) fun a hk => ?_
      refine tqst (.slice A0_ l0.length p0_) hk rfl rfl rfl rfl (fun w hs => sm _ rfl hk rfl rfl rfl fun a hk => qe hk) fun a hk => ?_
      refine tqst (.int .i64 u_r8_13_11) hk rfl rfl rfl rfl (fun w hs => sm _ rfl hk rfl rfl rfl fun a hk => qe hk) fun a hk => ?_
      obtain ⟨b_r_r8_13_31_10_2, q_r_r8_13_31_10_3, hAc_r_r8_13_31_10_1⟩ := (o_r8_13_9.view).some_ u_r8_13_11 c_r_r8_13_31_10_1.1 (by rw [lh_r8_13_10]; exact c_r_r8_13_31_10_1.2)
      refine tqst (.pointer (some (padd A0_ (u_r8_13_11.toNat * 1)))) hk rfl rfl rfl rfl (fun w hs => si rfl hk rfl rfl rfl rfl un31 sz3 c_r_r8_13_31_10_1.1 c_r_r8_13_31_10_1.2 hAc_r_r8_13_31_10_1 fun a hk => qe hk) fun a hk => ?_
      refine tsst hk rfl rfl (fun K_r_r8_13_31_7 hK_r_r8_13_31_7 w hF => ?_) ?_
      ·skip
       have hs := hs.f hF
       obtain ⟨_, rfl, e_r_r8_13_31_7_1⟩ := (o_r8_13_9.view).at_ 0 u_r8_13_12 c_r_r8_13_31_6_1.1 (by rw [lh_r8_13_10]; exact c_r_r8_13_31_6_1.2)
       refine sl (v := (.int .i64 (u_r8_13_7.getD u_r8_13_12.toNat 0))) rfl hk rfl rfl rfl ag3 ((e_r_r8_13_31_7_1 0 _ rfl).cell (hs.hasG (k := 103261) rfl)) fun a hk => ?_
       refine se (hs.pick [] rfl) hk (hK_r_r8_13_31_7 _ _ ?_)
       refine tsst hk rfl rfl (fun K_r_r8_13_31_11 hK_r_r8_13_31_11 w hF => ?_) wt_stop
       have hs := hs.f hF
       obtain ⟨_, rfl, e_r_r8_13_31_11_1⟩ := (o_r8_13_9.view).at_ 0 u_r8_13_11 c_r_r8_13_31_10_1.1 (by rw [lh_r8_13_10]; exact c_r_r8_13_31_10_1.2)
       refine sl (v := (.int .i64 (u_r8_13_7.getD u_r8_13_11.toNat 0))) rfl hk rfl rfl rfl ag3 ((e_r_r8_13_31_11_1 0 _ rfl).cell (hs.hasG (k := 103261) rfl)) fun a hk => ?_
       refine se (hs.pick [] rfl) hk (hK_r_r8_13_31_11 _ _ ?_)
       refine tsst hk rfl rfl (fun K_r_r8_13_31_12 hK_r_r8_13_31_12 w hF => ?_) wt_stop
       have hs := hs.f hF
       obtain ⟨b_r_r8_13_31_12_2, q_r_r8_13_31_12_3, hAc_r_r8_13_31_12_1⟩ := (o_r8_13_9.view).some_ u_r8_13_11 c_r_r8_13_31_12_1.1 (by rw [lh_r8_13_10]; exact c_r_r8_13_31_12_1.2)
       refine si rfl hk rfl rfl rfl rfl un31 sz3 c_r_r8_13_31_12_1.1 c_r_r8_13_31_12_1.2 hAc_r_r8_13_31_12_1 fun a hk => ?_
       refine se (hs.pick [] rfl) hk (hK_r_r8_13_31_12 _ _ ?_)
       refine tsst hk rfl rfl (fun K_r_r8_13_31_13 hK_r_r8_13_31_13 w hF => ?_) wt_stop
       have hs := hs.f hF
       refine so (j := 0) 103261 0 (u_r8_13_7.getD u_r8_13_12.toNat 0) hs rfl o_r8_13_9 c_r_r8_13_31_12_1.1 (by rw [lh_r8_13_10]; exact c_r_r8_13_31_12_1.2) rfl hk rfl rfl rfl rfl rfl sz3 (by simp [Value.cells, Value.oneCell']) (Nat.le_of_ble_eq_true rfl) (fun _ _ h => ⟨by rw [h.1]; rfl, h.2⟩) fun k_r_r8_13_31_13_1 w a hk o_r_r8_13_31_13_2 hs => ?_
       have lh_r_r8_13_31_13_3 : (u_r8_13_7.set u_r8_13_11.toNat (u_r8_13_7.getD u_r8_13_12.toNat 0)).length = l0.length := by rw [List.length_set]; exact lh_r8_13_10
       refine se (hs.pick [] rfl) hk (hK_r_r8_13_31_13 _ _ ?_)
       refine tsst hk rfl rfl (fun K_r_r8_13_31_14 hK_r_r8_13_31_14 w hF => ?_) wt_stop
       have hs := hs.f hF
       obtain ⟨b_r_r8_13_31_14_2, q_r_r8_13_31_14_3, hAc_r_r8_13_31_14_1⟩ := (o_r_r8_13_31_13_2.view).some_ u_r8_13_12 c_r_r8_13_31_14_1.1 (by rw [lh_r_r8_13_31_13_3]; exact c_r_r8_13_31_14_1.2)
       refine si rfl hk rfl rfl rfl rfl un31 sz3 c_r_r8_13_31_14_1.1 c_r_r8_13_31_14_1.2 hAc_r_r8_13_31_14_1 fun a hk => ?_
       refine se (hs.pick [] rfl) hk (hK_r_r8_13_31_14 _ _ ?_)
       refine tlst hk rfl rfl fun K_r_r8_13_31_15 hK_r_r8_13_31_15 w hF => ?_
       have hs := hs.f hF
       refine so (j := 0) 103261 0 (u_r8_13_7.getD u_r8_13_11.toNat 0) hs rfl o_r_r8_13_31_13_2 c_r_r8_13_31_14_1.1 (by rw [lh_r_r8_13_31_13_3]; exact c_r_r8_13_31_14_1.2) rfl hk rfl rfl rfl rfl rfl sz3 (by simp [Value.cells, Value.oneCell']) (Nat.le_of_ble_eq_true rfl) (fun _ _ h => ⟨by rw [h.1]; rfl, h.2⟩) fun k_r_r8_13_31_15_1 w a hk o_r_r8_13_31_15_2 hs => ?_
       have lh_r_r8_13_31_15_3 : ((u_r8_13_7.set u_r8_13_11.toNat (u_r8_13_7.getD u_r8_13_12.toNat 0)).set u_r8_13_12.toNat (u_r8_13_7.getD u_r8_13_11.toNat 0)).length = l0.length := by rw [List.length_set]; exact lh_r_r8_13_31_13_3
       refine se trivial hk (hK_r_r8_13_31_15 _ _ fun w hF => ?_)
       have hs := hs.f hF
       show R_r8_13_32 _ _
       rw [hR_r8_13_32]
       exact ⟨k_r_r8_13_31_15_1, (hk.c 0 rfl (hk.c 2 rfl (hk.c 3 rfl hk.k))), (hs.pick [(103261, 103261)] rfl), o_r_r8_13_31_15_2, lh_r_r8_13_31_15_3⟩
      refine tsst hk rfl rfl (fun K_r_r8_13_31_11 hK_r_r8_13_31_11 w hF => ?_) wt_stop
      have hs := hs.f hF
      obtain ⟨_, rfl, e_r_r8_13_31_11_1⟩ := (o_r8_13_9.view).at_ 0 u_r8_13_11 c_r_r8_13_31_10_1.1 (by rw [lh_r8_13_10]; exact c_r_r8_13_31_10_1.2)
      refine sl (v := (.int .i64 (u_r8_13_7.getD u_r8_13_11.toNat 0))) rfl hk rfl rfl rfl ag3 ((e_r_r8_13_31_11_1 0 _ rfl).cell (hs.hasG (k := 103261) rfl)) fun a hk => ?_
      refine se (hs.pick [] rfl) hk (hK_r_r8_13_31_11 _ _ ?_)
      refine tsst hk rfl rfl (fun K_r_r8_13_31_7 hK_r_r8_13_31_7 w hF => ?_) wt_stop
      have hs := hs.f hF
      obtain ⟨_, rfl, e_r_r8_13_31_7_1⟩ := (o_r8_13_9.view).at_ 0 u_r8_13_12 c_r_r8_13_31_6_1.1 (by rw [lh_r8_13_10]; exact c_r_r8_13_31_6_1.2)
      refine sl (v := (.int .i64 (u_r8_13_7.getD u_r8_13_12.toNat 0))) rfl hk rfl rfl rfl ag3 ((e_r_r8_13_31_7_1 0 _ rfl).cell (hs.hasG (k := 103261) rfl)) fun a hk => ?_
      refine se (hs.pick [] rfl) hk (hK_r_r8_13_31_7 _ _ ?_)
      refine tsst hk rfl rfl (fun K_r_r8_13_31_12 hK_r_r8_13_31_12 w hF => ?_) wt_stop
      have hs := hs.f hF
      obtain ⟨b_r_r8_13_31_12_2, q_r_r8_13_31_12_3, hAc_r_r8_13_31_12_1⟩ := (o_r8_13_9.view).some_ u_r8_13_11 c_r_r8_13_31_12_1.1 (by rw [lh_r8_13_10]; exact c_r_r8_13_31_12_1.2)
      refine si rfl hk rfl rfl rfl rfl un31 sz3 c_r_r8_13_31_12_1.1 c_r_r8_13_31_12_1.2 hAc_r_r8_13_31_12_1 fun a hk => ?_
      refine se (hs.pick [] rfl) hk (hK_r_r8_13_31_12 _ _ ?_)
      refine tsst hk rfl rfl (fun K_r_r8_13_31_13 hK_r_r8_13_31_13 w hF => ?_) wt_stop
      have hs := hs.f hF
      refine so (j := 0) 103261 0 (u_r8_13_7.getD u_r8_13_12.toNat 0) hs rfl o_r8_13_9 c_r_r8_13_31_12_1.1 (by rw [lh_r8_13_10]; exact c_r_r8_13_31_12_1.2) rfl hk rfl rfl rfl rfl rfl sz3 (by simp [Value.cells, Value.oneCell']) (Nat.le_of_ble_eq_true rfl) (fun _ _ h => ⟨by rw [h.1]; rfl, h.2⟩) fun k_r_r8_13_31_13_1 w a hk o_r_r8_13_31_13_2 hs => ?_
      have lh_r_r8_13_31_13_3 : (u_r8_13_7.set u_r8_13_11.toNat (u_r8_13_7.getD u_r8_13_12.toNat 0)).length = l0.length := by rw [List.length_set]; exact lh_r8_13_10
      refine se (hs.pick [] rfl) hk (hK_r_r8_13_31_13 _ _ ?_)
      refine tsst hk rfl rfl (fun K_r_r8_13_31_14 hK_r_r8_13_31_14 w hF => ?_) wt_stop
      have hs := hs.f hF
      obtain ⟨b_r_r8_13_31_14_2, q_r_r8_13_31_14_3, hAc_r_r8_13_31_14_1⟩ := (o_r_r8_13_31_13_2.view).some_ u_r8_13_12 c_r_r8_13_31_14_1.1 (by rw [lh_r_r8_13_31_13_3]; exact c_r_r8_13_31_14_1.2)
      refine si rfl hk rfl rfl rfl rfl un31 sz3 c_r_r8_13_31_14_1.1 c_r_r8_13_31_14_1.2 hAc_r_r8_13_31_14_1 fun a hk => ?_
      refine se (hs.pick [] rfl) hk (hK_r_r8_13_31_14 _ _ ?_)
      refine tlst hk rfl rfl fun K_r_r8_13_31_15 hK_r_r8_13_31_15 w hF => ?_
      have hs := hs.f hF
      refine so (j := 0) 103261 0 (u_r8_13_7.getD u_r8_13_11.toNat 0) hs rfl o_r_r8_13_31_13_2 c_r_r8_13_31_14_1.1 (by rw [lh_r_r8_13_31_13_3]; exact c_r_r8_13_31_14_1.2) rfl hk rfl rfl rfl rfl rfl sz3 (by simp [Value.cells, Value.oneCell']) (Nat.le_of_ble_eq_true rfl) (fun _ _ h => ⟨by rw [h.1]; rfl, h.2⟩) fun k_r_r8_13_31_15_1 w a hk o_r_r8_13_31_15_2 hs => ?_
      have lh_r_r8_13_31_15_3 : ((u_r8_13_7.set u_r8_13_11.toNat (u_r8_13_7.getD u_r8_13_12.toNat 0)).set u_r8_13_12.toNat (u_r8_13_7.getD u_r8_13_11.toNat 0)).length = l0.length := by rw [List.length_set]; exact lh_r_r8_13_31_13_3
      refine se trivial hk (hK_r_r8_13_31_15 _ _ fun w hF => ?_)
      have hs := hs.f hF
      show R_r8_13_32 _ _
      rw [hR_r8_13_32]
      exact ⟨k_r_r8_13_31_15_1, (hk.c 0 rfl (hk.c 2 rfl (hk.c 3 rfl hk.k))), (hs.pick [(103261, 103261)] rfl), o_r_r8_13_31_15_2, lh_r_r8_13_31_15_3⟩
     ·intro a w hR0
      rw [hR_r8_13_32] at hR0
      obtain ⟨k_r_r8_13_31_15_1, hk, hs, o_r_r8_13_31_15_2, lh_r_r8_13_31_15_3⟩ := hR0
      refine hK4 _ _ ?_
      apply wp_region_lit
      refine sm _ rfl hk rfl rfl rfl fun a hk => ?_
      refine sv (.int .i64 (w64 (u_r8_13_11 + 1))) hk rfl rfl rfl fun a hk => ?_
      refine sm _ rfl hk rfl rfl rfl fun a hk => ?_
      refine sv (.int .i64 (w64 (u_r8_13_12 - 1))) hk rfl rfl rfl fun a hk => ?_
      refine sa _ rfl hk rfl rfl rfl fun a hk => ?_
      refine sa _ rfl hk rfl rfl rfl fun a hk => ?_
      show wpList _ _ _ [] _ _
      refine wpList_nil ?_
      obtain rfl := Option.some.inj H
      obtain ⟨m_r8_13_33, hmm_r8_13_33, h_r8_13_28⟩ := h_r8_13_28
      show ∃ n', n' < _ ∧ I_r8_13_25 n' _ _
      refine ⟨m_r8_13_33, hmm_r8_13_33, ?_⟩
      rw [hI_r8_13_25]
      exact ⟨((u_r8_13_7.set u_r8_13_11.toNat (u_r8_13_7.getD u_r8_13_12.toNat 0)).set u_r8_13_12.toNat (u_r8_13_7.getD u_r8_13_11.toNat 0)), (w64 (u_r8_13_11 + 1)), (w64 (u_r8_13_12 - 1)), _, h_r8_13_28, (hk.c 0 rfl (hk.c 2 rfl (hk.c 3 rfl hk.k))), (hs.pick [(103261, 103261)] rfl), o_r_r8_13_31_15_2, lh_r_r8_13_31_15_3⟩
    ·have hk := hk.lit 9 c_r8_13_30 rfl
     refine cnd_false hk rfl rfl ?_
     refine wp_exit ?_
     obtain rfl := Option.some.inj H
     show R_r8_13_24 _ _
     rw [hR_r8_13_24]
     exact ⟨u_r8_13_7, _, h_r8_13_28.symm, (hk.c 0 rfl hk.k), (hs.pick [(103261, 103261)] rfl), o_r8_13_9, lh_r8_13_10⟩
  ·intro a w hR0
   rw [hR_r8_13_24] at hR0
   obtain ⟨u_r8_13_17, k_r8_13_18, rfl, hk, hs, o_r8_13_19, lh_r8_13_20⟩ := hR0
   have H := HL_r8_13_23
   try dsimp only at H
   obtain rfl := Option.some.inj H
   exact fin0 hk _ [] rfl trivial ⟨_, rfl, ⟨o_r8_13_19, lh_r8_13_20⟩, (hs.pick [(0, 103261)] rfl).dnil⟩

noncomputable def impl_pathOf.s0  (u12 : List Int) (u11 : Int) : Option (((List Int) × Int) ⊕ Ex (Unit) ((List Int))) :=
  (if u12.length + ([u11]).length ≤ 1073741824 then (bif (u11 == 0) then ((slices_Reverse_int_int.f (u12 ++ ([u11]))).bind fun y38 => (some (.inr (.ret y38)))) else (some (.inl ((u12 ++ ([u11])), (IntKind.wrap .i64 (Int.tdiv (w64 (u11 - 1)) 2)))))) else none)
noncomputable def impl_pathOf.f (x0 : Int) : Option ((List Int)) :=
  ((loopO (fun s => impl_pathOf.s0  s.1 s.2) (([] : List Int), (w64 (7 + x0)))).bind fun o => match o with | .out _ => none | .ret r => (some r))
set_option maxRecDepth 100000 in
set_option maxHeartbeats 0 in
theorem impl_pathOf_t (w0 : World) (x0 : Int) (r : (List Int)) (H : impl_pathOf.f x0 = some r) :
    Calls Try.prog 166 #[.int .i64 x0] w0 (Ret (fun v w => ∃ (A0 : Option Addr) (p0 : Nat) (k0 : Chunk), v = .slice A0 r.length p0 ∧ Own (Lay.int .i64) 3 A0 p0 r k0 ∧ Sat [] w0 w [] [(0, k0)])) := by
  have hs : Sat [] w0 w0 [] [] := Sat.init w0 [] [] (by simp) (by simp) List.nodup_nil (by simp [blks])
  unfold impl_pathOf.f at H
  refine enter Try.func166 rfl Try.ntmps166 rfl fun a hk => ?_
  apply wp_seq_k; intro K1 hK1
  apply wp_region_lit
  refine sa _ rfl hk rfl rfl rfl fun a hk => ?_
  show wpList _ _ _ [] _ _
  refine wpList_nil ?_
  refine hK1 _ _ ?_
  apply wp_seq_k; intro K2 hK2
  apply wp_region_lit
  refine sa _ rfl hk rfl rfl rfl fun a hk => ?_
  show wpList _ _ _ [] _ _
  refine wpList_nil ?_
  refine hK2 _ _ ?_
  apply wp_seq_k; intro K3 hK3
  apply wp_region_lit
  refine sm _ rfl hk rfl rfl rfl fun a hk => ?_
  refine sv (.int .i64 (w64 (7 + x0))) hk rfl rfl rfl fun a hk => ?_
  refine sa _ rfl hk rfl rfl rfl fun a hk => ?_
  show wpList _ _ _ [] _ _
  refine wpList_nil ?_
  refine hK3 _ _ ?_
  obtain ⟨o17, h18, HL19⟩ := bind_some H
  clear H
  obtain ⟨R20, hR20⟩ : ∃ R : Act → World → Prop, R = fun a w => o17 = .out () ∧ Kn [] 19 a ∧ Sat [] w0 w [] [] := ⟨_, rfl⟩
  refine wp_cutq R20 ?_ ?_
  ·refine wp_block ?_
   obtain ⟨fu22, h18⟩ := loopO_some h18
   obtain ⟨I21, hI21⟩ : ∃ I : Nat → Act → World → Prop, I = fun fu a w => ∃ (u12 : List Int) (u11 : Int) (A15 : Option Addr) (p16 : Nat) (k13 : Chunk), loopN (fun s => impl_pathOf.s0  s.1 s.2) fu (u12, u11) = some o17 ∧ Kn [(3, (.slice A15 u12.length p16)), (4, (.int .i64 u11))] 19 a ∧ Sat [] w0 w [] [(3, k13)] ∧ Own (Lay.int .i64) 3 A15 p16 u12 k13 := ⟨_, rfl⟩
   refine wp_loop_ghost I21 fu22 ?_ ?_
   ·rw [hI21]
    exact ⟨([] : List Int), (w64 (7 + x0)), none, 0, _, h18, (hk.c 3 rfl (hk.c 4 rfl hk.k)), ((hs.addNil 1003).pick [(3, 1003)] rfl), Own.nil _ _⟩
   ·clear h18 hk hs
    intro fu22 a w hI0
    rw [hI21] at hI0
    obtain ⟨u12, u11, A15, p16, k13, hi, hk, hs, o14⟩ := hI0
    obtain ⟨x23, H, h24⟩ := loop_round hi
    try dsimp only at H
    unfold impl_pathOf.s0 at H
    apply wp_seq_k; intro K25 hK25
    refine wp_block ?_
    apply wp_seq_k; intro K26 hK26
    apply wp_region_lit
    refine sm _ rfl hk rfl rfl rfl fun a hk => ?_
    refine sm _ rfl hk rfl rfl rfl fun a hk => ?_
    refine sbs (L := (Lay.int .i64)) (pv := [(0, (.int .i64 u11))]) (xs := [u11]) (ess := [[.int .i64 u11]]) 4 hs rfl hk rfl rfl rfl un31 (bs3_0 u11) (AllOwn.cons0 ⟨rfl, rfl⟩ AllOwn.nil) rfl rfl rfl fun b27 k28 w a hk o29 hs => ?_
    rcases ite_some H with ⟨c30, H⟩ | ⟨_, H⟩
    rotate_left
    ·cases H
    refine sap 3 (xs := u12) (ys := [u11]) (flat_flat : ((Lay.int .i64)).Flat) hs rfl o14 o29.view (hs.hasG (k := 4) rfl) rfl hk rfl rfl rfl rfl rfl rfl un31 mk3 rfl rfl rfl c30 fun A31 p32 k33 w a hk o34 hs => ?_
    refine sa _ rfl hk rfl rfl rfl fun a hk => ?_
    show wpList _ _ _ [] _ _
    refine wpList_nil ?_
    refine hK26 _ _ ?_
    apply wp_seq_k; intro K35 hK35
    apply wp_region_lit
    refine sm _ rfl hk rfl rfl rfl fun a hk => ?_
    refine sv (.bool (u11 == 0)) hk rfl rfl rfl fun a hk => ?_
    show wpList _ _ _ [] _ _
    refine wpList_nil ?_
    refine hK35 _ _ ?_
    rcases cond_some H with ⟨c36, H⟩ | ⟨c36, H⟩
    ·have hk := hk.lit 15 c36 rfl
     refine cnd_true hk rfl rfl ?_
     apply wp_seq_k; intro K37 hK37
     apply wp_region_lit
     refine sm _ rfl hk rfl rfl rfl fun a hk => ?_
     obtain ⟨y38, h39, H⟩ := bind_some H
     refine sc rfl en187 hk rfl rfl rfl (slices_Reverse_int_int_t _ A31 p32 (u12 ++ ([u11])) _ o34 ((hs.hand [(103261, 3)] rfl).dpick [] rfl) _ h39) ?_
     rintro _ w ⟨k40, rfl, ⟨o41, lh42⟩, hG⟩ a hk
     have hs := hs.back [(103261, 3)] rfl hG [3] rfl
     have lh43 : y38.length = (u12 ++ ([u11])).length := lh42
     show wpList _ _ _ [] _ _
     refine wpList_nil ?_
     refine hK37 _ _ ?_
     apply wp_seq_k; intro K44 hK44
     apply wp_region_lit
     refine sm _ rfl hk rfl rfl rfl fun a hk => ?_
     refine sa _ rfl hk rfl rfl rfl fun a hk => ?_
     show wpList _ _ _ [] _ _
     refine wpList_nil ?_
     refine hK44 _ _ ?_
     refine wp_ret ?_
     obtain rfl := Option.some.inj H
     have ho17 := h24
     try dsimp only at ho17
     subst ho17
     have H := HL19
     try dsimp only at H
     obtain rfl := Option.some.inj H
     exact fin hk _ [(.slice A31 (u12 ++ ([u11])).length p32)] rfl ⟨rfl, trivial⟩ ⟨A31, p32, _, (by first | (rw [lh43]; done) | (rw [lh43]; rfl)), o41, (hs.pick [(0, 3)] rfl).dnil⟩
    ·have hk := hk.lit 15 c36 rfl
     refine cnd_false hk rfl rfl ?_
     refine wp_skip ?_
     refine hK25 _ _ ?_
     apply wp_region_lit
     refine sm _ rfl hk rfl rfl rfl fun a hk => ?_
     refine sv (.int .i64 (w64 (u11 - 1))) hk rfl rfl rfl fun a hk => ?_
     refine sv (.int .i64 (IntKind.wrap .i64 (Int.tdiv (w64 (u11 - 1)) 2))) hk rfl rfl rfl fun a hk => ?_
     refine sa _ rfl hk rfl rfl rfl fun a hk => ?_
     show wpList _ _ _ [] _ _
     refine wpList_nil ?_
     obtain rfl := Option.some.inj H
     obtain ⟨m45, hmm45, h24⟩ := h24
     show ∃ n', n' < _ ∧ I21 n' _ _
     refine ⟨m45, hmm45, ?_⟩
     rw [hI21]
     exact ⟨(u12 ++ ([u11])), (IntKind.wrap .i64 (Int.tdiv (w64 (u11 - 1)) 2)), A31, p32, _, h24, (hk.c 3 rfl (hk.c 4 rfl hk.k)), (hs.pick [(3, 3)] rfl), o34⟩
  ·intro a w hR0
   rw [hR20] at hR0
   obtain ⟨rfl, hk, hs⟩ := hR0
   have H := HL19
   try dsimp only at H
   cases H

noncomputable def impl_isOnPath.f (x0 : Int) (x1 : Int) : Option (Bool) :=
  ((impl_pathOf.f x1).bind fun y3 => ((slices_Contains_int_int.f y3 x0).bind fun y9 => (some y9)))
set_option maxRecDepth 100000 in
set_option maxHeartbeats 0 in
theorem impl_isOnPath_t (w0 : World) (x0 : Int) (x1 : Int) (r : Bool) (H : impl_isOnPath.f x0 x1 = some r) :
    Calls Try.prog 129 #[.int .i64 x0, .int .i64 x1] w0 (Ret (fun v w => v = .bool r ∧ Sat [] w0 w [] [])) := by
  have hs : Sat [] w0 w0 [] [] := Sat.init w0 [] [] (by simp) (by simp) List.nodup_nil (by simp [blks])
  unfold impl_isOnPath.f at H
  refine enter Try.func129 rfl Try.ntmps129 rfl fun a hk => ?_
  apply wp_seq_k; intro K1 hK1
  apply wp_region_lit
  refine sa _ rfl hk rfl rfl rfl fun a hk => ?_
  show wpList _ _ _ [] _ _
  refine wpList_nil ?_
  refine hK1 _ _ ?_
  apply wp_seq_k; intro K2 hK2
  apply wp_region_lit
  refine sm _ rfl hk rfl rfl rfl fun a hk => ?_
  obtain ⟨y3, h4, H⟩ := bind_some H
  refine sc rfl en166 hk rfl rfl rfl (impl_pathOf_t _ x1 _ h4) ?_
  rintro _ w ⟨A5, p6, k7, rfl, o8, hG⟩ a hk
  have hs := hs.call0k hG [1] rfl
  refine sm _ rfl hk rfl rfl rfl fun a hk => ?_
  obtain ⟨y9, h10, H⟩ := bind_some H
  refine sc rfl en165 hk rfl rfl rfl (slices_Contains_int_int_t _ A5 p6 y3 _ o8.view (hs.hasG (k := 1) rfl) x0 _ h10) ?_
  rintro _ w ⟨rfl, hG⟩ a hk
  have hs := hs.call0 hG
  refine sa _ rfl hk rfl rfl rfl fun a hk => ?_
  show wpList _ _ _ [] _ _
  refine wpList_nil ?_
  refine hK2 _ _ ?_
  refine wp_ret ?_
  obtain rfl := Option.some.inj H
  exact fin hk _ [(.bool y9)] rfl ⟨rfl, trivial⟩ ⟨rfl, (hs.pick [] rfl).dnil⟩

noncomputable def impl_OramOK_c1.f (x0 : S_Block) (x1 : Int) : Option (Bool) :=
  ((((impl_isLeaf.f x0.Leaf).bind fun y10 => (bif y10 then ((impl_isOnPath.f x1 x0.Leaf).bind fun y13 => (some y13)) else (some false))) : Option (Bool)).bind fun u5 => (some u5))
set_option maxRecDepth 100000 in
set_option maxHeartbeats 0 in
theorem impl_OramOK_c1_t (w0 : World) (x0 : S_Block) (b1_ : Nat) (x1 : Int) (h1_ : Has w0 [(b1_, .cells #[.int .i64 x1] 3 (0, 0))]) (r : Bool) (H : impl_OramOK_c1.f x0 x1 = some r) :
    Calls Try.prog 128 #[.agg #[.int .i64 x0.Id, .int .i64 x0.Leaf, .int .i64 x0.Value], .pointer (some ⟨b1_, 0, none⟩)] w0 (Ret (fun v w => v = .bool r ∧ Sat [] w0 w [] [])) := by
  have hs : Sat [] w0 w0 [(1, [(b1_, .cells #[.int .i64 x1] 3 (0, 0))])] [] := Sat.init w0 [(1, [(b1_, .cells #[.int .i64 x1] 3 (0, 0))])] [] (by simp only [List.mem_cons, List.not_mem_nil, or_false]; rintro x (rfl) <;> assumption) (by simp) List.nodup_nil (by simp [blks])
  unfold impl_OramOK_c1.f at H
  refine enter Try.func128 rfl Try.ntmps128 rfl fun a hk => ?_
  apply wp_seq_k; intro K1 hK1
  apply wp_region_lit
  refine sbx 2 hs rfl hk rfl rfl rfl rfl fun b2 w a hk hs => ?_
  refine sa _ rfl hk rfl rfl rfl fun a hk => ?_
  show wpList _ _ _ [] _ _
  refine wpList_nil ?_
  refine hK1 _ _ ?_
  apply wp_seq_k; intro K3 hK3
  obtain ⟨o6, h7, HL8⟩ := bind_some H
  clear H
  obtain ⟨R9, hR9⟩ : ∃ R : Act → World → Prop, R = fun a w => ∃ (u5 : Bool), u5 = o6 ∧ Kn [(3, (.bool u5))] 13 a ∧ Sat [] w0 w [(1, [(b1_, .cells #[.int .i64 x1] 3 (0, 0))])] [] := ⟨_, rfl⟩
  refine wp_cutq R9 ?_ ?_
  ·have H := h7
   apply wp_region_lit
   refine sf ⟨b2, 1, none⟩ rfl hk rfl rfl rfl fd81_1 rfl fun a hk => ?_
   refine sl rfl hk rfl rfl rfl ag3 (box_cell hs (k := 2) rfl rfl) fun a hk => ?_
   obtain ⟨y10, h11, H⟩ := bind_some H
   refine sc rfl en106 hk rfl rfl rfl (impl_isLeaf_t _ x0.Leaf _ h11) ?_
   rintro _ w ⟨rfl, hG⟩ a hk
   have hs := hs.call0 hG
   refine sm _ rfl hk rfl rfl rfl fun a hk => ?_
   rcases cond_some H with ⟨c12, H⟩ | ⟨c12, H⟩
   ·have hk := hk.lit 7 c12 rfl
    refine sl rfl hk rfl rfl rfl ag3 (box_cellD hs (k := 1) rfl rfl) fun a hk => ?_
    refine sf ⟨b2, 1, none⟩ rfl hk rfl rfl rfl fd81_1 rfl fun a hk => ?_
    refine sl rfl hk rfl rfl rfl ag3 (box_cell hs (k := 2) rfl rfl) fun a hk => ?_
    obtain ⟨y13, h14, H⟩ := bind_some H
    refine sc rfl en129 hk rfl rfl rfl (impl_isOnPath_t _ x1 x0.Leaf _ h14) ?_
    rintro _ w ⟨rfl, hG⟩ a hk
    have hs := hs.call0 hG
    refine sv (.bool y13) hk rfl rfl rfl fun a hk => ?_
    refine sa _ rfl hk rfl rfl rfl fun a hk => ?_
    show wpList _ _ _ [] _ _
    refine wpList_nil ?_
    obtain rfl := Option.some.inj H
    show R9 _ _
    rw [hR9]
    exact ⟨y13, rfl, (hk.c 3 rfl hk.k), (hs.pick [] rfl)⟩
   ·have hk := hk.lit 7 c12 rfl
    refine sk hk rfl rfl rfl fun a hk => ?_
    refine sk hk rfl rfl rfl fun a hk => ?_
    refine sk hk rfl rfl rfl fun a hk => ?_
    refine sk hk rfl rfl rfl fun a hk => ?_
    refine sv (.bool false) hk rfl rfl rfl fun a hk => ?_
    refine sa _ rfl hk rfl rfl rfl fun a hk => ?_
    show wpList _ _ _ [] _ _
    refine wpList_nil ?_
    obtain rfl := Option.some.inj H
    show R9 _ _
    rw [hR9]
    exact ⟨false, rfl, (hk.c 3 rfl hk.k), (hs.pick [] rfl)⟩
  ·intro a w hR0
   rw [hR9] at hR0
   obtain ⟨u5, rfl, hk, hs⟩ := hR0
   have H := HL8
   try dsimp only at H
   refine hK3 _ _ ?_
   refine wp_ret ?_
   obtain rfl := Option.some.inj H
   exact fin hk _ [(.bool u5)] rfl ⟨rfl, trivial⟩ ⟨rfl, (hs.pick [] rfl).dnil⟩

noncomputable def slices_Clone_impl_Block_impl_Block.f (l0 : List S_Block) : Option (List S_Block) :=
  (if l0.length ≤ 1073741824 then (some l0) else none)
set_option maxRecDepth 100000 in
set_option maxHeartbeats 0 in
theorem slices_Clone_impl_Block_impl_Block_t (w0 : World) (A0_ : Option Addr) (p0_ : Nat) (l0 : List S_Block) (k0_ : Chunk) (v0_ : View L_Block A0_ p0_ l0 k0_) (w0_ : Has w0 k0_) (r : List S_Block) (H : slices_Clone_impl_Block_impl_Block.f l0 = some r) :
    Calls Try.prog 167 #[.slice A0_ l0.length p0_] w0 (Ret (fun v w => ∃ (A0 : Option Addr) (p0 : Nat) (k0 : Chunk), v = .slice A0 r.length p0 ∧ Own L_Block 81 A0 p0 r k0 ∧ Sat [] w0 w [] [(0, k0)])) := by
  have hs : Sat [] w0 w0 [(1, k0_)] [] := Sat.init w0 [(1, k0_)] [] (by simp only [List.mem_cons, List.not_mem_nil, or_false]; rintro x (rfl) <;> assumption) (by simp) List.nodup_nil (by simp [blks])
  unfold slices_Clone_impl_Block_impl_Block.f at H
  rcases ite_some H with ⟨c, H⟩ | ⟨_, H⟩
  rotate_left
  · cases H
  obtain rfl := Option.some.inj H
  refine enter Try.func167 rfl Try.ntmps167 rfl fun a hk => ?_
  apply wp_seq_k; intro K1 hK1
  apply wp_region_lit
  refine sa _ rfl hk rfl rfl rfl fun a hk => ?_
  refine wpList_nil ?_
  refine hK1 _ _ ?_
  apply wp_seq_k; intro K3 hK3
  apply wp_seq_k; intro K2 hK2
  apply wp_region_lit
  refine sm _ rfl hk rfl rfl rfl fun a hk => ?_
  refine snl rfl hk rfl rfl rfl un26 fun a hk => ?_
  refine wpList_nil ?_
  refine hK2 _ _ ?_
  cases A0_ with
  | none =>
    obtain rfl := v0_.none_nil
    refine cnd_true hk rfl rfl ?_
    apply wp_seq_k; intro K4 hK4
    apply wp_region_lit
    refine sa _ rfl hk rfl rfl rfl fun a hk => ?_
    refine wpList_nil ?_
    refine hK4 _ _ ?_
    refine wp_ret ?_
    have hs := hs.addNil 9
    exact fin hk _ [(.slice none 0 0)] rfl ⟨rfl, trivial⟩ ⟨none, 0, [], rfl, Own.nil _ _, (hs.pick [(0, 9)] rfl).dnil⟩
  | some A0_ =>
    refine cnd_false hk rfl rfl ?_
    refine wp_skip ?_
    refine hK3 _ _ ?_
    apply wp_seq_k; intro K5 hK5
    apply wp_region_lit
    refine sbs0 2 L_Block hs rfl hk rfl rfl un26 sz81 fun b k w a hk o hs => ?_
    refine sm _ rfl hk rfl rfl rfl fun a hk => ?_
    refine sap 2 (xs := ([] : List S_Block)) (ys := l0) (flat_flat : (L_Block).Flat) hs rfl o v0_ (hs.hasD (k := 1) rfl) rfl hk rfl rfl rfl rfl rfl rfl un26 mk81 rfl rfl rfl (by simpa using c) fun A p k w a hk o hs => ?_
    refine sa _ rfl hk rfl rfl rfl fun a hk => ?_
    refine wpList_nil ?_
    refine hK5 _ _ ?_
    refine wp_ret ?_
    exact fin hk _ [(.slice A ([] ++ l0).length p)] rfl ⟨rfl, trivial⟩ ⟨A, p, _, rfl, o, (hs.pick [(0, 2)] rfl).dnil⟩

set_option maxRecDepth 100000 in
set_option maxHeartbeats 1000000 in
theorem slices_Grow_impl_Block_impl_Block_n {M : List Nat} {w00 w : World} {Δ Γ : List (Nat × Chunk)} (k n : Nat) (hs : Sat M w00 w Δ Γ) (hn : n ≤ 1073741824) :
    Calls Try.prog 188 #[.slice none 0 0, .int .i64 n] w (Ret (fun v w' => ∃ A cap c, v = .slice A ([] : List S_Block).length cap ∧ Own L_Block 81 A cap [] c ∧ Sat M w00 w' Δ ((k, c) :: Γ))) := by
  refine enter Try.func188 rfl Try.ntmps188 rfl fun a hk => ?_
  apply wp_seq_k; intro K1 hK1
  apply wp_region_lit
  refine sa _ rfl hk rfl rfl rfl fun a hk => ?_
  show wpList _ _ _ [] _ _
  refine wpList_nil ?_
  refine hK1 _ _ ?_
  apply wp_seq_k; intro K2 hK2
  apply wp_seq_k; intro K3 hK3
  apply wp_region_lit
  refine sm _ rfl hk rfl rfl rfl fun a hk => ?_
  refine sv (.bool (decide ((n : Int) < 0))) hk rfl rfl rfl fun a hk => ?_
  show wpList _ _ _ [] _ _
  refine wpList_nil ?_
  refine hK3 _ _ ?_
  have hk := hk.lit 6 (decide_eq_false (by omega)) rfl
  refine cnd_false hk rfl rfl ?_
  refine wp_skip ?_
  refine hK2 _ _ ?_
  apply wp_seq_k; intro K6 hK6
  apply wp_seq_k; intro K4 hK4
  apply wp_region_lit
  refine sm _ rfl hk rfl rfl rfl fun a hk => ?_
  refine sm _ rfl hk rfl rfl rfl fun a hk => ?_
  refine scap rfl hk rfl rfl rfl un26 fun a hk => ?_
  refine sm _ rfl hk rfl rfl rfl fun a hk => ?_
  refine sle rfl hk rfl rfl rfl un26 fun a hk => ?_
  refine sv (.int .i64 (w64 (((0 : Nat) : Int) - ((0 : Nat) : Int)))) hk rfl rfl rfl fun a hk => ?_
  rw [show w64 (((0 : Nat) : Int) - ((0 : Nat) : Int)) = 0 from rfl] at hk
  refine sv (.int .i64 (w64 ((n : Int) - 0))) hk rfl rfl rfl fun a hk => ?_
  rw [w64id (x := (n : Int) - 0) (by omega) (by omega), Int.sub_zero] at hk
  refine sa _ rfl hk rfl rfl rfl fun a hk => ?_
  show wpList _ _ _ [] _ _
  refine wpList_nil ?_
  refine hK4 _ _ ?_
  apply wp_seq_k; intro K5 hK5
  apply wp_region_lit
  refine sm _ rfl hk rfl rfl rfl fun a hk => ?_
  refine sv (.bool (decide ((0 : Int) < (n : Int)))) hk rfl rfl rfl fun a hk => ?_
  show wpList _ _ _ [] _ _
  refine wpList_nil ?_
  refine hK5 _ _ ?_
  by_cases h0 : 0 < n
  · have hk := hk.lit 16 (decide_eq_true (by omega)) rfl
    refine cnd_true hk rfl rfl ?_
    apply wp_region_lit
    refine sm _ rfl hk rfl rfl rfl fun a hk => ?_
    refine sm _ rfl hk rfl rfl rfl fun a hk => ?_
    refine scap rfl hk rfl rfl rfl un26 fun a hk => ?_
    refine sll_h rfl hk rfl rfl rfl rfl un26 sz81 (by omega) (by omega) fun a hk => ?_
    have hk := hk.re (v' := .slice none 0 0) 20 rfl (by simp)
    refine sm _ rfl hk rfl rfl rfl fun a hk => ?_
    have hs := hs.addNil k
    refine sapn k (xs := ([] : List S_Block)) (z := z_Block) hs (kget_cons _ _ _) (Own.nil _ 81) (by first | exact ⟨rfl, rfl⟩ | exact lz81) rfl hk rfl rfl rfl rfl rfl un26 (by kernel_rfl : Try.prog.underlying 3 = some (.int .i64)) mk81 rfl rfl rfl (by simp; omega) fun A1 p1 c1 w a hk o hs => ?_
    simp only [kdel, Nat.beq_refl, if_true] at hs
    have hne : ([] ++ List.replicate (n : Int).toNat z_Block : List S_Block) ≠ [] := by
      intro e
      have := congrArg List.length e
      simp at this; omega
    obtain ⟨b, rfl, cs, ess, cd, rfl, -, -, hcs, -, htop⟩ := o.opened hne
    have hs := hs.less (k := k) [(b, .cells cs 81 (0, 0))] cd (kget_cons _ _ _) (by simp)
    simp only [kdel, Nat.beq_refl, if_true] at hs
    refine sm _ rfl hk rfl rfl rfl fun a hk => ?_
    refine sle rfl hk rfl rfl rfl un26 fun a hk => ?_
    refine sll_h rfl hk rfl rfl rfl rfl un26 sz81 (by omega) (by omega) fun a hk => ?_
    have hk := hk.re (v' := .slice (some ⟨b, 0, none⟩) 0 p1) 25 rfl sl_head
    refine sa _ rfl hk rfl rfl rfl fun a hk => ?_
    show wpList _ _ _ [] _ _
    refine wpList_nil ?_
    refine hK6 _ _ ?_
    apply wp_seq_k; intro K7 hK7
    apply wp_region_lit
    refine sm _ rfl hk rfl rfl rfl fun a hk => ?_
    refine sa _ rfl hk rfl rfl rfl fun a hk => ?_
    show wpList _ _ _ [] _ _
    refine wpList_nil ?_
    refine hK7 _ _ ?_
    refine wp_ret ?_
    exact fin hk _ [(.slice (some ⟨b, 0, none⟩) 0 p1)] rfl ⟨rfl, trivial⟩ ⟨_, p1, _, rfl, .inr ⟨b, rfl, cs, [], [], rfl, .nil, by simp, hcs, Nat.zero_le _, htop⟩, hs⟩
  · have hk := hk.lit 16 (decide_eq_false (by omega)) rfl
    refine cnd_false hk rfl rfl ?_
    refine wp_skip ?_
    refine hK6 _ _ ?_
    apply wp_seq_k; intro K7 hK7
    apply wp_region_lit
    refine sm _ rfl hk rfl rfl rfl fun a hk => ?_
    refine sa _ rfl hk rfl rfl rfl fun a hk => ?_
    show wpList _ _ _ [] _ _
    refine wpList_nil ?_
    refine hK7 _ _ ?_
    refine wp_ret ?_
    exact fin hk _ [(.slice none 0 0)] rfl ⟨rfl, trivial⟩ ⟨none, 0, [], rfl, Own.nil _ _, hs.addNil k⟩
theorem slices_Grow_impl_Block_impl_Block_t {M : List Nat} {w00 w : World} {Δ Γ : List (Nat × Chunk)} (k : Nat) {n : Int} (hs : Sat M w00 w Δ Γ) (hn : 0 ≤ n ∧ n ≤ 1073741824) :
    Calls Try.prog 188 #[.slice none 0 0, .int .i64 n] w (Ret (fun v w' => ∃ A cap c, v = .slice A ([] : List S_Block).length cap ∧ Own L_Block 81 A cap [] c ∧ Sat M w00 w' Δ ((k, c) :: Γ))) := by
  obtain ⟨m, rfl⟩ := Int.eq_ofNat_of_zero_le hn.1
  exact slices_Grow_impl_Block_impl_Block_n k m hs (by omega)

noncomputable def slices_Concat_impl_Block_impl_Block.s0 (l0 : List (List S_Block)) (u7 : Int) (u8 : Int) : Option ((Int × Int) ⊕ Ex (Int) ((List S_Block))) :=
  (bif (decide (u8 < (l0.length : Int))) then (if 0 ≤ u8 ∧ u8 < (l0.length : Int) then (bif (decide ((w64 (u7 + ((l0.getD u8.toNat []).length : Int))) < 0)) then none else (some (.inl ((w64 (u7 + ((l0.getD u8.toNat []).length : Int))), (w64 (u8 + 1)))))) else none) else (some (.inr (.out u7))))
noncomputable def slices_Concat_impl_Block_impl_Block.s1 (l0 : List (List S_Block)) (u49 : List S_Block) (u48 : Int) : Option (((List S_Block) × Int) ⊕ Ex ((List S_Block)) ((List S_Block))) :=
  (bif (decide (u48 < (l0.length : Int))) then (if 0 ≤ u48 ∧ u48 < (l0.length : Int) then (if u49.length + (l0.getD u48.toNat []).length ≤ 1073741824 then (some (.inl ((u49 ++ (l0.getD u48.toNat [])), (w64 (u48 + 1))))) else none) else none) else (some (.inr (.out u49))))
noncomputable def slices_Concat_impl_Block_impl_Block.f (l0 : List (List S_Block)) : Option ((List S_Block)) :=
  ((loopO (fun s => slices_Concat_impl_Block_impl_Block.s0 l0 s.1 s.2) (0, 0)).bind fun o => match o with | .out u9 => (if 0 ≤ u9 ∧ u9 ≤ 1073741824 then ((loopO (fun s => slices_Concat_impl_Block_impl_Block.s1 l0 s.1 s.2) (([] : List S_Block), 0)).bind fun o => match o with | .out u54 => (some u54) | .ret r => (some r)) else none) | .ret r => (some r))
set_option maxRecDepth 100000 in
set_option maxHeartbeats 0 in
theorem slices_Concat_impl_Block_impl_Block_t (w0 : World) (A0_ : Option Addr) (p0_ : Nat) (l0 : List (List S_Block)) (k0_ : Chunk) (v0_ : View (Lay.sl L_Block 81) A0_ p0_ l0 k0_) (w0_ : Has w0 k0_) (r : (List S_Block)) (H : slices_Concat_impl_Block_impl_Block.f l0 = some r) :
    Calls Try.prog 168 #[.slice A0_ l0.length p0_] w0 (Ret (fun v w => ∃ (A0 : Option Addr) (p0 : Nat) (k0 : Chunk), v = .slice A0 r.length p0 ∧ Own L_Block 81 A0 p0 r k0 ∧ Sat [] w0 w [] [(0, k0)])) := by
  have hs : Sat [] w0 w0 [(1, k0_)] [] := Sat.init w0 [(1, k0_)] [] (by simp only [List.mem_cons, List.not_mem_nil, or_false]; rintro x (rfl) <;> assumption) (by simp) List.nodup_nil (by simp [blks])
  unfold slices_Concat_impl_Block_impl_Block.f at H
  refine enter Try.func168 rfl Try.ntmps168 rfl fun a hk => ?_
  apply wp_seq_k; intro K1 hK1
  apply wp_region_lit
  refine sa _ rfl hk rfl rfl rfl fun a hk => ?_
  show wpList _ _ _ [] _ _
  refine wpList_nil ?_
  refine hK1 _ _ ?_
  apply wp_seq_k; intro K2 hK2
  apply wp_region_lit
  refine sa _ rfl hk rfl rfl rfl fun a hk => ?_
  show wpList _ _ _ [] _ _
  refine wpList_nil ?_
  refine hK2 _ _ ?_
  apply wp_seq_k; intro K3 hK3
  apply wp_seq_k; intro K4 hK4
  apply wp_region_lit
  refine sm _ rfl hk rfl rfl rfl fun a hk => ?_
  refine sle rfl hk rfl rfl rfl un49 fun a hk => ?_
  refine sm _ rfl hk rfl rfl rfl fun a hk => ?_
  show wpList _ _ _ [] _ _
  refine wpList_nil ?_
  refine hK4 _ _ ?_
  obtain ⟨o10, h11, HL12⟩ := bind_some H
  clear H
  obtain ⟨R13, hR13⟩ : ∃ R : Act → World → Prop, R = fun a w => ∃ (u9 : Int), o10 = .out u9 ∧ Kn [(0, (.slice A0_ l0.length p0_)), (3, (.int .i64 u9))] 36 a ∧ Sat [] w0 w [(1, k0_)] [] := ⟨_, rfl⟩
  refine wp_cutq R13 ?_ ?_
  ·refine wp_block ?_
   obtain ⟨fu15, h11⟩ := loopO_some h11
   obtain ⟨I14, hI14⟩ : ∃ I : Nat → Act → World → Prop, I = fun fu a w => ∃ (u7 : Int) (u8 : Int), loopN (fun s => slices_Concat_impl_Block_impl_Block.s0 l0 s.1 s.2) fu (u7, u8) = some o10 ∧ Kn [(0, (.slice A0_ l0.length p0_)), (3, (.int .i64 u7)), (9, (.slice A0_ l0.length p0_)), (10, (.int .i64 (l0.length : Int))), (11, (.int .i64 u8))] 36 a ∧ Sat [] w0 w [(1, k0_)] [] := ⟨_, rfl⟩
   refine wp_loop_ghost I14 fu15 ?_ ?_
   ·rw [hI14]
    exact ⟨0, 0, h11, (hk.c 0 rfl (hk.c 3 rfl (hk.c 9 rfl (hk.c 10 rfl (hk.c 11 rfl hk.k))))), (hs.pick [] rfl)⟩
   ·clear h11 hk hs
    intro fu15 a w hI0
    rw [hI14] at hI0
    obtain ⟨u7, u8, hi, hk, hs⟩ := hI0
    obtain ⟨x16, H, h17⟩ := loop_round hi
    try dsimp only at H
    unfold slices_Concat_impl_Block_impl_Block.s0 at H
    apply wp_seq_k; intro K18 hK18
    apply wp_region_lit
    refine sv (.bool (decide (u8 < (l0.length : Int)))) hk rfl rfl rfl fun a hk => ?_
    show wpList _ _ _ [] _ _
    refine wpList_nil ?_
    refine hK18 _ _ ?_
    apply wp_seq_k; intro K19 hK19
    rcases cond_some H with ⟨c20, H⟩ | ⟨c20, H⟩
    ·have hk := hk.lit 12 c20 rfl
     refine cnd_true hk rfl rfl ?_
     refine wp_skip ?_
     refine hK19 _ _ ?_
     apply wp_seq_k; intro K21 hK21
     refine wp_block ?_
     apply wp_seq_k; intro K22 hK22
     apply wp_region_lit
     rcases ite_some H with ⟨c23, H⟩ | ⟨_, H⟩
     rotate_left
     ·cases H
     obtain ⟨b24, q25, hAc23⟩ := (v0_).some_ u8 c23.1 c23.2
     refine si rfl hk rfl rfl rfl rfl un49 sz26 c23.1 c23.2 hAc23 fun a hk => ?_
     obtain ⟨_, ⟨_, rfl, A27, p28, rfl, v29⟩, e26⟩ := (v0_).at_ [] u8 c23.1 c23.2
     refine sl (v := (.slice A27 (l0.getD u8.toNat []).length p28)) rfl hk rfl rfl rfl ag26 ((e26 0 _ rfl).cell (hs.hasD (k := 1) rfl)) fun a hk => ?_
     refine sa _ rfl hk rfl rfl rfl fun a hk => ?_
     show wpList _ _ _ [] _ _
     refine wpList_nil ?_
     refine hK22 _ _ ?_
     apply wp_seq_k; intro K30 hK30
     apply wp_region_lit
     refine sm _ rfl hk rfl rfl rfl fun a hk => ?_
     refine sm _ rfl hk rfl rfl rfl fun a hk => ?_
     refine sle rfl hk rfl rfl rfl un26 fun a hk => ?_
     refine sv (.int .i64 (w64 (u7 + ((l0.getD u8.toNat []).length : Int)))) hk rfl rfl rfl fun a hk => ?_
     refine sa _ rfl hk rfl rfl rfl fun a hk => ?_
     show wpList _ _ _ [] _ _
     refine wpList_nil ?_
     refine hK30 _ _ ?_
     apply wp_seq_k; intro K31 hK31
     apply wp_region_lit
     refine sm _ rfl hk rfl rfl rfl fun a hk => ?_
     refine sv (.bool (decide ((w64 (u7 + ((l0.getD u8.toNat []).length : Int))) < 0))) hk rfl rfl rfl fun a hk => ?_
     show wpList _ _ _ [] _ _
     refine wpList_nil ?_
     refine hK31 _ _ ?_
     rcases cond_some H with ⟨c32, H⟩ | ⟨c32, H⟩
     ·have hk := hk.lit 20 c32 rfl
      refine cnd_true hk rfl rfl ?_
      apply wp_region_lit
      cases H
     ·have hk := hk.lit 20 c32 rfl
      refine cnd_false hk rfl rfl ?_
      refine wp_skip ?_
      refine hK21 _ _ ?_
      apply wp_region_lit
      refine sv (.int .i64 (w64 (u8 + 1))) hk rfl rfl rfl fun a hk => ?_
      refine sm _ rfl hk rfl rfl rfl fun a hk => ?_
      show wpList _ _ _ [] _ _
      refine wpList_nil ?_
      obtain rfl := Option.some.inj H
      obtain ⟨m33, hmm33, h17⟩ := h17
      show ∃ n', n' < _ ∧ I14 n' _ _
      refine ⟨m33, hmm33, ?_⟩
      rw [hI14]
      exact ⟨(w64 (u7 + ((l0.getD u8.toNat []).length : Int))), (w64 (u8 + 1)), h17, (hk.c 0 rfl (hk.c 3 rfl (hk.c 9 rfl (hk.c 10 rfl (hk.c 11 rfl hk.k))))), (hs.pick [] rfl)⟩
    ·have hk := hk.lit 12 c20 rfl
     refine cnd_false hk rfl rfl ?_
     refine wp_exit ?_
     obtain rfl := Option.some.inj H
     show R13 _ _
     rw [hR13]
     exact ⟨u7, h17.symm, (hk.c 0 rfl (hk.c 3 rfl hk.k)), (hs.pick [] rfl)⟩
  ·intro a w hR0
   rw [hR13] at hR0
   obtain ⟨u9, rfl, hk, hs⟩ := hR0
   have H := HL12
   try dsimp only at H
   refine hK3 _ _ ?_
   apply wp_seq_k; intro K34 hK34
   apply wp_region_lit
   refine sm _ rfl hk rfl rfl rfl fun a hk => ?_
   rcases ite_some H with ⟨c35, H⟩ | ⟨_, H⟩
   rotate_left
   ·cases H
   refine sc rfl en188 hk rfl rfl rfl (slices_Grow_impl_Block_impl_Block_t 3 hs c35) ?_
   rintro _ w ⟨A36, p37, k38, rfl, o39, hs⟩ a hk
   refine sa _ rfl hk rfl rfl rfl fun a hk => ?_
   show wpList _ _ _ [] _ _
   refine wpList_nil ?_
   refine hK34 _ _ ?_
   apply wp_seq_k; intro K40 hK40
   apply wp_seq_k; intro K41 hK41
   apply wp_region_lit
   refine sm _ rfl hk rfl rfl rfl fun a hk => ?_
   refine sle rfl hk rfl rfl rfl un49 fun a hk => ?_
   refine sm _ rfl hk rfl rfl rfl fun a hk => ?_
   show wpList _ _ _ [] _ _
   refine wpList_nil ?_
   refine hK41 _ _ ?_
   obtain ⟨o59, h60, HL61⟩ := bind_some H
   clear H
   obtain ⟨R62, hR62⟩ : ∃ R : Act → World → Prop, R = fun a w => ∃ (u54 : List S_Block) (A57 : Option Addr) (p58 : Nat) (k55 : Chunk), o59 = .out u54 ∧ Kn [(6, (.slice A57 u54.length p58))] 36 a ∧ Sat [] w0 w [(1, k0_)] [(3, k55)] ∧ Own L_Block 81 A57 p58 u54 k55 := ⟨_, rfl⟩
   refine wp_cutq R62 ?_ ?_
   ·refine wp_block ?_
    obtain ⟨fu64, h60⟩ := loopO_some h60
    obtain ⟨I63, hI63⟩ : ∃ I : Nat → Act → World → Prop, I = fun fu a w => ∃ (u49 : List S_Block) (u48 : Int) (A52 : Option Addr) (p53 : Nat) (k50 : Chunk), loopN (fun s => slices_Concat_impl_Block_impl_Block.s1 l0 s.1 s.2) fu (u49, u48) = some o59 ∧ Kn [(6, (.slice A52 u49.length p53)), (25, (.slice A0_ l0.length p0_)), (26, (.int .i64 (l0.length : Int))), (27, (.int .i64 u48))] 36 a ∧ Sat [] w0 w [(1, k0_)] [(3, k50)] ∧ Own L_Block 81 A52 p53 u49 k50 := ⟨_, rfl⟩
    refine wp_loop_ghost I63 fu64 ?_ ?_
    ·rw [hI63]
     exact ⟨([] : List S_Block), 0, A36, p37, _, h60, (hk.c 6 rfl (hk.c 25 rfl (hk.c 26 rfl (hk.c 27 rfl hk.k)))), (hs.pick [(3, 3)] rfl), o39⟩
    ·clear h60 hk hs
     intro fu64 a w hI0
     rw [hI63] at hI0
     obtain ⟨u49, u48, A52, p53, k50, hi, hk, hs, o51⟩ := hI0
     obtain ⟨x65, H, h66⟩ := loop_round hi
     try dsimp only at H
     unfold slices_Concat_impl_Block_impl_Block.s1 at H
     apply wp_seq_k; intro K67 hK67
     apply wp_region_lit
     refine sv (.bool (decide (u48 < (l0.length : Int)))) hk rfl rfl rfl fun a hk => ?_
     show wpList _ _ _ [] _ _
     refine wpList_nil ?_
     refine hK67 _ _ ?_
     apply wp_seq_k; intro K68 hK68
     rcases cond_some H with ⟨c69, H⟩ | ⟨c69, H⟩
     ·have hk := hk.lit 28 c69 rfl
      refine cnd_true hk rfl rfl ?_
      refine wp_skip ?_
      refine hK68 _ _ ?_
      apply wp_seq_k; intro K70 hK70
      refine wp_block ?_
      apply wp_seq_k; intro K71 hK71
      apply wp_region_lit
      rcases ite_some H with ⟨c72, H⟩ | ⟨_, H⟩
      rotate_left
      ·cases H
      obtain ⟨b73, q74, hAc72⟩ := (v0_).some_ u48 c72.1 c72.2
      refine si rfl hk rfl rfl rfl rfl un49 sz26 c72.1 c72.2 hAc72 fun a hk => ?_
      obtain ⟨_, ⟨_, rfl, A76, p77, rfl, v78⟩, e75⟩ := (v0_).at_ [] u48 c72.1 c72.2
      refine sl (v := (.slice A76 (l0.getD u48.toNat []).length p77)) rfl hk rfl rfl rfl ag26 ((e75 0 _ rfl).cell (hs.hasD (k := 1) rfl)) fun a hk => ?_
      refine sa _ rfl hk rfl rfl rfl fun a hk => ?_
      show wpList _ _ _ [] _ _
      refine wpList_nil ?_
      refine hK71 _ _ ?_
      apply wp_region_lit
      refine sm _ rfl hk rfl rfl rfl fun a hk => ?_
      refine sm _ rfl hk rfl rfl rfl fun a hk => ?_
      rcases ite_some H with ⟨c79, H⟩ | ⟨_, H⟩
      rotate_left
      ·cases H
      refine sap 3 (xs := u49) (ys := (l0.getD u48.toNat [])) (flat_flat : (L_Block).Flat) hs rfl o51 v78 (hs.hasD (k := 1) rfl) rfl hk rfl rfl rfl rfl rfl rfl un26 mk81 rfl rfl rfl c79 fun A80 p81 k82 w a hk o83 hs => ?_
      refine sa _ rfl hk rfl rfl rfl fun a hk => ?_
      show wpList _ _ _ [] _ _
      refine wpList_nil ?_
      refine hK70 _ _ ?_
      apply wp_region_lit
      refine sv (.int .i64 (w64 (u48 + 1))) hk rfl rfl rfl fun a hk => ?_
      refine sm _ rfl hk rfl rfl rfl fun a hk => ?_
      show wpList _ _ _ [] _ _
      refine wpList_nil ?_
      obtain rfl := Option.some.inj H
      obtain ⟨m84, hmm84, h66⟩ := h66
      show ∃ n', n' < _ ∧ I63 n' _ _
      refine ⟨m84, hmm84, ?_⟩
      rw [hI63]
      exact ⟨(u49 ++ (l0.getD u48.toNat [])), (w64 (u48 + 1)), A80, p81, _, h66, (hk.c 6 rfl (hk.c 25 rfl (hk.c 26 rfl (hk.c 27 rfl hk.k)))), (hs.pick [(3, 3)] rfl), o83⟩
     ·have hk := hk.lit 28 c69 rfl
      refine cnd_false hk rfl rfl ?_
      refine wp_exit ?_
      obtain rfl := Option.some.inj H
      show R62 _ _
      rw [hR62]
      exact ⟨u49, A52, p53, _, h66.symm, (hk.c 6 rfl hk.k), (hs.pick [(3, 3)] rfl), o51⟩
   ·intro a w hR0
    rw [hR62] at hR0
    obtain ⟨u54, A57, p58, k55, rfl, hk, hs, o56⟩ := hR0
    have H := HL61
    try dsimp only at H
    refine hK40 _ _ ?_
    apply wp_seq_k; intro K85 hK85
    apply wp_region_lit
    refine sm _ rfl hk rfl rfl rfl fun a hk => ?_
    refine sa _ rfl hk rfl rfl rfl fun a hk => ?_
    show wpList _ _ _ [] _ _
    refine wpList_nil ?_
    refine hK85 _ _ ?_
    refine wp_ret ?_
    obtain rfl := Option.some.inj H
    exact fin hk _ [(.slice A57 u54.length p58)] rfl ⟨rfl, trivial⟩ ⟨A57, p58, _, rfl, o56, (hs.pick [(0, 3)] rfl).dnil⟩

noncomputable def impl_Oram_all.f (x0 : S_Oram) : Option ((List S_Block)) :=
  ((slices_Clone_impl_Block_impl_Block.f x0.Stash).bind fun y5 => ((slices_Concat_impl_Block_impl_Block.f x0.Buckets).bind fun y11 => (if y5.length + y11.length ≤ 1073741824 then (some (y5 ++ y11)) else none)))
set_option maxRecDepth 100000 in
set_option maxHeartbeats 0 in
theorem impl_Oram_all_t (w0 : World) (x0 : S_Oram) (A0_0 : Option Addr) (p0_0 : Nat) (k0_0 : Chunk) (v0_0 : View (Lay.int .i64) A0_0 p0_0 x0.Pos k0_0) (w0_0 : Has w0 k0_0) (A0_1 : Option Addr) (p0_1 : Nat) (k0_1 : Chunk) (v0_1 : View L_Block A0_1 p0_1 x0.Stash k0_1) (w0_1 : Has w0 k0_1) (A0_2 : Option Addr) (p0_2 : Nat) (k0_2 : Chunk) (v0_2 : View (Lay.sl L_Block 81) A0_2 p0_2 x0.Buckets k0_2) (w0_2 : Has w0 k0_2) (r : (List S_Block)) (H : impl_Oram_all.f x0 = some r) :
    Calls Try.prog 130 #[.agg #[.slice A0_0 x0.Pos.length p0_0, .slice A0_1 x0.Stash.length p0_1, .slice A0_2 x0.Buckets.length p0_2]] w0 (Ret (fun v w => ∃ (A0 : Option Addr) (p0 : Nat) (k0 : Chunk), v = .slice A0 r.length p0 ∧ Own L_Block 81 A0 p0 r k0 ∧ Sat [] w0 w [] [(0, k0)])) := by
  have hs : Sat [] w0 w0 [(1, k0_0), (2, k0_1), (3, k0_2)] [] := Sat.init w0 [(1, k0_0), (2, k0_1), (3, k0_2)] [] (by simp only [List.mem_cons, List.not_mem_nil, or_false]; rintro x (rfl | rfl | rfl) <;> assumption) (by simp) List.nodup_nil (by simp [blks])
  unfold impl_Oram_all.f at H
  refine enter Try.func130 rfl Try.ntmps130 rfl fun a hk => ?_
  apply wp_seq_k; intro K1 hK1
  apply wp_region_lit
  refine sbx 4 hs rfl hk rfl rfl rfl rfl fun b2 w a hk hs => ?_
  refine sa _ rfl hk rfl rfl rfl fun a hk => ?_
  show wpList _ _ _ [] _ _
  refine wpList_nil ?_
  refine hK1 _ _ ?_
  apply wp_seq_k; intro K3 hK3
  refine wp_region_tree (.q 0 (.q 1 (.q 3 (.q 4 (.alt 2 (.alt 5 (.alt 6 (.last 7) .stop) .stop) .stop))))) mo (by kernel_rfl) (hs.pick [(4, 4)] rfl) fun _ => ?_
  have hs := hs.drew
  refine tqst (.pointer (some ⟨b2, 1, none⟩)) hk rfl rfl rfl rfl (fun w hs => sf ⟨b2, 1, none⟩ rfl hk rfl rfl rfl fd51_1 rfl fun a hk => qe hk) fun a hk => ?_
  refine tqst (.slice A0_1 x0.Stash.length p0_1) hk rfl rfl rfl rfl (fun w hs => sl rfl hk rfl rfl rfl ag26 (box_cell hs (k := 4) rfl rfl) fun a hk => qe hk) fun a hk => ?_
  refine tqst (.pointer (some ⟨b2, 2, none⟩)) hk rfl rfl rfl rfl (fun w hs => sf ⟨b2, 2, none⟩ rfl hk rfl rfl rfl fd51_2 rfl fun a hk => qe hk) fun a hk => ?_
  refine tqst (.slice A0_2 x0.Buckets.length p0_2) hk rfl rfl rfl rfl (fun w hs => sl rfl hk rfl rfl rfl ag49 (box_cell hs (k := 4) rfl rfl) fun a hk => qe hk) fun a hk => ?_
  refine tsst hk rfl rfl (fun K_r4_2 hK_r4_2 w hF => ?_) wt_stop
  have hs := hs.f hF
  obtain ⟨y5, h6, H⟩ := bind_some H
  refine sc rfl en167 hk rfl rfl rfl (slices_Clone_impl_Block_impl_Block_t _ A0_1 p0_1 x0.Stash _ v0_1 (hs.hasD (k := 2) rfl) _ h6) ?_
  rintro _ w ⟨A7, p8, k9, rfl, o10, hG⟩ a hk
  have hs := hs.call0k hG [6] rfl
  refine se (hs.pick [(4, 4)] rfl) hk (hK_r4_2 _ _ ?_)
  refine tsst hk rfl rfl (fun K_r4_5 hK_r4_5 w hF => ?_) wt_stop
  have hs := hs.f hF
  obtain ⟨y11, h12, H⟩ := bind_some H
  refine sc rfl en168 hk rfl rfl rfl (slices_Concat_impl_Block_impl_Block_t _ A0_2 p0_2 x0.Buckets _ v0_2 (hs.hasD (k := 3) rfl) _ h12) ?_
  rintro _ w ⟨A13, p14, k15, rfl, o16, hG⟩ a hk
  have hs := hs.call0k hG [7] rfl
  refine se (hs.pick [(4, 4)] rfl) hk (hK_r4_5 _ _ ?_)
  refine tsst hk rfl rfl (fun K_r4_6 hK_r4_6 w hF => ?_) wt_stop
  have hs := hs.f hF
  rcases ite_some H with ⟨c17, H⟩ | ⟨_, H⟩
  rotate_left
  ·cases H
  refine sap 6 (xs := y5) (ys := y11) (flat_flat : (L_Block).Flat) hs rfl o10 o16.view (hs.hasG (k := 7) rfl) rfl hk rfl rfl rfl rfl rfl rfl un26 mk81 rfl rfl rfl c17 fun A18 p19 k20 w a hk o21 hs => ?_
  refine se (hs.pick [(4, 4)] rfl) hk (hK_r4_6 _ _ ?_)
  refine tlst hk rfl rfl fun K_r4_7 hK_r4_7 w hF => ?_
  have hs := hs.f hF
  refine sa _ rfl hk rfl rfl rfl fun a hk => ?_
  refine se trivial hk (hK_r4_7 _ _ fun w hF => ?_)
  have hs := hs.f hF
  refine hK3 _ _ ?_
  refine wp_ret ?_
  obtain rfl := Option.some.inj H
  exact fin hk _ [(.slice A18 (y5 ++ y11).length p19)] rfl ⟨rfl, trivial⟩ ⟨A18, p19, _, rfl, o21, (hs.pick [(0, 6)] rfl).dnil⟩

noncomputable def impl_OramOK.s0 (x0 : S_Oram) (u21 : Int) : Option ((Int) ⊕ Ex (Unit) (Bool)) :=
  (bif (decide (u21 < (x0.Buckets.length : Int))) then (if 0 ≤ u21 ∧ u21 < (x0.Buckets.length : Int) then (((bif (decide (((x0.Buckets.getD u21.toNat []).length : Int) > 2)) then (some true) else ((impl_areAll_impl_Block.f (x0.Buckets.getD u21.toNat []) (fun z0 => impl_OramOK_c1.f z0 u21)).bind fun y51 => (some (!y51)))) : Option (Bool)).bind fun u45 => (bif u45 then (some (.inr (.ret false))) else (some (.inl (w64 (u21 + 1)))))) else none) else (some (.inr (.out ()))))
noncomputable def impl_OramOK.s1 (x0 : S_Oram) (y63 : (List S_Block)) (u71 : List Bool) (u75 : Int) : Option (((List Bool) × Int) ⊕ Ex (Unit) (Bool)) :=
  (bif (decide (u75 < (y63.length : Int))) then (if 0 ≤ u75 ∧ u75 < (y63.length : Int) then ((((impl_isBlock.f (y63.getD u75.toNat z_Block)).bind fun y102 => (bif (!y102) then (some true) else (if 0 ≤ ((y63.getD u75.toNat z_Block).Id) ∧ ((y63.getD u75.toNat z_Block).Id) < (x0.Pos.length : Int) then (bif (((y63.getD u75.toNat z_Block).Leaf) != (x0.Pos.getD ((y63.getD u75.toNat z_Block).Id).toNat 0)) then (some true) else (if 0 ≤ ((y63.getD u75.toNat z_Block).Id) ∧ ((y63.getD u75.toNat z_Block).Id) < (12 : Int) then (some (u71.getD ((y63.getD u75.toNat z_Block).Id).toNat false)) else none)) else none))) : Option (Bool)).bind fun u97 => (bif u97 then (some (.inr (.ret false))) else (if 0 ≤ ((y63.getD u75.toNat z_Block).Id) ∧ ((y63.getD u75.toNat z_Block).Id) < (12 : Int) then (some (.inl ((u71.set ((y63.getD u75.toNat z_Block).Id).toNat true), (w64 (u75 + 1))))) else none))) else none) else (some (.inr (.out ()))))
noncomputable def impl_OramOK.f (x0 : S_Oram) : Option (Bool) :=
  (((bif ((x0.Pos.length : Int) != 12) then (some true) else ((impl_areAll_int.f x0.Pos impl_isLeaf.f).bind fun y12 => (bif (!y12) then (some true) else (some ((x0.Buckets.length : Int) != 15))))) : Option (Bool)).bind fun u6 => (bif u6 then (some false) else ((loopO (fun s => impl_OramOK.s0 x0 s) 0).bind fun o => match o with | .out _ => ((impl_Oram_all.f x0).bind fun y63 => ((loopO (fun s => impl_OramOK.s1 x0 y63 s.1 s.2) ((List.replicate 12 (false : Bool)), 0)).bind fun o => match o with | .out _ => (some true) | .ret r => (some r))) | .ret r => (some r))))
set_option maxRecDepth 100000 in
set_option maxHeartbeats 0 in
theorem impl_OramOK_t (w0 : World) (x0 : S_Oram) (A0_0 : Option Addr) (p0_0 : Nat) (k0_0 : Chunk) (v0_0 : View (Lay.int .i64) A0_0 p0_0 x0.Pos k0_0) (w0_0 : Has w0 k0_0) (A0_1 : Option Addr) (p0_1 : Nat) (k0_1 : Chunk) (v0_1 : View L_Block A0_1 p0_1 x0.Stash k0_1) (w0_1 : Has w0 k0_1) (A0_2 : Option Addr) (p0_2 : Nat) (k0_2 : Chunk) (v0_2 : View (Lay.sl L_Block 81) A0_2 p0_2 x0.Buckets k0_2) (w0_2 : Has w0 k0_2) (r : Bool) (H : impl_OramOK.f x0 = some r) :
    Calls Try.prog 84 #[.agg #[.slice A0_0 x0.Pos.length p0_0, .slice A0_1 x0.Stash.length p0_1, .slice A0_2 x0.Buckets.length p0_2]] w0 (Ret (fun v w => v = .bool r ∧ Sat [] w0 w [] [])) := by
  have hs : Sat [] w0 w0 [(1, k0_0), (2, k0_1), (3, k0_2)] [] := Sat.init w0 [(1, k0_0), (2, k0_1), (3, k0_2)] [] (by simp only [List.mem_cons, List.not_mem_nil, or_false]; rintro x (rfl | rfl | rfl) <;> assumption) (by simp) List.nodup_nil (by simp [blks])
  unfold impl_OramOK.f at H
  refine enter Try.func84 rfl Try.ntmps84 rfl fun a hk => ?_
  apply wp_seq_k; intro K1 hK1
  apply wp_region_lit
  refine sbx 4 hs rfl hk rfl rfl rfl rfl fun b2 w a hk hs => ?_
  refine sa _ rfl hk rfl rfl rfl fun a hk => ?_
  show wpList _ _ _ [] _ _
  refine wpList_nil ?_
  refine hK1 _ _ ?_
  apply wp_seq_k; intro K3 hK3
  apply wp_seq_k; intro K4 hK4
  obtain ⟨o7, h8, HL9⟩ := bind_some H
  clear H
  obtain ⟨R10, hR10⟩ : ∃ R : Act → World → Prop, R = fun a w => ∃ (u6 : Bool), u6 = o7 ∧ Kn [(1, (.pointer (some ⟨b2, 0, none⟩))), (23, (.bool u6))] 73 a ∧ Sat [] w0 w [(1, k0_0), (2, k0_1), (3, k0_2)] [(4, [(b2, .cells #[.slice A0_0 x0.Pos.length p0_0, .slice A0_1 x0.Stash.length p0_1, .slice A0_2 x0.Buckets.length p0_2] 51 (0, 0))])] := ⟨_, rfl⟩
  refine wp_cutq R10 ?_ ?_
  ·have H := h8
   apply wp_region_lit
   refine sf ⟨b2, 0, none⟩ rfl hk rfl rfl rfl fd51_0 rfl fun a hk => ?_
   refine sl rfl hk rfl rfl rfl ag31 (box_cell hs (k := 4) rfl rfl) fun a hk => ?_
   refine sle rfl hk rfl rfl rfl un31 fun a hk => ?_
   refine sv (.bool ((x0.Pos.length : Int) != 12)) hk rfl rfl rfl fun a hk => ?_
   refine sm _ rfl hk rfl rfl rfl fun a hk => ?_
   rcases cond_some H with ⟨c11, H⟩ | ⟨c11, H⟩
   ·have hk := hk.lit 12 c11 rfl
    refine sk hk rfl rfl rfl fun a hk => ?_
    refine sk hk rfl rfl rfl fun a hk => ?_
    refine sk hk rfl rfl rfl fun a hk => ?_
    refine sk hk rfl rfl rfl fun a hk => ?_
    refine sv (.bool true) hk rfl rfl rfl fun a hk => ?_
    refine sm _ rfl hk rfl rfl rfl fun a hk => ?_
    refine sk hk rfl rfl rfl fun a hk => ?_
    refine sk hk rfl rfl rfl fun a hk => ?_
    refine sk hk rfl rfl rfl fun a hk => ?_
    refine sk hk rfl rfl rfl fun a hk => ?_
    refine sv (.bool true) hk rfl rfl rfl fun a hk => ?_
    show wpList _ _ _ [] _ _
    refine wpList_nil ?_
    obtain rfl := Option.some.inj H
    show R10 _ _
    rw [hR10]
    exact ⟨true, rfl, (hk.c 1 rfl (hk.c 23 rfl hk.k)), (hs.pick [(4, 4)] rfl)⟩
   ·have hk := hk.lit 12 c11 rfl
    refine sf ⟨b2, 0, none⟩ rfl hk rfl rfl rfl fd51_0 rfl fun a hk => ?_
    refine sl rfl hk rfl rfl rfl ag31 (box_cell hs (k := 4) rfl rfl) fun a hk => ?_
    obtain ⟨y12, h13, H⟩ := bind_some H
    refine sc rfl en114 hk rfl rfl rfl (impl_areAll_int_t _ A0_0 p0_0 x0.Pos _ v0_0 (hs.hasD (k := 1) rfl) 106 [] en106 impl_isLeaf.f [] (fun w _ z0 r h => impl_isLeaf_t w z0 r h) (Has.nil _) _ h13) ?_
    rintro _ w ⟨rfl, hG⟩ a hk
    have hs := hs.call0 hG
    refine sv (.bool (!y12)) hk rfl rfl rfl fun a hk => ?_
    refine sv (.bool (!y12)) hk rfl rfl rfl fun a hk => ?_
    refine sm _ rfl hk rfl rfl rfl fun a hk => ?_
    rcases cond_some H with ⟨c14, H⟩ | ⟨c14, H⟩
    ·have hk := hk.lit 18 c14 rfl
     refine sk hk rfl rfl rfl fun a hk => ?_
     refine sk hk rfl rfl rfl fun a hk => ?_
     refine sk hk rfl rfl rfl fun a hk => ?_
     refine sk hk rfl rfl rfl fun a hk => ?_
     refine sv (.bool true) hk rfl rfl rfl fun a hk => ?_
     show wpList _ _ _ [] _ _
     refine wpList_nil ?_
     obtain rfl := Option.some.inj H
     show R10 _ _
     rw [hR10]
     exact ⟨true, rfl, (hk.c 1 rfl (hk.c 23 rfl hk.k)), (hs.pick [(4, 4)] rfl)⟩
    ·have hk := hk.lit 18 c14 rfl
     refine sf ⟨b2, 2, none⟩ rfl hk rfl rfl rfl fd51_2 rfl fun a hk => ?_
     refine sl rfl hk rfl rfl rfl ag49 (box_cell hs (k := 4) rfl rfl) fun a hk => ?_
     refine sle rfl hk rfl rfl rfl un49 fun a hk => ?_
     refine sv (.bool ((x0.Buckets.length : Int) != 15)) hk rfl rfl rfl fun a hk => ?_
     refine sv (.bool ((x0.Buckets.length : Int) != 15)) hk rfl rfl rfl fun a hk => ?_
     show wpList _ _ _ [] _ _
     refine wpList_nil ?_
     obtain rfl := Option.some.inj H
     show R10 _ _
     rw [hR10]
     exact ⟨((x0.Buckets.length : Int) != 15), rfl, (hk.c 1 rfl (hk.c 23 rfl hk.k)), (hs.pick [(4, 4)] rfl)⟩
  ·intro a w hR0
   rw [hR10] at hR0
   obtain ⟨u6, rfl, hk, hs⟩ := hR0
   have H := HL9
   try dsimp only at H
   refine hK4 _ _ ?_
   rcases cond_some H with ⟨c15, H⟩ | ⟨c15, H⟩
   ·have hk := hk.lit 23 c15 rfl
    refine cnd_true hk rfl rfl ?_
    apply wp_seq_k; intro K16 hK16
    apply wp_region_lit
    refine sa _ rfl hk rfl rfl rfl fun a hk => ?_
    show wpList _ _ _ [] _ _
    refine wpList_nil ?_
    refine hK16 _ _ ?_
    refine wp_ret ?_
    obtain rfl := Option.some.inj H
    exact fin hk _ [(.bool false)] rfl ⟨rfl, trivial⟩ ⟨rfl, (hs.pick [] rfl).dnil⟩
   ·have hk := hk.lit 23 c15 rfl
    refine cnd_false hk rfl rfl ?_
    refine wp_skip ?_
    refine hK3 _ _ ?_
    apply wp_seq_k; intro K17 hK17
    apply wp_seq_k; intro K18 hK18
    apply wp_region_lit
    refine sf ⟨b2, 2, none⟩ rfl hk rfl rfl rfl fd51_2 rfl fun a hk => ?_
    refine sl rfl hk rfl rfl rfl ag49 (box_cell hs (k := 4) rfl rfl) fun a hk => ?_
    refine sle rfl hk rfl rfl rfl un49 fun a hk => ?_
    refine sm _ rfl hk rfl rfl rfl fun a hk => ?_
    show wpList _ _ _ [] _ _
    refine wpList_nil ?_
    refine hK18 _ _ ?_
    obtain ⟨o22, h23, HL24⟩ := bind_some H
    clear H
    obtain ⟨R25, hR25⟩ : ∃ R : Act → World → Prop, R = fun a w => o22 = .out () ∧ Kn [(1, (.pointer (some ⟨b2, 0, none⟩)))] 73 a ∧ Sat [] w0 w [(1, k0_0), (2, k0_1), (3, k0_2)] [(4, [(b2, .cells #[.slice A0_0 x0.Pos.length p0_0, .slice A0_1 x0.Stash.length p0_1, .slice A0_2 x0.Buckets.length p0_2] 51 (0, 0))])] := ⟨_, rfl⟩
    refine wp_cutq R25 ?_ ?_
    ·refine wp_block ?_
     obtain ⟨fu27, h23⟩ := loopO_some h23
     obtain ⟨I26, hI26⟩ : ∃ I : Nat → Act → World → Prop, I = fun fu a w => ∃ (u21 : Int), loopN (fun s => impl_OramOK.s0 x0 s) fu u21 = some o22 ∧ Kn [(1, (.pointer (some ⟨b2, 0, none⟩))), (25, (.slice A0_2 x0.Buckets.length p0_2)), (26, (.int .i64 (x0.Buckets.length : Int))), (27, (.int .i64 u21))] 73 a ∧ Sat [] w0 w [(1, k0_0), (2, k0_1), (3, k0_2)] [(4, [(b2, .cells #[.slice A0_0 x0.Pos.length p0_0, .slice A0_1 x0.Stash.length p0_1, .slice A0_2 x0.Buckets.length p0_2] 51 (0, 0))])] := ⟨_, rfl⟩
     refine wp_loop_ghost I26 fu27 ?_ ?_
     ·rw [hI26]
      exact ⟨0, h23, (hk.c 1 rfl (hk.c 25 rfl (hk.c 26 rfl (hk.c 27 rfl hk.k)))), (hs.pick [(4, 4)] rfl)⟩
     ·clear h23 hk hs
      intro fu27 a w hI0
      rw [hI26] at hI0
      obtain ⟨u21, hi, hk, hs⟩ := hI0
      obtain ⟨x28, H, h29⟩ := loop_round hi
      try dsimp only at H
      unfold impl_OramOK.s0 at H
      apply wp_seq_k; intro K30 hK30
      apply wp_region_lit
      refine sv (.bool (decide (u21 < (x0.Buckets.length : Int)))) hk rfl rfl rfl fun a hk => ?_
      show wpList _ _ _ [] _ _
      refine wpList_nil ?_
      refine hK30 _ _ ?_
      apply wp_seq_k; intro K31 hK31
      rcases cond_some H with ⟨c32, H⟩ | ⟨c32, H⟩
      ·have hk := hk.lit 28 c32 rfl
       refine cnd_true hk rfl rfl ?_
       refine wp_skip ?_
       refine hK31 _ _ ?_
       apply wp_seq_k; intro K33 hK33
       refine wp_block ?_
       apply wp_seq_k; intro K34 hK34
       apply wp_region_lit
       refine sm _ rfl hk rfl rfl rfl fun a hk => ?_
       rcases ite_some H with ⟨c35, H⟩ | ⟨_, H⟩
       rotate_left
       ·cases H
       obtain ⟨b36, q37, hAc35⟩ := (v0_2).some_ u21 c35.1 c35.2
       refine si rfl hk rfl rfl rfl rfl un49 sz26 c35.1 c35.2 hAc35 fun a hk => ?_
       obtain ⟨_, ⟨_, rfl, A39, p40, rfl, v41⟩, e38⟩ := (v0_2).at_ [] u21 c35.1 c35.2
       refine sl (v := (.slice A39 (x0.Buckets.getD u21.toNat []).length p40)) rfl hk rfl rfl rfl ag26 ((e38 0 _ rfl).cell (hs.hasD (k := 3) rfl)) fun a hk => ?_
       refine salx 7 hs rfl hk rfl rfl ze3 rfl fun b42 w a hk hs => ?_
       refine ssx (cs' := #[.int .i64 u21]) 7 hs rfl rfl hk rfl rfl rfl rfl sz3 rfl rfl rfl rfl fun w a hk hs => ?_
       refine sa _ rfl hk rfl rfl rfl fun a hk => ?_
       show wpList _ _ _ [] _ _
       refine wpList_nil ?_
       refine hK34 _ _ ?_
       apply wp_seq_k; intro K43 hK43
       obtain ⟨o46, h47, HL48⟩ := bind_some H
       clear H
       obtain ⟨R49, hR49⟩ : ∃ R : Act → World → Prop, R = fun a w => ∃ (u45 : Bool), u45 = o46 ∧ Kn [(1, (.pointer (some ⟨b2, 0, none⟩))), (25, (.slice A0_2 x0.Buckets.length p0_2)), (26, (.int .i64 (x0.Buckets.length : Int))), (27, (.int .i64 u21)), (40, (.bool u45))] 73 a ∧ Sat [] w0 w [(1, k0_0), (2, k0_1), (3, k0_2)] [(4, [(b2, .cells #[.slice A0_0 x0.Pos.length p0_0, .slice A0_1 x0.Stash.length p0_1, .slice A0_2 x0.Buckets.length p0_2] 51 (0, 0))])] := ⟨_, rfl⟩
       refine wp_cutq R49 ?_ ?_
       ·have H := h47
        apply wp_region_lit
        refine sm _ rfl hk rfl rfl rfl fun a hk => ?_
        refine sle rfl hk rfl rfl rfl un26 fun a hk => ?_
        refine sv (.bool (decide (((x0.Buckets.getD u21.toNat []).length : Int) > 2))) hk rfl rfl rfl fun a hk => ?_
        refine sm _ rfl hk rfl rfl rfl fun a hk => ?_
        rcases cond_some H with ⟨c50, H⟩ | ⟨c50, H⟩
        ·have hk := hk.lit 35 c50 rfl
         refine sk hk rfl rfl rfl fun a hk => ?_
         refine sk hk rfl rfl rfl fun a hk => ?_
         refine sk hk rfl rfl rfl fun a hk => ?_
         refine sk hk rfl rfl rfl fun a hk => ?_
         refine sv (.bool true) hk rfl rfl rfl fun a hk => ?_
         show wpList _ _ _ [] _ _
         refine wpList_nil ?_
         obtain rfl := Option.some.inj H
         show R49 _ _
         rw [hR49]
         exact ⟨true, rfl, (hk.c 1 rfl (hk.c 25 rfl (hk.c 26 rfl (hk.c 27 rfl (hk.c 40 rfl hk.k))))), (hs.pick [(4, 4)] rfl)⟩
        ·have hk := hk.lit 35 c50 rfl
         refine sm _ rfl hk rfl rfl rfl fun a hk => ?_
         refine smf (cs := [.pointer (some ⟨b42, 0, none⟩)]) rfl hk rfl rfl rfl fun a hk => ?_
         obtain ⟨y51, h52, H⟩ := bind_some H
         refine sc rfl en56 hk rfl rfl rfl (impl_areAll_impl_Block_t _ A39 p40 (x0.Buckets.getD u21.toNat []) _ v41 (hs.hasD (k := 3) rfl) 128 [.pointer (some ⟨b42, 0, none⟩)] en128 (fun z0 => impl_OramOK_c1.f z0 u21) [(b42, .cells #[.int .i64 u21] 3 (0, 0))] (fun w hz z0 r h => impl_OramOK_c1_t w z0 _ u21 hz r h) (hs.hasG (k := 7) rfl) _ h52) ?_
         rintro _ w ⟨rfl, hG⟩ a hk
         have hs := hs.call0 hG
         refine sv (.bool (!y51)) hk rfl rfl rfl fun a hk => ?_
         refine sv (.bool (!y51)) hk rfl rfl rfl fun a hk => ?_
         show wpList _ _ _ [] _ _
         refine wpList_nil ?_
         obtain rfl := Option.some.inj H
         show R49 _ _
         rw [hR49]
         exact ⟨(!y51), rfl, (hk.c 1 rfl (hk.c 25 rfl (hk.c 26 rfl (hk.c 27 rfl (hk.c 40 rfl hk.k))))), (hs.pick [(4, 4)] rfl)⟩
       ·intro a w hR0
        rw [hR49] at hR0
        obtain ⟨u45, rfl, hk, hs⟩ := hR0
        have H := HL48
        try dsimp only at H
        refine hK43 _ _ ?_
        rcases cond_some H with ⟨c53, H⟩ | ⟨c53, H⟩
        ·have hk := hk.lit 40 c53 rfl
         refine cnd_true hk rfl rfl ?_
         apply wp_seq_k; intro K54 hK54
         apply wp_region_lit
         refine sa _ rfl hk rfl rfl rfl fun a hk => ?_
         show wpList _ _ _ [] _ _
         refine wpList_nil ?_
         refine hK54 _ _ ?_
         refine wp_ret ?_
         obtain rfl := Option.some.inj H
         have ho22 := h29
         try dsimp only at ho22
         subst ho22
         have H := HL24
         try dsimp only at H
         obtain rfl := Option.some.inj H
         exact fin hk _ [(.bool false)] rfl ⟨rfl, trivial⟩ ⟨rfl, (hs.pick [] rfl).dnil⟩
        ·have hk := hk.lit 40 c53 rfl
         refine cnd_false hk rfl rfl ?_
         refine wp_skip ?_
         refine hK33 _ _ ?_
         apply wp_region_lit
         refine sv (.int .i64 (w64 (u21 + 1))) hk rfl rfl rfl fun a hk => ?_
         refine sm _ rfl hk rfl rfl rfl fun a hk => ?_
         show wpList _ _ _ [] _ _
         refine wpList_nil ?_
         obtain rfl := Option.some.inj H
         obtain ⟨m55, hmm55, h29⟩ := h29
         show ∃ n', n' < _ ∧ I26 n' _ _
         refine ⟨m55, hmm55, ?_⟩
         rw [hI26]
         exact ⟨(w64 (u21 + 1)), h29, (hk.c 1 rfl (hk.c 25 rfl (hk.c 26 rfl (hk.c 27 rfl hk.k)))), (hs.pick [(4, 4)] rfl)⟩
      ·have hk := hk.lit 28 c32 rfl
       refine cnd_false hk rfl rfl ?_
       refine wp_exit ?_
       obtain rfl := Option.some.inj H
       show R25 _ _
       rw [hR25]
       exact ⟨h29.symm, (hk.c 1 rfl hk.k), (hs.pick [(4, 4)] rfl)⟩
    ·intro a w hR0
     rw [hR25] at hR0
     obtain ⟨rfl, hk, hs⟩ := hR0
     have H := HL24
     try dsimp only at H
     refine hK17 _ _ ?_
     apply wp_seq_k; intro K56 hK56
     apply wp_region_lit
     refine sala 9 (Lay.bool) (m := 12) (z := false) (zc := [.bool false]) hs rfl hk rfl rfl ze147 (by exact ⟨rfl, rfl⟩) rfl rfl rfl fun b57 k58 w a hk o59 hs => ?_
     have lh60 : (List.replicate 12 (false : Bool)).length = 12 := List.length_replicate
     show wpList _ _ _ [] _ _
     refine wpList_nil ?_
     refine hK56 _ _ ?_
     apply wp_seq_k; intro K61 hK61
     apply wp_seq_k; intro K62 hK62
     apply wp_region_lit
     refine sln [.slice A0_0 x0.Pos.length p0_0, .slice A0_1 x0.Stash.length p0_1, .slice A0_2 x0.Buckets.length p0_2] rfl hk rfl rfl rfl ag51 sz51 (box_cells hs (k := 4) rfl) fun a hk => ?_
     obtain ⟨y63, h64, H⟩ := bind_some H
     refine sc rfl en130 hk rfl rfl rfl (impl_Oram_all_t _ x0 A0_0 p0_0 _ v0_0 (hs.hasD (k := 1) rfl) A0_1 p0_1 _ v0_1 (hs.hasD (k := 2) rfl) A0_2 p0_2 _ v0_2 (hs.hasD (k := 3) rfl) _ h64) ?_
     rintro _ w ⟨A65, p66, k67, rfl, o68, hG⟩ a hk
     have hs := hs.call0k hG [10] rfl
     refine sle rfl hk rfl rfl rfl un26 fun a hk => ?_
     refine sm _ rfl hk rfl rfl rfl fun a hk => ?_
     show wpList _ _ _ [] _ _
     refine wpList_nil ?_
     refine hK62 _ _ ?_
     obtain ⟨o76, h77, HL78⟩ := bind_some H
     clear H
     obtain ⟨R79, hR79⟩ : ∃ R : Act → World → Prop, R = fun a w => o76 = .out () ∧ Kn [] 73 a ∧ Sat [] w0 w [(1, k0_0), (2, k0_1), (3, k0_2)] [] := ⟨_, rfl⟩
     refine wp_cutq R79 ?_ ?_
     ·refine wp_block ?_
      obtain ⟨fu81, h77⟩ := loopO_some h77
      obtain ⟨I80, hI80⟩ : ∃ I : Nat → Act → World → Prop, I = fun fu a w => ∃ (u71 : List Bool) (u75 : Int) (k72 : Chunk), loopN (fun s => impl_OramOK.s1 x0 y63 s.1 s.2) fu (u71, u75) = some o76 ∧ Kn [(1, (.pointer (some ⟨b2, 0, none⟩))), (5, (.pointer (some ⟨b57, 0, none⟩))), (43, (.slice A65 y63.length p66)), (44, (.int .i64 (y63.length : Int))), (45, (.int .i64 u75))] 73 a ∧ Sat [] w0 w [(1, k0_0), (2, k0_1), (3, k0_2)] [(9, k72), (10, k67), (4, [(b2, .cells #[.slice A0_0 x0.Pos.length p0_0, .slice A0_1 x0.Stash.length p0_1, .slice A0_2 x0.Buckets.length p0_2] 51 (0, 0))])] ∧ Own Lay.bool 147 (some ⟨b57, 0, none⟩) 12 u71 k72 ∧ u71.length = 12 := ⟨_, rfl⟩
      refine wp_loop_ghost I80 fu81 ?_ ?_
      ·rw [hI80]
       exact ⟨(List.replicate 12 (false : Bool)), 0, _, h77, (hk.c 1 rfl (hk.c 5 rfl (hk.c 43 rfl (hk.c 44 rfl (hk.c 45 rfl hk.k))))), (hs.pick [(9, 9), (10, 10), (4, 4)] rfl), o59, lh60⟩
      ·clear h77 hk hs
       intro fu81 a w hI0
       rw [hI80] at hI0
       obtain ⟨u71, u75, k72, hi, hk, hs, o73, lh74⟩ := hI0
       obtain ⟨x82, H, h83⟩ := loop_round hi
       try dsimp only at H
       unfold impl_OramOK.s1 at H
       apply wp_seq_k; intro K84 hK84
       apply wp_region_lit
       refine sv (.bool (decide (u75 < (y63.length : Int)))) hk rfl rfl rfl fun a hk => ?_
       show wpList _ _ _ [] _ _
       refine wpList_nil ?_
       refine hK84 _ _ ?_
       apply wp_seq_k; intro K85 hK85
       rcases cond_some H with ⟨c86, H⟩ | ⟨c86, H⟩
       ·have hk := hk.lit 46 c86 rfl
        refine cnd_true hk rfl rfl ?_
        refine wp_skip ?_
        refine hK85 _ _ ?_
        apply wp_seq_k; intro K87 hK87
        refine wp_block ?_
        apply wp_seq_k; intro K88 hK88
        apply wp_region_lit
        rcases ite_some H with ⟨c89, H⟩ | ⟨_, H⟩
        rotate_left
        ·cases H
        obtain ⟨b90, q91, hAc89⟩ := (o68.view).some_ u75 c89.1 c89.2
        refine si rfl hk rfl rfl rfl rfl un26 sz81 c89.1 c89.2 hAc89 fun a hk => ?_
        obtain ⟨_, rfl, e92⟩ := (o68.view).at_ z_Block u75 c89.1 c89.2
        refine sln [.int .i64 ((y63.getD u75.toNat z_Block).Id), .int .i64 ((y63.getD u75.toNat z_Block).Leaf), .int .i64 ((y63.getD u75.toNat z_Block).Value)] rfl hk rfl rfl rfl ag81 sz81 (cells_at e92 (hs.hasG (k := 10) rfl)) fun a hk => ?_
        refine salx 12 hs rfl hk rfl rfl ze81 rfl fun b93 w a hk hs => ?_
        refine ssw 12 hs rfl rfl hk rfl rfl rfl rfl sz81 (by simp [Value.oneCell']) rfl fun w a hk hs => ?_
        show wpList _ _ _ [] _ _
        refine wpList_nil ?_
        refine hK88 _ _ ?_
        apply wp_seq_k; intro K94 hK94
        apply wp_seq_k; intro K95 hK95
        obtain ⟨o98, h99, HL100⟩ := bind_some H
        clear H
        obtain ⟨R101, hR101⟩ : ∃ R : Act → World → Prop, R = fun a w => ∃ (u97 : Bool), u97 = o98 ∧ Kn [(1, (.pointer (some ⟨b2, 0, none⟩))), (5, (.pointer (some ⟨b57, 0, none⟩))), (7, (.pointer (some ⟨b93, 0, none⟩))), (43, (.slice A65 y63.length p66)), (44, (.int .i64 (y63.length : Int))), (45, (.int .i64 u75)), (68, (.bool u97))] 73 a ∧ Sat [] w0 w [(1, k0_0), (2, k0_1), (3, k0_2)] [(9, k72), (10, k67), (4, [(b2, .cells #[.slice A0_0 x0.Pos.length p0_0, .slice A0_1 x0.Stash.length p0_1, .slice A0_2 x0.Buckets.length p0_2] 51 (0, 0))]), (12, [(b93, .cells #[.int .i64 ((y63.getD u75.toNat z_Block).Id), .int .i64 ((y63.getD u75.toNat z_Block).Leaf), .int .i64 ((y63.getD u75.toNat z_Block).Value)] 81 (0, 0))])] := ⟨_, rfl⟩
        refine wp_cutq R101 ?_ ?_
        ·have H := h99
         refine wp_region_mix [(0, true), (1, true), (2, true), (3, true), (4, true), (5, true), (6, true), (7, true), (8, true), (9, true), (10, true), (11, true), (12, true), (13, true), (14, true), (15, true), (16, true), (17, true), (18, true), (19, true)] mo (by kernel_rfl) hs fun _ => ?_
         have hs := hs.drew
         refine qst (.agg #[.int .i64 ((y63.getD u75.toNat z_Block).Id), .int .i64 ((y63.getD u75.toNat z_Block).Leaf), .int .i64 ((y63.getD u75.toNat z_Block).Value)]) hk rfl rfl rfl rfl (fun w hs => sln [.int .i64 ((y63.getD u75.toNat z_Block).Id), .int .i64 ((y63.getD u75.toNat z_Block).Leaf), .int .i64 ((y63.getD u75.toNat z_Block).Value)] rfl hk rfl rfl rfl ag81 sz81 (box_cells hs (k := 12) rfl) fun a hk => qe hk) fun a hk => ?_
         obtain ⟨y102, h103, H⟩ := bind_some H
         refine qst (.bool y102) hk rfl rfl rfl rfl (fun w hs => sc rfl en57 hk rfl rfl rfl (impl_isBlock_t _ (y63.getD u75.toNat z_Block) _ h103) fun _ w hR a hk => qc hR hk) fun a hk => ?_
         refine qst (.bool (!y102)) hk rfl rfl rfl rfl (fun w hs => sv (.bool (!y102)) hk rfl rfl rfl fun a hk => qe hk) fun a hk => ?_
         refine qst (.bool (!y102)) hk rfl rfl rfl rfl (fun w hs => sm _ rfl hk rfl rfl rfl fun a hk => qe hk) fun a hk => ?_
         rcases cond_some H with ⟨c104, H⟩ | ⟨c104, H⟩
         ·have hk := hk.lit 52 c104 rfl
          refine qsk hk rfl rfl rfl rfl fun a hk => ?_
          refine qsk hk rfl rfl rfl rfl fun a hk => ?_
          refine qsk hk rfl rfl rfl rfl fun a hk => ?_
          refine qsk hk rfl rfl rfl rfl fun a hk => ?_
          refine qsk hk rfl rfl rfl rfl fun a hk => ?_
          refine qsk hk rfl rfl rfl rfl fun a hk => ?_
          refine qsk hk rfl rfl rfl rfl fun a hk => ?_
          refine qsk hk rfl rfl rfl rfl fun a hk => ?_
          refine qsk hk rfl rfl rfl rfl fun a hk => ?_
          refine qst (.bool true) hk rfl rfl rfl rfl (fun w hs => sv (.bool true) hk rfl rfl rfl fun a hk => qe hk) fun a hk => ?_
          refine qst (.bool true) hk rfl rfl rfl rfl (fun w hs => sm _ rfl hk rfl rfl rfl fun a hk => qe hk) fun a hk => ?_
          refine qsk hk rfl rfl rfl rfl fun a hk => ?_
          refine qsk hk rfl rfl rfl rfl fun a hk => ?_
          refine qsk hk rfl rfl rfl rfl fun a hk => ?_
          refine qsk hk rfl rfl rfl rfl fun a hk => ?_
          refine qst (.bool true) hk rfl rfl rfl rfl (fun w hs => sv (.bool true) hk rfl rfl rfl fun a hk => qe hk) fun a hk => ?_
          refine wml_nil fun w hF _ => ?_
          have hs := hs.f hF
          obtain rfl := Option.some.inj H
          show R101 _ _
          rw [hR101]
          exact ⟨true, rfl, (hk.c 1 rfl (hk.c 5 rfl (hk.c 7 rfl (hk.c 43 rfl (hk.c 44 rfl (hk.c 45 rfl (hk.c 68 rfl hk.k))))))), (hs.pick [(9, 9), (10, 10), (4, 4), (12, 12)] rfl)⟩
         ·have hk := hk.lit 52 c104 rfl
          refine qst (.pointer (some ⟨b93, 1, none⟩)) hk rfl rfl rfl rfl (fun w hs => sf ⟨b93, 1, none⟩ rfl hk rfl rfl rfl fd81_1 rfl fun a hk => qe hk) fun a hk => ?_
          refine qst (.int .i64 ((y63.getD u75.toNat z_Block).Leaf)) hk rfl rfl rfl rfl (fun w hs => sl rfl hk rfl rfl rfl ag3 (box_cell hs (k := 12) rfl rfl) fun a hk => qe hk) fun a hk => ?_
          refine qst (.pointer (some ⟨b2, 0, none⟩)) hk rfl rfl rfl rfl (fun w hs => sf ⟨b2, 0, none⟩ rfl hk rfl rfl rfl fd51_0 rfl fun a hk => qe hk) fun a hk => ?_
          refine qst (.slice A0_0 x0.Pos.length p0_0) hk rfl rfl rfl rfl (fun w hs => sl rfl hk rfl rfl rfl ag31 (box_cell hs (k := 4) rfl rfl) fun a hk => qe hk) fun a hk => ?_
          refine qst (.pointer (some ⟨b93, 0, none⟩)) hk rfl rfl rfl rfl (fun w hs => sf ⟨b93, 0, none⟩ rfl hk rfl rfl rfl fd81_0 rfl fun a hk => qe hk) fun a hk => ?_
          refine qst (.int .i64 ((y63.getD u75.toNat z_Block).Id)) hk rfl rfl rfl rfl (fun w hs => sl rfl hk rfl rfl rfl ag3 (box_cell hs (k := 12) rfl rfl) fun a hk => qe hk) fun a hk => ?_
          rcases ite_some H with ⟨c105, H⟩ | ⟨_, H⟩
          rotate_left
          ·cases H
          obtain ⟨b106, q107, hAc105⟩ := (v0_0).some_ ((y63.getD u75.toNat z_Block).Id) c105.1 c105.2
          refine qst (.pointer (some (padd A0_0 (((y63.getD u75.toNat z_Block).Id).toNat * 1)))) hk rfl rfl rfl rfl (fun w hs => si rfl hk rfl rfl rfl rfl un31 sz3 c105.1 c105.2 hAc105 fun a hk => qe hk) fun a hk => ?_
          obtain ⟨_, rfl, e108⟩ := (v0_0).at_ 0 ((y63.getD u75.toNat z_Block).Id) c105.1 c105.2
          refine qst (.int .i64 (x0.Pos.getD ((y63.getD u75.toNat z_Block).Id).toNat 0)) hk rfl rfl rfl rfl (fun w hs => sl (v := (.int .i64 (x0.Pos.getD ((y63.getD u75.toNat z_Block).Id).toNat 0))) rfl hk rfl rfl rfl ag3 ((e108 0 _ rfl).cell (hs.hasD (k := 1) rfl)) fun a hk => qe hk) fun a hk => ?_
          refine qst (.bool (((y63.getD u75.toNat z_Block).Leaf) != (x0.Pos.getD ((y63.getD u75.toNat z_Block).Id).toNat 0))) hk rfl rfl rfl rfl (fun w hs => sv (.bool (((y63.getD u75.toNat z_Block).Leaf) != (x0.Pos.getD ((y63.getD u75.toNat z_Block).Id).toNat 0))) hk rfl rfl rfl fun a hk => qe hk) fun a hk => ?_
          refine qst (.bool (((y63.getD u75.toNat z_Block).Leaf) != (x0.Pos.getD ((y63.getD u75.toNat z_Block).Id).toNat 0))) hk rfl rfl rfl rfl (fun w hs => sv (.bool (((y63.getD u75.toNat z_Block).Leaf) != (x0.Pos.getD ((y63.getD u75.toNat z_Block).Id).toNat 0))) hk rfl rfl rfl fun a hk => qe hk) fun a hk => ?_
          refine qst (.bool (((y63.getD u75.toNat z_Block).Leaf) != (x0.Pos.getD ((y63.getD u75.toNat z_Block).Id).toNat 0))) hk rfl rfl rfl rfl (fun w hs => sm _ rfl hk rfl rfl rfl fun a hk => qe hk) fun a hk => ?_
          rcases cond_some H with ⟨c109, H⟩ | ⟨c109, H⟩
          ·have hk := hk.lit 63 c109 rfl
           refine qsk hk rfl rfl rfl rfl fun a hk => ?_
           refine qsk hk rfl rfl rfl rfl fun a hk => ?_
           refine qsk hk rfl rfl rfl rfl fun a hk => ?_
           refine qsk hk rfl rfl rfl rfl fun a hk => ?_
           refine qst (.bool true) hk rfl rfl rfl rfl (fun w hs => sv (.bool true) hk rfl rfl rfl fun a hk => qe hk) fun a hk => ?_
           refine wml_nil fun w hF _ => ?_
           have hs := hs.f hF
           obtain rfl := Option.some.inj H
           show R101 _ _
           rw [hR101]
           exact ⟨true, rfl, (hk.c 1 rfl (hk.c 5 rfl (hk.c 7 rfl (hk.c 43 rfl (hk.c 44 rfl (hk.c 45 rfl (hk.c 68 rfl hk.k))))))), (hs.pick [(9, 9), (10, 10), (4, 4), (12, 12)] rfl)⟩
          ·have hk := hk.lit 63 c109 rfl
           refine qst (.pointer (some ⟨b93, 0, none⟩)) hk rfl rfl rfl rfl (fun w hs => sf ⟨b93, 0, none⟩ rfl hk rfl rfl rfl fd81_0 rfl fun a hk => qe hk) fun a hk => ?_
           refine qst (.int .i64 ((y63.getD u75.toNat z_Block).Id)) hk rfl rfl rfl rfl (fun w hs => sl rfl hk rfl rfl rfl ag3 (box_cell hs (k := 12) rfl rfl) fun a hk => qe hk) fun a hk => ?_
           rcases ite_some H with ⟨c110, H⟩ | ⟨_, H⟩
           rotate_left
           ·cases H
           obtain ⟨b111, q112, hAc110⟩ := (o73.view).some_ ((y63.getD u75.toNat z_Block).Id) c110.1 (by rw [lh74]; exact c110.2)
           refine qst (.pointer (some (padd (some ⟨b57, 0, none⟩) (((y63.getD u75.toNat z_Block).Id).toNat * 1)))) hk rfl rfl rfl rfl (fun w hs => sia rfl hk rfl rfl rfl rfl un147 sz4 c110.1 c110.2 hAc110 fun a hk => qe hk) fun a hk => ?_
           obtain ⟨_, rfl, e113⟩ := (o73.view).at_ false ((y63.getD u75.toNat z_Block).Id) c110.1 (by rw [lh74]; exact c110.2)
           refine qst (.bool (u71.getD ((y63.getD u75.toNat z_Block).Id).toNat false)) hk rfl rfl rfl rfl (fun w hs => sl (v := (.bool (u71.getD ((y63.getD u75.toNat z_Block).Id).toNat false))) rfl hk rfl rfl rfl ag4 ((e113 0 _ rfl).cell (hs.hasG (k := 9) rfl)) fun a hk => qe hk) fun a hk => ?_
           refine qst (.bool (u71.getD ((y63.getD u75.toNat z_Block).Id).toNat false)) hk rfl rfl rfl rfl (fun w hs => sv (.bool (u71.getD ((y63.getD u75.toNat z_Block).Id).toNat false)) hk rfl rfl rfl fun a hk => qe hk) fun a hk => ?_
           refine wml_nil fun w hF _ => ?_
           have hs := hs.f hF
           obtain rfl := Option.some.inj H
           show R101 _ _
           rw [hR101]
           exact ⟨(u71.getD ((y63.getD u75.toNat z_Block).Id).toNat false), rfl, (hk.c 1 rfl (hk.c 5 rfl (hk.c 7 rfl (hk.c 43 rfl (hk.c 44 rfl (hk.c 45 rfl (hk.c 68 rfl hk.k))))))), (hs.pick [(9, 9), (10, 10), (4, 4), (12, 12)] rfl)⟩
        ·intro a w hR0
         rw [hR101] at hR0
         obtain ⟨u97, rfl, hk, hs⟩ := hR0
         have H := HL100
         try dsimp only at H
         refine hK95 _ _ ?_
         rcases cond_some H with ⟨c114, H⟩ | ⟨c114, H⟩
         ·have hk := hk.lit 68 c114 rfl
          refine cnd_true hk rfl rfl ?_
          apply wp_seq_k; intro K115 hK115
          apply wp_region_lit
          refine sa _ rfl hk rfl rfl rfl fun a hk => ?_
          show wpList _ _ _ [] _ _
          refine wpList_nil ?_
          refine hK115 _ _ ?_
          refine wp_ret ?_
          obtain rfl := Option.some.inj H
          have ho76 := h83
          try dsimp only at ho76
          subst ho76
          have H := HL78
          try dsimp only at H
          obtain rfl := Option.some.inj H
          exact fin hk _ [(.bool false)] rfl ⟨rfl, trivial⟩ ⟨rfl, (hs.pick [] rfl).dnil⟩
         ·have hk := hk.lit 68 c114 rfl
          refine cnd_false hk rfl rfl ?_
          refine wp_skip ?_
          refine hK94 _ _ ?_
          apply wp_region_lit
          refine sf ⟨b93, 0, none⟩ rfl hk rfl rfl rfl fd81_0 rfl fun a hk => ?_
          refine sl rfl hk rfl rfl rfl ag3 (box_cell hs (k := 12) rfl rfl) fun a hk => ?_
          rcases ite_some H with ⟨c116, H⟩ | ⟨_, H⟩
          rotate_left
          ·cases H
          obtain ⟨b117, q118, hAc116⟩ := (o73.view).some_ ((y63.getD u75.toNat z_Block).Id) c116.1 (by rw [lh74]; exact c116.2)
          refine sia rfl hk rfl rfl rfl rfl un147 sz4 c116.1 c116.2 hAc116 fun a hk => ?_
          refine so (j := 0) 9 false true hs rfl o73 c116.1 (by rw [lh74]; exact c116.2) rfl hk rfl rfl rfl rfl rfl sz4 (by simp [Value.cells, Value.oneCell']) (Nat.le_of_ble_eq_true rfl) (fun _ _ h => ⟨by rw [h.1]; rfl, h.2⟩) fun k119 w a hk o120 hs => ?_
          have lh121 : (u71.set ((y63.getD u75.toNat z_Block).Id).toNat true).length = 12 := by rw [List.length_set]; exact lh74
          show wpList _ _ _ [] _ _
          refine wpList_nil ?_
          refine hK87 _ _ ?_
          apply wp_region_lit
          refine sv (.int .i64 (w64 (u75 + 1))) hk rfl rfl rfl fun a hk => ?_
          refine sm _ rfl hk rfl rfl rfl fun a hk => ?_
          show wpList _ _ _ [] _ _
          refine wpList_nil ?_
          obtain rfl := Option.some.inj H
          obtain ⟨m122, hmm122, h83⟩ := h83
          show ∃ n', n' < _ ∧ I80 n' _ _
          refine ⟨m122, hmm122, ?_⟩
          rw [hI80]
          exact ⟨(u71.set ((y63.getD u75.toNat z_Block).Id).toNat true), (w64 (u75 + 1)), _, h83, (hk.c 1 rfl (hk.c 5 rfl (hk.c 43 rfl (hk.c 44 rfl (hk.c 45 rfl hk.k))))), (hs.pick [(9, 9), (10, 10), (4, 4)] rfl), o120, lh121⟩
       ·have hk := hk.lit 46 c86 rfl
        refine cnd_false hk rfl rfl ?_
        refine wp_exit ?_
        obtain rfl := Option.some.inj H
        show R79 _ _
        rw [hR79]
        exact ⟨h83.symm, hk.k, (hs.pick [] rfl)⟩
     ·intro a w hR0
      rw [hR79] at hR0
      obtain ⟨rfl, hk, hs⟩ := hR0
      have H := HL78
      try dsimp only at H
      refine hK61 _ _ ?_
      apply wp_seq_k; intro K123 hK123
      apply wp_region_lit
      refine sa _ rfl hk rfl rfl rfl fun a hk => ?_
      show wpList _ _ _ [] _ _
      refine wpList_nil ?_
      refine hK123 _ _ ?_
      refine wp_ret ?_
      obtain rfl := Option.some.inj H
      exact fin hk _ [(.bool true)] rfl ⟨rfl, trivial⟩ ⟨rfl, (hs.pick [] rfl).dnil⟩

noncomputable def impl_EncOK.s0 (x0 : S_Enc) (u11 : Int) (u17 : List Int) : Option ((Int × (List Int)) ⊕ Ex (Unit) (Bool)) :=
  (bif (decide (u11 < (x0.Keys.length : Int))) then (if 0 ≤ u11 ∧ u11 < (x0.Keys.length : Int) then (bif ((x0.Keys.getD u11.toNat 0) == 0) then (some (.inl ((w64 (u11 + 1)), u17))) else ((((impl_isKey.f (x0.Keys.getD u11.toNat 0)).bind fun y51 => (bif (!y51) then (some true) else (some (u17.contains (x0.Keys.getD u11.toNat 0))))) : Option (Bool)).bind fun u46 => (bif u46 then (some (.inr (.ret false))) else (some (.inl ((w64 (u11 + 1)), (if u17.contains (x0.Keys.getD u11.toNat 0) then u17 else u17 ++ [(x0.Keys.getD u11.toNat 0)]))))))) else none) else (some (.inr (.out ()))))
noncomputable def impl_EncOK.f (x0 : S_Enc) : Option (Bool) :=
  ((loopO (fun s => impl_EncOK.s0 x0 s.1 s.2) (0, ([] : List Int))).bind fun o => match o with | .out _ => (((bif ((x0.Keys.length : Int) == 11) then ((impl_OramOK.f x0.Oram).bind fun y67 => (some y67)) else (some false)) : Option (Bool)).bind fun u61 => (some u61)) | .ret r => (some r))
set_option maxRecDepth 100000 in
set_option maxHeartbeats 0 in
theorem impl_EncOK_t (w0 : World) (x0 : S_Enc) (A0_0 : Option Addr) (p0_0 : Nat) (k0_0 : Chunk) (v0_0 : View (Lay.int .i64) A0_0 p0_0 x0.Keys k0_0) (w0_0 : Has w0 k0_0) (A0_1 : Option Addr) (p0_1 : Nat) (k0_1 : Chunk) (v0_1 : View (Lay.int .i64) A0_1 p0_1 x0.Oram.Pos k0_1) (w0_1 : Has w0 k0_1) (A0_2 : Option Addr) (p0_2 : Nat) (k0_2 : Chunk) (v0_2 : View L_Block A0_2 p0_2 x0.Oram.Stash k0_2) (w0_2 : Has w0 k0_2) (A0_3 : Option Addr) (p0_3 : Nat) (k0_3 : Chunk) (v0_3 : View (Lay.sl L_Block 81) A0_3 p0_3 x0.Oram.Buckets k0_3) (w0_3 : Has w0 k0_3) (r : Bool) (H : impl_EncOK.f x0 = some r) :
    Calls Try.prog 32 #[.agg #[.slice A0_0 x0.Keys.length p0_0, .slice A0_1 x0.Oram.Pos.length p0_1, .slice A0_2 x0.Oram.Stash.length p0_2, .slice A0_3 x0.Oram.Buckets.length p0_3]] w0 (Ret (fun v w => v = .bool r ∧ Sat [] w0 w [] [])) := by
  have hs : Sat [] w0 w0 [(1, k0_0), (2, k0_1), (3, k0_2), (4, k0_3)] [] := Sat.init w0 [(1, k0_0), (2, k0_1), (3, k0_2), (4, k0_3)] [] (by simp only [List.mem_cons, List.not_mem_nil, or_false]; rintro x (rfl | rfl | rfl | rfl) <;> assumption) (by simp) List.nodup_nil (by simp [blks])
  unfold impl_EncOK.f at H
  refine enter Try.func32 rfl Try.ntmps32 rfl fun a hk => ?_
  apply wp_seq_k; intro K1 hK1
  apply wp_region_lit
  refine sbx 5 hs rfl hk rfl rfl rfl rfl fun b2 w a hk hs => ?_
  refine sa _ rfl hk rfl rfl rfl fun a hk => ?_
  show wpList _ _ _ [] _ _
  refine wpList_nil ?_
  refine hK1 _ _ ?_
  apply wp_seq_k; intro K3 hK3
  apply wp_region_lit
  refine smm 6 (t := 112) (L := Lay.int .i64) (E := 3) hs rfl hk rfl rfl fun b4 k5 w a hk o6 hs => ?_
  refine sa _ rfl hk rfl rfl rfl fun a hk => ?_
  show wpList _ _ _ [] _ _
  refine wpList_nil ?_
  refine hK3 _ _ ?_
  apply wp_seq_k; intro K7 hK7
  apply wp_seq_k; intro K8 hK8
  apply wp_region_lit
  refine sf ⟨b2, 0, none⟩ rfl hk rfl rfl rfl fd53_0 rfl fun a hk => ?_
  refine sl rfl hk rfl rfl rfl ag31 (box_cell hs (k := 5) rfl rfl) fun a hk => ?_
  refine sle rfl hk rfl rfl rfl un31 fun a hk => ?_
  refine sm _ rfl hk rfl rfl rfl fun a hk => ?_
  show wpList _ _ _ [] _ _
  refine wpList_nil ?_
  refine hK8 _ _ ?_
  obtain ⟨o22, h23, HL24⟩ := bind_some H
  clear H
  obtain ⟨R25, hR25⟩ : ∃ R : Act → World → Prop, R = fun a w => o22 = .out () ∧ Kn [(1, (.pointer (some ⟨b2, 0, none⟩)))] 36 a ∧ Sat [] w0 w [(1, k0_0), (2, k0_1), (3, k0_2), (4, k0_3)] [(5, [(b2, .cells #[.slice A0_0 x0.Keys.length p0_0, .slice A0_1 x0.Oram.Pos.length p0_1, .slice A0_2 x0.Oram.Stash.length p0_2, .slice A0_3 x0.Oram.Buckets.length p0_3] 53 (0, 0))])] := ⟨_, rfl⟩
  refine wp_cutq R25 ?_ ?_
  ·refine wp_block ?_
   obtain ⟨fu27, h23⟩ := loopO_some h23
   obtain ⟨I26, hI26⟩ : ∃ I : Nat → Act → World → Prop, I = fun fu a w => ∃ (u11 : Int) (u17 : List Int) (A20 : Option Addr) (p21 : Nat) (k18 : Chunk), loopN (fun s => impl_EncOK.s0 x0 s.1 s.2) fu (u11, u17) = some o22 ∧ Kn [(1, (.pointer (some ⟨b2, 0, none⟩))), (3, (.map (mref A20))), (8, (.slice A0_0 x0.Keys.length p0_0)), (9, (.int .i64 (x0.Keys.length : Int))), (10, (.int .i64 u11))] 36 a ∧ Sat [] w0 w [(1, k0_0), (2, k0_1), (3, k0_2), (4, k0_3)] [(6, k18), (5, [(b2, .cells #[.slice A0_0 x0.Keys.length p0_0, .slice A0_1 x0.Oram.Pos.length p0_1, .slice A0_2 x0.Oram.Stash.length p0_2, .slice A0_3 x0.Oram.Buckets.length p0_3] 53 (0, 0))])] ∧ OwnK (Lay.int .i64) 3 A20 p21 u17 k18 := ⟨_, rfl⟩
   refine wp_loop_ghost I26 fu27 ?_ ?_
   ·rw [hI26]
    exact ⟨0, ([] : List Int), (some ⟨b4, 0, none⟩), 0, _, h23, (hk.c 1 rfl (hk.c 3 rfl (hk.c 8 rfl (hk.c 9 rfl (hk.c 10 rfl hk.k))))), (hs.pick [(6, 6), (5, 5)] rfl), o6⟩
   ·clear h23 hk hs
    intro fu27 a w hI0
    rw [hI26] at hI0
    obtain ⟨u11, u17, A20, p21, k18, hi, hk, hs, o19⟩ := hI0
    obtain ⟨x28, H, h29⟩ := loop_round hi
    try dsimp only at H
    unfold impl_EncOK.s0 at H
    apply wp_seq_k; intro K30 hK30
    apply wp_region_lit
    refine sv (.bool (decide (u11 < (x0.Keys.length : Int)))) hk rfl rfl rfl fun a hk => ?_
    show wpList _ _ _ [] _ _
    refine wpList_nil ?_
    refine hK30 _ _ ?_
    apply wp_seq_k; intro K31 hK31
    rcases cond_some H with ⟨c32, H⟩ | ⟨c32, H⟩
    ·have hk := hk.lit 11 c32 rfl
     refine cnd_true hk rfl rfl ?_
     refine wp_skip ?_
     refine hK31 _ _ ?_
     apply wp_seq_k; intro K33 hK33
     refine wp_block ?_
     apply wp_seq_k; intro K34 hK34
     apply wp_region_lit
     rcases ite_some H with ⟨c35, H⟩ | ⟨_, H⟩
     rotate_left
     ·cases H
     obtain ⟨b36, q37, hAc35⟩ := (v0_0).some_ u11 c35.1 c35.2
     refine si rfl hk rfl rfl rfl rfl un31 sz3 c35.1 c35.2 hAc35 fun a hk => ?_
     obtain ⟨_, rfl, e38⟩ := (v0_0).at_ 0 u11 c35.1 c35.2
     refine sl (v := (.int .i64 (x0.Keys.getD u11.toNat 0))) rfl hk rfl rfl rfl ag3 ((e38 0 _ rfl).cell (hs.hasD (k := 1) rfl)) fun a hk => ?_
     refine sa _ rfl hk rfl rfl rfl fun a hk => ?_
     show wpList _ _ _ [] _ _
     refine wpList_nil ?_
     refine hK34 _ _ ?_
     apply wp_seq_k; intro K39 hK39
     apply wp_seq_k; intro K40 hK40
     apply wp_region_lit
     refine sm _ rfl hk rfl rfl rfl fun a hk => ?_
     refine sv (.bool ((x0.Keys.getD u11.toNat 0) == 0)) hk rfl rfl rfl fun a hk => ?_
     show wpList _ _ _ [] _ _
     refine wpList_nil ?_
     refine hK40 _ _ ?_
     rcases cond_some H with ⟨c41, H⟩ | ⟨c41, H⟩
     ·have hk := hk.lit 15 c41 rfl
      refine cnd_true hk rfl rfl ?_
      refine wp_exit ?_
      refine hK33 _ _ ?_
      apply wp_region_lit
      refine sv (.int .i64 (w64 (u11 + 1))) hk rfl rfl rfl fun a hk => ?_
      refine sm _ rfl hk rfl rfl rfl fun a hk => ?_
      show wpList _ _ _ [] _ _
      refine wpList_nil ?_
      obtain rfl := Option.some.inj H
      obtain ⟨m42, hmm42, h29⟩ := h29
      show ∃ n', n' < _ ∧ I26 n' _ _
      refine ⟨m42, hmm42, ?_⟩
      rw [hI26]
      exact ⟨(w64 (u11 + 1)), u17, A20, p21, _, h29, (hk.c 1 rfl (hk.c 3 rfl (hk.c 8 rfl (hk.c 9 rfl (hk.c 10 rfl hk.k))))), (hs.pick [(6, 6), (5, 5)] rfl), o19⟩
     ·have hk := hk.lit 15 c41 rfl
      refine cnd_false hk rfl rfl ?_
      refine wp_skip ?_
      refine hK39 _ _ ?_
      apply wp_seq_k; intro K43 hK43
      apply wp_seq_k; intro K44 hK44
      obtain ⟨o47, h48, HL49⟩ := bind_some H
      clear H
      obtain ⟨R50, hR50⟩ : ∃ R : Act → World → Prop, R = fun a w => ∃ (u46 : Bool), u46 = o47 ∧ Kn [(1, (.pointer (some ⟨b2, 0, none⟩))), (3, (.map (mref A20))), (5, (.int .i64 (x0.Keys.getD u11.toNat 0))), (8, (.slice A0_0 x0.Keys.length p0_0)), (9, (.int .i64 (x0.Keys.length : Int))), (10, (.int .i64 u11)), (23, (.bool u46))] 36 a ∧ Sat [] w0 w [(1, k0_0), (2, k0_1), (3, k0_2), (4, k0_3)] [(6, k18), (5, [(b2, .cells #[.slice A0_0 x0.Keys.length p0_0, .slice A0_1 x0.Oram.Pos.length p0_1, .slice A0_2 x0.Oram.Stash.length p0_2, .slice A0_3 x0.Oram.Buckets.length p0_3] 53 (0, 0))])] := ⟨_, rfl⟩
      refine wp_cutq R50 ?_ ?_
      ·have H := h48
       apply wp_region_lit
       refine sm _ rfl hk rfl rfl rfl fun a hk => ?_
       obtain ⟨y51, h52, H⟩ := bind_some H
       refine sc rfl en83 hk rfl rfl rfl (impl_isKey_t _ (x0.Keys.getD u11.toNat 0) _ h52) ?_
       rintro _ w ⟨rfl, hG⟩ a hk
       have hs := hs.call0 hG
       refine sv (.bool (!y51)) hk rfl rfl rfl fun a hk => ?_
       refine sm _ rfl hk rfl rfl rfl fun a hk => ?_
       rcases cond_some H with ⟨c53, H⟩ | ⟨c53, H⟩
       ·have hk := hk.lit 19 c53 rfl
        refine sk hk rfl rfl rfl fun a hk => ?_
        refine sk hk rfl rfl rfl fun a hk => ?_
        refine sk hk rfl rfl rfl fun a hk => ?_
        refine sv (.bool true) hk rfl rfl rfl fun a hk => ?_
        show wpList _ _ _ [] _ _
        refine wpList_nil ?_
        obtain rfl := Option.some.inj H
        show R50 _ _
        rw [hR50]
        exact ⟨true, rfl, (hk.c 1 rfl (hk.c 3 rfl (hk.c 5 rfl (hk.c 8 rfl (hk.c 9 rfl (hk.c 10 rfl (hk.c 23 rfl hk.k))))))), (hs.pick [(6, 6), (5, 5)] rfl)⟩
       ·have hk := hk.lit 19 c53 rfl
        refine sm _ rfl hk rfl rfl rfl fun a hk => ?_
        refine sm _ rfl hk rfl rfl rfl fun a hk => ?_
        refine slk 6 (xs := u17) hs rfl o19 rfl hk rfl rfl rfl rfl un112 un3 ze4 fun a hk => ?_
        refine sv (.bool (u17.contains (x0.Keys.getD u11.toNat 0))) hk rfl rfl rfl fun a hk => ?_
        show wpList _ _ _ [] _ _
        refine wpList_nil ?_
        obtain rfl := Option.some.inj H
        show R50 _ _
        rw [hR50]
        exact ⟨(u17.contains (x0.Keys.getD u11.toNat 0)), rfl, (hk.c 1 rfl (hk.c 3 rfl (hk.c 5 rfl (hk.c 8 rfl (hk.c 9 rfl (hk.c 10 rfl (hk.c 23 rfl hk.k))))))), (hs.pick [(6, 6), (5, 5)] rfl)⟩
      ·intro a w hR0
       rw [hR50] at hR0
       obtain ⟨u46, rfl, hk, hs⟩ := hR0
       have H := HL49
       try dsimp only at H
       refine hK44 _ _ ?_
       rcases cond_some H with ⟨c54, H⟩ | ⟨c54, H⟩
       ·have hk := hk.lit 23 c54 rfl
        refine cnd_true hk rfl rfl ?_
        apply wp_seq_k; intro K55 hK55
        apply wp_region_lit
        refine sa _ rfl hk rfl rfl rfl fun a hk => ?_
        show wpList _ _ _ [] _ _
        refine wpList_nil ?_
        refine hK55 _ _ ?_
        refine wp_ret ?_
        obtain rfl := Option.some.inj H
        have ho22 := h29
        try dsimp only at ho22
        subst ho22
        have H := HL24
        try dsimp only at H
        obtain rfl := Option.some.inj H
        exact fin hk _ [(.bool false)] rfl ⟨rfl, trivial⟩ ⟨rfl, (hs.pick [] rfl).dnil⟩
       ·have hk := hk.lit 23 c54 rfl
        refine cnd_false hk rfl rfl ?_
        refine wp_skip ?_
        refine hK43 _ _ ?_
        apply wp_region_lit
        refine sm _ rfl hk rfl rfl rfl fun a hk => ?_
        refine sm _ rfl hk rfl rfl rfl fun a hk => ?_
        refine smu 6 (xs := u17) hs rfl o19 rfl hk rfl rfl rfl rfl rfl un112 un3 fun k56 w a hk o57 hs => ?_
        show wpList _ _ _ [] _ _
        refine wpList_nil ?_
        refine hK33 _ _ ?_
        apply wp_region_lit
        refine sv (.int .i64 (w64 (u11 + 1))) hk rfl rfl rfl fun a hk => ?_
        refine sm _ rfl hk rfl rfl rfl fun a hk => ?_
        show wpList _ _ _ [] _ _
        refine wpList_nil ?_
        obtain rfl := Option.some.inj H
        obtain ⟨m58, hmm58, h29⟩ := h29
        show ∃ n', n' < _ ∧ I26 n' _ _
        refine ⟨m58, hmm58, ?_⟩
        rw [hI26]
        exact ⟨(w64 (u11 + 1)), (if u17.contains (x0.Keys.getD u11.toNat 0) then u17 else u17 ++ [(x0.Keys.getD u11.toNat 0)]), A20, p21, _, h29, (hk.c 1 rfl (hk.c 3 rfl (hk.c 8 rfl (hk.c 9 rfl (hk.c 10 rfl hk.k))))), (hs.pick [(6, 6), (5, 5)] rfl), o57⟩
    ·have hk := hk.lit 11 c32 rfl
     refine cnd_false hk rfl rfl ?_
     refine wp_exit ?_
     obtain rfl := Option.some.inj H
     show R25 _ _
     rw [hR25]
     exact ⟨h29.symm, (hk.c 1 rfl hk.k), (hs.pick [(5, 5)] rfl)⟩
  ·intro a w hR0
   rw [hR25] at hR0
   obtain ⟨rfl, hk, hs⟩ := hR0
   have H := HL24
   try dsimp only at H
   refine hK7 _ _ ?_
   apply wp_seq_k; intro K59 hK59
   obtain ⟨o62, h63, HL64⟩ := bind_some H
   clear H
   obtain ⟨R65, hR65⟩ : ∃ R : Act → World → Prop, R = fun a w => ∃ (u61 : Bool), u61 = o62 ∧ Kn [(2, (.bool u61))] 36 a ∧ Sat [] w0 w [(1, k0_0), (2, k0_1), (3, k0_2), (4, k0_3)] [] := ⟨_, rfl⟩
   refine wp_cutq R65 ?_ ?_
   ·have H := h63
    apply wp_region_lit
    refine sf ⟨b2, 0, none⟩ rfl hk rfl rfl rfl fd53_0 rfl fun a hk => ?_
    refine sl rfl hk rfl rfl rfl ag31 (box_cell hs (k := 5) rfl rfl) fun a hk => ?_
    refine sle rfl hk rfl rfl rfl un31 fun a hk => ?_
    refine sv (.bool ((x0.Keys.length : Int) == 11)) hk rfl rfl rfl fun a hk => ?_
    refine sm _ rfl hk rfl rfl rfl fun a hk => ?_
    rcases cond_some H with ⟨c66, H⟩ | ⟨c66, H⟩
    ·have hk := hk.lit 31 c66 rfl
     refine sf ⟨b2, 1, none⟩ rfl hk rfl rfl rfl fd53_1 rfl fun a hk => ?_
     refine sln [.slice A0_1 x0.Oram.Pos.length p0_1, .slice A0_2 x0.Oram.Stash.length p0_2, .slice A0_3 x0.Oram.Buckets.length p0_3] rfl hk rfl rfl rfl ag51 sz51 (box_part hs (k := 5) rfl rfl) fun a hk => ?_
     obtain ⟨y67, h68, H⟩ := bind_some H
     refine sc rfl en84 hk rfl rfl rfl (impl_OramOK_t _ x0.Oram A0_1 p0_1 _ v0_1 (hs.hasD (k := 2) rfl) A0_2 p0_2 _ v0_2 (hs.hasD (k := 3) rfl) A0_3 p0_3 _ v0_3 (hs.hasD (k := 4) rfl) _ h68) ?_
     rintro _ w ⟨rfl, hG⟩ a hk
     have hs := hs.call0 hG
     refine sv (.bool y67) hk rfl rfl rfl fun a hk => ?_
     refine sa _ rfl hk rfl rfl rfl fun a hk => ?_
     show wpList _ _ _ [] _ _
     refine wpList_nil ?_
     obtain rfl := Option.some.inj H
     show R65 _ _
     rw [hR65]
     exact ⟨y67, rfl, (hk.c 2 rfl hk.k), (hs.pick [] rfl)⟩
    ·have hk := hk.lit 31 c66 rfl
     refine sk hk rfl rfl rfl fun a hk => ?_
     refine sk hk rfl rfl rfl fun a hk => ?_
     refine sk hk rfl rfl rfl fun a hk => ?_
     refine sv (.bool false) hk rfl rfl rfl fun a hk => ?_
     refine sa _ rfl hk rfl rfl rfl fun a hk => ?_
     show wpList _ _ _ [] _ _
     refine wpList_nil ?_
     obtain rfl := Option.some.inj H
     show R65 _ _
     rw [hR65]
     exact ⟨false, rfl, (hk.c 2 rfl hk.k), (hs.pick [] rfl)⟩
   ·intro a w hR0
    rw [hR65] at hR0
    obtain ⟨u61, rfl, hk, hs⟩ := hR0
    have H := HL64
    try dsimp only at H
    refine hK59 _ _ ?_
    refine wp_ret ?_
    obtain rfl := Option.some.inj H
    exact fin hk _ [(.bool u61)] rfl ⟨rfl, trivial⟩ ⟨rfl, (hs.pick [] rfl).dnil⟩

noncomputable def slices_IndexFunc_impl_Result_impl_Result.s0 (l0 : List S_Result) (q1 : S_Result → Option (Bool)) (u6 : Int) : Option ((Int) ⊕ Ex (Unit) (Int)) :=
  (bif (decide (u6 < (l0.length : Int))) then (if 0 ≤ u6 ∧ u6 < (l0.length : Int) then ((q1 (l0.getD u6.toNat z_Result)).bind fun y28 => (bif y28 then (some (.inr (.ret u6))) else (some (.inl (w64 (u6 + 1)))))) else none) else (some (.inr (.out ()))))
noncomputable def slices_IndexFunc_impl_Result_impl_Result.f (l0 : List S_Result) (q1 : S_Result → Option (Bool)) : Option (Int) :=
  ((loopO (fun s => slices_IndexFunc_impl_Result_impl_Result.s0 l0 q1 s) 0).bind fun o => match o with | .out _ => (some (-1)) | .ret r => (some r))
set_option maxRecDepth 100000 in
set_option maxHeartbeats 0 in
theorem slices_IndexFunc_impl_Result_impl_Result_t (w0 : World) (A0_ : Option Addr) (p0_ : Nat) (l0 : List S_Result) (k0_ : Chunk) (v0_ : View L_impl_Result A0_ p0_ l0 k0_) (w0_ : Has w0 k0_) (f1_ : FuncId) (c1_ : List Value) (e1_ : Enters Try.prog f1_) (q1 : S_Result → Option (Bool)) (k1_ : Chunk) (t1_ : ∀ w, Has w k1_ → ∀ (z0 : S_Result) (z0A1 : Option Addr) (z0p1 : Nat) (z0k1 : Chunk) (z0v1 : View (Lay.int .i64) z0A1 z0p1 z0.Values z0k1) (z0w1 : Has w z0k1) (r : Bool), q1 z0 = some r → Calls Try.prog f1_ (([.agg #[.int .i64 z0.Code, .slice z0A1 z0.Values.length z0p1]] : List Value) ++ c1_).toArray w (Ret (fun v w2 => v = .bool r ∧ Sat [] w w2 [] []))) (w1_ : Has w0 k1_) (r : Int) (H : slices_IndexFunc_impl_Result_impl_Result.f l0 q1 = some r) :
    Calls Try.prog 185 #[.slice A0_ l0.length p0_, .func (.func f1_) #[] c1_.toArray] w0 (Ret (fun v w => v = .int .i64 r ∧ Sat [] w0 w [] [])) := by
  have hs : Sat [] w0 w0 [(1, k0_), (2, k1_)] [] := Sat.init w0 [(1, k0_), (2, k1_)] [] (by simp only [List.mem_cons, List.not_mem_nil, or_false]; rintro x (rfl | rfl) <;> assumption) (by simp) List.nodup_nil (by simp [blks])
  unfold slices_IndexFunc_impl_Result_impl_Result.f at H
  refine enter Try.func185 rfl Try.ntmps185 rfl fun a hk => ?_
  apply wp_seq_k; intro K1 hK1
  apply wp_region_lit
  refine sa _ rfl hk rfl rfl rfl fun a hk => ?_
  show wpList _ _ _ [] _ _
  refine wpList_nil ?_
  refine hK1 _ _ ?_
  apply wp_seq_k; intro K2 hK2
  apply wp_seq_k; intro K3 hK3
  apply wp_region_lit
  refine sm _ rfl hk rfl rfl rfl fun a hk => ?_
  refine sle rfl hk rfl rfl rfl un55 fun a hk => ?_
  refine sm _ rfl hk rfl rfl rfl fun a hk => ?_
  show wpList _ _ _ [] _ _
  refine wpList_nil ?_
  refine hK3 _ _ ?_
  obtain ⟨o7, h8, HL9⟩ := bind_some H
  clear H
  obtain ⟨R10, hR10⟩ : ∃ R : Act → World → Prop, R = fun a w => o7 = .out () ∧ Kn [] 19 a ∧ Sat [] w0 w [(1, k0_), (2, k1_)] [] := ⟨_, rfl⟩
  refine wp_cutq R10 ?_ ?_
  ·refine wp_block ?_
   obtain ⟨fu12, h8⟩ := loopO_some h8
   obtain ⟨I11, hI11⟩ : ∃ I : Nat → Act → World → Prop, I = fun fu a w => ∃ (u6 : Int), loopN (fun s => slices_IndexFunc_impl_Result_impl_Result.s0 l0 q1 s) fu u6 = some o7 ∧ Kn [(0, (.slice A0_ l0.length p0_)), (1, (.func (.func f1_) #[] c1_.toArray)), (7, (.int .i64 (l0.length : Int))), (8, (.int .i64 u6))] 19 a ∧ Sat [] w0 w [(1, k0_), (2, k1_)] [] := ⟨_, rfl⟩
   refine wp_loop_ghost I11 fu12 ?_ ?_
   ·rw [hI11]
    exact ⟨0, h8, (hk.c 0 rfl (hk.c 1 rfl (hk.c 7 rfl (hk.c 8 rfl hk.k)))), (hs.pick [] rfl)⟩
   ·clear h8 hk hs
    intro fu12 a w hI0
    rw [hI11] at hI0
    obtain ⟨u6, hi, hk, hs⟩ := hI0
    obtain ⟨x13, H, h14⟩ := loop_round hi
    try dsimp only at H
    unfold slices_IndexFunc_impl_Result_impl_Result.s0 at H
    apply wp_seq_k; intro K15 hK15
    apply wp_region_lit
    refine sv (.bool (decide (u6 < (l0.length : Int)))) hk rfl rfl rfl fun a hk => ?_
    show wpList _ _ _ [] _ _
    refine wpList_nil ?_
    refine hK15 _ _ ?_
    apply wp_seq_k; intro K16 hK16
    rcases cond_some H with ⟨c17, H⟩ | ⟨c17, H⟩
    ·have hk := hk.lit 9 c17 rfl
     refine cnd_true hk rfl rfl ?_
     refine wp_skip ?_
     refine hK16 _ _ ?_
     apply wp_seq_k; intro K18 hK18
     refine wp_block ?_
     apply wp_seq_k; intro K19 hK19
     apply wp_region_lit
     refine sm _ rfl hk rfl rfl rfl fun a hk => ?_
     refine sa _ rfl hk rfl rfl rfl fun a hk => ?_
     show wpList _ _ _ [] _ _
     refine wpList_nil ?_
     refine hK19 _ _ ?_
     apply wp_seq_k; intro K20 hK20
     apply wp_region_lit
     refine sm _ rfl hk rfl rfl rfl fun a hk => ?_
     refine sm _ rfl hk rfl rfl rfl fun a hk => ?_
     refine sm _ rfl hk rfl rfl rfl fun a hk => ?_
     rcases ite_some H with ⟨c21, H⟩ | ⟨_, H⟩
     rotate_left
     ·cases H
     obtain ⟨b22, q23, hAc21⟩ := (v0_).some_ u6 c21.1 c21.2
     refine si rfl hk rfl rfl rfl rfl un55 sz105 c21.1 c21.2 hAc21 fun a hk => ?_
     obtain ⟨_, ⟨_, _, rfl, rfl, ⟨_, rfl, A25, p26, rfl, v27⟩⟩, e24⟩ := (v0_).at_ z_Result u6 c21.1 c21.2
     refine sln [.int .i64 ((l0.getD u6.toNat z_Result).Code), .slice A25 ((l0.getD u6.toNat z_Result).Values).length p26] rfl hk rfl rfl rfl ag105 sz105 (cells_at e24 (hs.hasD (k := 1) rfl)) fun a hk => ?_
     obtain ⟨y28, h29, H⟩ := bind_some H
     refine scv (vs := ([(.agg #[.int .i64 ((l0.getD u6.toNat z_Result).Code), .slice A25 ((l0.getD u6.toNat z_Result).Values).length p26])] : List Value) ++ c1_) rfl rfl e1_ hk rfl rfl rfl (t1_ _ (hs.hasD (k := 2) rfl) (l0.getD u6.toNat z_Result) A25 p26 _ v27 (hs.hasD (k := 1) rfl) _ h29) ?_
     rintro _ w ⟨rfl, hG⟩ a hk
     have hs := hs.call0 hG
     show wpList _ _ _ [] _ _
     refine wpList_nil ?_
     refine hK20 _ _ ?_
     rcases cond_some H with ⟨c30, H⟩ | ⟨c30, H⟩
     ·have hk := hk.lit 16 c30 rfl
      refine cnd_true hk rfl rfl ?_
      apply wp_seq_k; intro K31 hK31
      apply wp_region_lit
      refine sm _ rfl hk rfl rfl rfl fun a hk => ?_
      refine sa _ rfl hk rfl rfl rfl fun a hk => ?_
      show wpList _ _ _ [] _ _
      refine wpList_nil ?_
      refine hK31 _ _ ?_
      refine wp_ret ?_
      obtain rfl := Option.some.inj H
      have ho7 := h14
      try dsimp only at ho7
      subst ho7
      have H := HL9
      try dsimp only at H
      obtain rfl := Option.some.inj H
      exact fin hk _ [(.int .i64 u6)] rfl ⟨rfl, trivial⟩ ⟨rfl, (hs.pick [] rfl).dnil⟩
     ·have hk := hk.lit 16 c30 rfl
      refine cnd_false hk rfl rfl ?_
      refine wp_skip ?_
      refine hK18 _ _ ?_
      apply wp_region_lit
      refine sv (.int .i64 (w64 (u6 + 1))) hk rfl rfl rfl fun a hk => ?_
      refine sm _ rfl hk rfl rfl rfl fun a hk => ?_
      show wpList _ _ _ [] _ _
      refine wpList_nil ?_
      obtain rfl := Option.some.inj H
      obtain ⟨m32, hmm32, h14⟩ := h14
      show ∃ n', n' < _ ∧ I11 n' _ _
      refine ⟨m32, hmm32, ?_⟩
      rw [hI11]
      exact ⟨(w64 (u6 + 1)), h14, (hk.c 0 rfl (hk.c 1 rfl (hk.c 7 rfl (hk.c 8 rfl hk.k)))), (hs.pick [] rfl)⟩
    ·have hk := hk.lit 9 c17 rfl
     refine cnd_false hk rfl rfl ?_
     refine wp_exit ?_
     obtain rfl := Option.some.inj H
     show R10 _ _
     rw [hR10]
     exact ⟨h14.symm, hk.k, (hs.pick [] rfl)⟩
  ·intro a w hR0
   rw [hR10] at hR0
   obtain ⟨rfl, hk, hs⟩ := hR0
   have H := HL9
   try dsimp only at H
   refine hK2 _ _ ?_
   apply wp_seq_k; intro K33 hK33
   apply wp_region_lit
   refine sa _ rfl hk rfl rfl rfl fun a hk => ?_
   show wpList _ _ _ [] _ _
   refine wpList_nil ?_
   refine hK33 _ _ ?_
   refine wp_ret ?_
   obtain rfl := Option.some.inj H
   exact fin hk _ [(.int .i64 (-1))] rfl ⟨rfl, trivial⟩ ⟨rfl, (hs.pick [] rfl).dnil⟩

noncomputable def slices_ContainsFunc_impl_Result_impl_Result.f (l0 : List S_Result) (q1 : S_Result → Option (Bool)) : Option (Bool) :=
  ((slices_IndexFunc_impl_Result_impl_Result.f l0 q1).bind fun y3 => (some (decide (y3 ≥ 0))))
set_option maxRecDepth 100000 in
set_option maxHeartbeats 0 in
theorem slices_ContainsFunc_impl_Result_impl_Result_t (w0 : World) (A0_ : Option Addr) (p0_ : Nat) (l0 : List S_Result) (k0_ : Chunk) (v0_ : View L_impl_Result A0_ p0_ l0 k0_) (w0_ : Has w0 k0_) (f1_ : FuncId) (c1_ : List Value) (e1_ : Enters Try.prog f1_) (q1 : S_Result → Option (Bool)) (k1_ : Chunk) (t1_ : ∀ w, Has w k1_ → ∀ (z0 : S_Result) (z0A1 : Option Addr) (z0p1 : Nat) (z0k1 : Chunk) (z0v1 : View (Lay.int .i64) z0A1 z0p1 z0.Values z0k1) (z0w1 : Has w z0k1) (r : Bool), q1 z0 = some r → Calls Try.prog f1_ (([.agg #[.int .i64 z0.Code, .slice z0A1 z0.Values.length z0p1]] : List Value) ++ c1_).toArray w (Ret (fun v w2 => v = .bool r ∧ Sat [] w w2 [] []))) (w1_ : Has w0 k1_) (r : Bool) (H : slices_ContainsFunc_impl_Result_impl_Result.f l0 q1 = some r) :
    Calls Try.prog 161 #[.slice A0_ l0.length p0_, .func (.func f1_) #[] c1_.toArray] w0 (Ret (fun v w => v = .bool r ∧ Sat [] w0 w [] [])) := by
  have hs : Sat [] w0 w0 [(1, k0_), (2, k1_)] [] := Sat.init w0 [(1, k0_), (2, k1_)] [] (by simp only [List.mem_cons, List.not_mem_nil, or_false]; rintro x (rfl | rfl) <;> assumption) (by simp) List.nodup_nil (by simp [blks])
  unfold slices_ContainsFunc_impl_Result_impl_Result.f at H
  refine enter Try.func161 rfl Try.ntmps161 rfl fun a hk => ?_
  apply wp_seq_k; intro K1 hK1
  apply wp_region_lit
  refine sa _ rfl hk rfl rfl rfl fun a hk => ?_
  show wpList _ _ _ [] _ _
  refine wpList_nil ?_
  refine hK1 _ _ ?_
  apply wp_seq_k; intro K2 hK2
  apply wp_region_lit
  refine sm _ rfl hk rfl rfl rfl fun a hk => ?_
  refine sm _ rfl hk rfl rfl rfl fun a hk => ?_
  obtain ⟨y3, h4, H⟩ := bind_some H
  refine sc rfl en185 hk rfl rfl rfl (slices_IndexFunc_impl_Result_impl_Result_t _ A0_ p0_ l0 _ v0_ (hs.hasD (k := 1) rfl) f1_ c1_ e1_ q1 k1_ t1_ (hs.hasD (k := 2) rfl) _ h4) ?_
  rintro _ w ⟨rfl, hG⟩ a hk
  have hs := hs.call0 hG
  refine sv (.bool (decide (y3 ≥ 0))) hk rfl rfl rfl fun a hk => ?_
  refine sa _ rfl hk rfl rfl rfl fun a hk => ?_
  show wpList _ _ _ [] _ _
  refine wpList_nil ?_
  refine hK2 _ _ ?_
  refine wp_ret ?_
  obtain rfl := Option.some.inj H
  exact fin hk _ [(.bool (decide (y3 ≥ 0)))] rfl ⟨rfl, trivial⟩ ⟨rfl, (hs.pick [] rfl).dnil⟩

noncomputable def impl_areAll_impl_Result__c1.f (x0 : S_Result) (q1 : S_Result → Option (Bool)) : Option (Bool) :=
  ((q1 x0).bind fun y4 => (some (!y4)))
set_option maxRecDepth 100000 in
set_option maxHeartbeats 0 in
theorem impl_areAll_impl_Result__c1_t (w0 : World) (x0 : S_Result) (A0_0 : Option Addr) (p0_0 : Nat) (k0_0 : Chunk) (v0_0 : View (Lay.int .i64) A0_0 p0_0 x0.Values k0_0) (w0_0 : Has w0 k0_0) (b1_ : Nat) (f1_ : FuncId) (c1_ : List Value) (e1_ : Enters Try.prog f1_) (q1 : S_Result → Option (Bool)) (k1_ : Chunk) (t1_ : ∀ w, Has w k1_ → ∀ (z0 : S_Result) (z0A1 : Option Addr) (z0p1 : Nat) (z0k1 : Chunk) (z0v1 : View (Lay.int .i64) z0A1 z0p1 z0.Values z0k1) (z0w1 : Has w z0k1) (r : Bool), q1 z0 = some r → Calls Try.prog f1_ (([.agg #[.int .i64 z0.Code, .slice z0A1 z0.Values.length z0p1]] : List Value) ++ c1_).toArray w (Ret (fun v w2 => v = .bool r ∧ Sat [] w w2 [] []))) (w1_ : Has w0 k1_) (h1_ : Has w0 [(b1_, .cells #[.func (.func f1_) #[] c1_.toArray] 141 (0, 0))]) (r : Bool) (H : impl_areAll_impl_Result__c1.f x0 q1 = some r) :
    Calls Try.prog 162 #[.agg #[.int .i64 x0.Code, .slice A0_0 x0.Values.length p0_0], .pointer (some ⟨b1_, 0, none⟩)] w0 (Ret (fun v w => v = .bool r ∧ Sat [] w0 w [] [])) := by
  have hs : Sat [] w0 w0 [(1, k0_0), (3, k1_), (2, [(b1_, .cells #[.func (.func f1_) #[] c1_.toArray] 141 (0, 0))])] [] := Sat.init w0 [(1, k0_0), (3, k1_), (2, [(b1_, .cells #[.func (.func f1_) #[] c1_.toArray] 141 (0, 0))])] [] (by simp only [List.mem_cons, List.not_mem_nil, or_false]; rintro x (rfl | rfl | rfl) <;> assumption) (by simp) List.nodup_nil (by simp [blks])
  unfold impl_areAll_impl_Result__c1.f at H
  refine enter Try.func162 rfl Try.ntmps162 rfl fun a hk => ?_
  apply wp_seq_k; intro K1 hK1
  apply wp_region_lit
  refine sbx 4 hs rfl hk rfl rfl rfl rfl fun b2 w a hk hs => ?_
  refine sa _ rfl hk rfl rfl rfl fun a hk => ?_
  show wpList _ _ _ [] _ _
  refine wpList_nil ?_
  refine hK1 _ _ ?_
  apply wp_seq_k; intro K3 hK3
  apply wp_region_lit
  refine sl rfl hk rfl rfl rfl ag141 (box_cellD hs (k := 2) rfl rfl) fun a hk => ?_
  refine sln [.int .i64 x0.Code, .slice A0_0 x0.Values.length p0_0] rfl hk rfl rfl rfl ag105 sz105 (box_cells hs (k := 4) rfl) fun a hk => ?_
  obtain ⟨y4, h5, H⟩ := bind_some H
  refine scv (vs := ([(.agg #[.int .i64 x0.Code, .slice A0_0 x0.Values.length p0_0])] : List Value) ++ c1_) rfl rfl e1_ hk rfl rfl rfl (t1_ _ (hs.hasD (k := 3) rfl) x0 A0_0 p0_0 _ v0_0 (hs.hasD (k := 1) rfl) _ h5) ?_
  rintro _ w ⟨rfl, hG⟩ a hk
  have hs := hs.call0 hG
  refine sv (.bool (!y4)) hk rfl rfl rfl fun a hk => ?_
  refine sa _ rfl hk rfl rfl rfl fun a hk => ?_
  show wpList _ _ _ [] _ _
  refine wpList_nil ?_
  refine hK3 _ _ ?_
  refine wp_ret ?_
  obtain rfl := Option.some.inj H
  exact fin hk _ [(.bool (!y4))] rfl ⟨rfl, trivial⟩ ⟨rfl, (hs.pick [] rfl).dnil⟩

noncomputable def impl_areAll_impl_Result.f (l0 : List S_Result) (q1 : S_Result → Option (Bool)) : Option (Bool) :=
  ((slices_ContainsFunc_impl_Result_impl_Result.f l0 (fun z0 => impl_areAll_impl_Result__c1.f z0 q1)).bind fun y4 => (some (!y4)))
set_option maxRecDepth 100000 in
set_option maxHeartbeats 0 in
theorem impl_areAll_impl_Result_t (w0 : World) (A0_ : Option Addr) (p0_ : Nat) (l0 : List S_Result) (k0_ : Chunk) (v0_ : View L_impl_Result A0_ p0_ l0 k0_) (w0_ : Has w0 k0_) (f1_ : FuncId) (c1_ : List Value) (e1_ : Enters Try.prog f1_) (q1 : S_Result → Option (Bool)) (k1_ : Chunk) (t1_ : ∀ w, Has w k1_ → ∀ (z0 : S_Result) (z0A1 : Option Addr) (z0p1 : Nat) (z0k1 : Chunk) (z0v1 : View (Lay.int .i64) z0A1 z0p1 z0.Values z0k1) (z0w1 : Has w z0k1) (r : Bool), q1 z0 = some r → Calls Try.prog f1_ (([.agg #[.int .i64 z0.Code, .slice z0A1 z0.Values.length z0p1]] : List Value) ++ c1_).toArray w (Ret (fun v w2 => v = .bool r ∧ Sat [] w w2 [] []))) (w1_ : Has w0 k1_) (r : Bool) (H : impl_areAll_impl_Result.f l0 q1 = some r) :
    Calls Try.prog 123 #[.slice A0_ l0.length p0_, .func (.func f1_) #[] c1_.toArray] w0 (Ret (fun v w => v = .bool r ∧ Sat [] w0 w [] [])) := by
  have hs : Sat [] w0 w0 [(1, k0_), (2, k1_)] [] := Sat.init w0 [(1, k0_), (2, k1_)] [] (by simp only [List.mem_cons, List.not_mem_nil, or_false]; rintro x (rfl | rfl) <;> assumption) (by simp) List.nodup_nil (by simp [blks])
  unfold impl_areAll_impl_Result.f at H
  refine enter Try.func123 rfl Try.ntmps123 rfl fun a hk => ?_
  apply wp_seq_k; intro K1 hK1
  apply wp_region_lit
  refine sbx 3 hs rfl hk rfl rfl rfl rfl fun b2 w a hk hs => ?_
  refine sa _ rfl hk rfl rfl rfl fun a hk => ?_
  show wpList _ _ _ [] _ _
  refine wpList_nil ?_
  refine hK1 _ _ ?_
  apply wp_seq_k; intro K3 hK3
  apply wp_region_lit
  refine sm _ rfl hk rfl rfl rfl fun a hk => ?_
  refine smf (cs := [.pointer (some ⟨b2, 0, none⟩)]) rfl hk rfl rfl rfl fun a hk => ?_
  obtain ⟨y4, h5, H⟩ := bind_some H
  refine sc rfl en161 hk rfl rfl rfl (slices_ContainsFunc_impl_Result_impl_Result_t _ A0_ p0_ l0 _ v0_ (hs.hasD (k := 1) rfl) 162 [.pointer (some ⟨b2, 0, none⟩)] en162 (fun z0 => impl_areAll_impl_Result__c1.f z0 q1) ([(b2, .cells #[.func (.func f1_) #[] c1_.toArray] 141 (0, 0))] ++ k1_) (fun w hz z0 z0A1 z0p1 z0k1 z0v1 z0w1 r h => impl_areAll_impl_Result__c1_t w z0 z0A1 z0p1 z0k1 z0v1 z0w1 _ f1_ c1_ e1_ q1 k1_ t1_ (Has.right hz) (Has.left hz) r h) (Has.app (hs.hasG (k := 3) rfl) (hs.hasD (k := 2) rfl)) _ h5) ?_
  rintro _ w ⟨rfl, hG⟩ a hk
  have hs := hs.call0 hG
  refine sv (.bool (!y4)) hk rfl rfl rfl fun a hk => ?_
  refine sa _ rfl hk rfl rfl rfl fun a hk => ?_
  show wpList _ _ _ [] _ _
  refine wpList_nil ?_
  refine hK3 _ _ ?_
  refine wp_ret ?_
  obtain rfl := Option.some.inj H
  exact fin hk _ [(.bool (!y4))] rfl ⟨rfl, trivial⟩ ⟨rfl, (hs.pick [] rfl).dnil⟩

noncomputable def impl_isCode.f (x0 : Int) : Option (Bool) :=
  ((impl_within.f x0 0 19).bind fun y3 => (some y3))
set_option maxRecDepth 100000 in
set_option maxHeartbeats 0 in
theorem impl_isCode_t (w0 : World) (x0 : Int) (r : Bool) (H : impl_isCode.f x0 = some r) :
    Calls Try.prog 163 #[.int .i64 x0] w0 (Ret (fun v w => v = .bool r ∧ Sat [] w0 w [] [])) := by
  have hs : Sat [] w0 w0 [] [] := Sat.init w0 [] [] (by simp) (by simp) List.nodup_nil (by simp [blks])
  unfold impl_isCode.f at H
  refine enter Try.func163 rfl Try.ntmps163 rfl fun a hk => ?_
  apply wp_seq_k; intro K1 hK1
  apply wp_region_lit
  refine sa _ rfl hk rfl rfl rfl fun a hk => ?_
  show wpList _ _ _ [] _ _
  refine wpList_nil ?_
  refine hK1 _ _ ?_
  apply wp_seq_k; intro K2 hK2
  apply wp_region_lit
  refine sm _ rfl hk rfl rfl rfl fun a hk => ?_
  obtain ⟨y3, h4, H⟩ := bind_some H
  refine sc rfl en115 hk rfl rfl rfl (impl_within_t _ x0 0 19 _ h4) ?_
  rintro _ w ⟨rfl, hG⟩ a hk
  have hs := hs.call0 hG
  refine sa _ rfl hk rfl rfl rfl fun a hk => ?_
  show wpList _ _ _ [] _ _
  refine wpList_nil ?_
  refine hK2 _ _ ?_
  refine wp_ret ?_
  obtain rfl := Option.some.inj H
  exact fin hk _ [(.bool y3)] rfl ⟨rfl, trivial⟩ ⟨rfl, (hs.pick [] rfl).dnil⟩

noncomputable def impl_isResult.f (x0 : S_Result) : Option (Bool) :=
  ((((impl_isCode.f x0.Code).bind fun y10 => (bif y10 then (bif (decide ((x0.Values.length : Int) ≤ 32)) then ((impl_areAll_int.f x0.Values impl_isValue.f).bind fun y14 => (bif y14 then (bif (x0.Code == 0) then (some true) else (some ((x0.Values.length : Int) == 0))) else (some false))) else (some false)) else (some false))) : Option (Bool)).bind fun u5 => (some u5))
set_option maxRecDepth 100000 in
set_option maxHeartbeats 0 in
theorem impl_isResult_t (w0 : World) (x0 : S_Result) (A0_0 : Option Addr) (p0_0 : Nat) (k0_0 : Chunk) (v0_0 : View (Lay.int .i64) A0_0 p0_0 x0.Values k0_0) (w0_0 : Has w0 k0_0) (r : Bool) (H : impl_isResult.f x0 = some r) :
    Calls Try.prog 124 #[.agg #[.int .i64 x0.Code, .slice A0_0 x0.Values.length p0_0]] w0 (Ret (fun v w => v = .bool r ∧ Sat [] w0 w [] [])) := by
  have hs : Sat [] w0 w0 [(1, k0_0)] [] := Sat.init w0 [(1, k0_0)] [] (by simp only [List.mem_cons, List.not_mem_nil, or_false]; rintro x (rfl) <;> assumption) (by simp) List.nodup_nil (by simp [blks])
  unfold impl_isResult.f at H
  refine enter Try.func124 rfl Try.ntmps124 rfl fun a hk => ?_
  apply wp_seq_k; intro K1 hK1
  apply wp_region_lit
  refine sbx 2 hs rfl hk rfl rfl rfl rfl fun b2 w a hk hs => ?_
  refine sa _ rfl hk rfl rfl rfl fun a hk => ?_
  show wpList _ _ _ [] _ _
  refine wpList_nil ?_
  refine hK1 _ _ ?_
  apply wp_seq_k; intro K3 hK3
  obtain ⟨o6, h7, HL8⟩ := bind_some H
  clear H
  obtain ⟨R9, hR9⟩ : ∃ R : Act → World → Prop, R = fun a w => ∃ (u5 : Bool), u5 = o6 ∧ Kn [(2, (.bool u5))] 28 a ∧ Sat [] w0 w [(1, k0_0)] [] := ⟨_, rfl⟩
  refine wp_cutq R9 ?_ ?_
  ·have H := h7
   apply wp_region_lit
   refine sf ⟨b2, 0, none⟩ rfl hk rfl rfl rfl fd105_0 rfl fun a hk => ?_
   refine sl rfl hk rfl rfl rfl ag3 (box_cell hs (k := 2) rfl rfl) fun a hk => ?_
   obtain ⟨y10, h11, H⟩ := bind_some H
   refine sc rfl en163 hk rfl rfl rfl (impl_isCode_t _ x0.Code _ h11) ?_
   rintro _ w ⟨rfl, hG⟩ a hk
   have hs := hs.call0 hG
   refine sm _ rfl hk rfl rfl rfl fun a hk => ?_
   rcases cond_some H with ⟨c12, H⟩ | ⟨c12, H⟩
   ·have hk := hk.lit 6 c12 rfl
    refine sf ⟨b2, 1, none⟩ rfl hk rfl rfl rfl fd105_1 rfl fun a hk => ?_
    refine sl rfl hk rfl rfl rfl ag31 (box_cell hs (k := 2) rfl rfl) fun a hk => ?_
    refine sle rfl hk rfl rfl rfl un31 fun a hk => ?_
    refine sv (.bool (decide ((x0.Values.length : Int) ≤ 32))) hk rfl rfl rfl fun a hk => ?_
    refine sv (.bool (decide ((x0.Values.length : Int) ≤ 32))) hk rfl rfl rfl fun a hk => ?_
    refine sm _ rfl hk rfl rfl rfl fun a hk => ?_
    rcases cond_some H with ⟨c13, H⟩ | ⟨c13, H⟩
    ·have hk := hk.lit 12 c13 rfl
     refine sf ⟨b2, 1, none⟩ rfl hk rfl rfl rfl fd105_1 rfl fun a hk => ?_
     refine sl rfl hk rfl rfl rfl ag31 (box_cell hs (k := 2) rfl rfl) fun a hk => ?_
     obtain ⟨y14, h15, H⟩ := bind_some H
     refine sc rfl en114 hk rfl rfl rfl (impl_areAll_int_t _ A0_0 p0_0 x0.Values _ v0_0 (hs.hasD (k := 1) rfl) 107 [] en107 impl_isValue.f [] (fun w _ z0 r h => impl_isValue_t w z0 r h) (Has.nil _) _ h15) ?_
     rintro _ w ⟨rfl, hG⟩ a hk
     have hs := hs.call0 hG
     refine sv (.bool y14) hk rfl rfl rfl fun a hk => ?_
     refine sm _ rfl hk rfl rfl rfl fun a hk => ?_
     rcases cond_some H with ⟨c16, H⟩ | ⟨c16, H⟩
     ·have hk := hk.lit 17 c16 rfl
      refine sf ⟨b2, 0, none⟩ rfl hk rfl rfl rfl fd105_0 rfl fun a hk => ?_
      refine sl rfl hk rfl rfl rfl ag3 (box_cell hs (k := 2) rfl rfl) fun a hk => ?_
      refine sv (.bool (x0.Code == 0)) hk rfl rfl rfl fun a hk => ?_
      refine sm _ rfl hk rfl rfl rfl fun a hk => ?_
      rcases cond_some H with ⟨c17, H⟩ | ⟨c17, H⟩
      ·have hk := hk.lit 21 c17 rfl
       refine sk hk rfl rfl rfl fun a hk => ?_
       refine sk hk rfl rfl rfl fun a hk => ?_
       refine sk hk rfl rfl rfl fun a hk => ?_
       refine sk hk rfl rfl rfl fun a hk => ?_
       refine sv (.bool true) hk rfl rfl rfl fun a hk => ?_
       refine sv (.bool true) hk rfl rfl rfl fun a hk => ?_
       refine sa _ rfl hk rfl rfl rfl fun a hk => ?_
       show wpList _ _ _ [] _ _
       refine wpList_nil ?_
       obtain rfl := Option.some.inj H
       show R9 _ _
       rw [hR9]
       exact ⟨true, rfl, (hk.c 2 rfl hk.k), (hs.pick [] rfl)⟩
      ·have hk := hk.lit 21 c17 rfl
       refine sf ⟨b2, 1, none⟩ rfl hk rfl rfl rfl fd105_1 rfl fun a hk => ?_
       refine sl rfl hk rfl rfl rfl ag31 (box_cell hs (k := 2) rfl rfl) fun a hk => ?_
       refine sle rfl hk rfl rfl rfl un31 fun a hk => ?_
       refine sv (.bool ((x0.Values.length : Int) == 0)) hk rfl rfl rfl fun a hk => ?_
       refine sv (.bool ((x0.Values.length : Int) == 0)) hk rfl rfl rfl fun a hk => ?_
       refine sv (.bool ((x0.Values.length : Int) == 0)) hk rfl rfl rfl fun a hk => ?_
       refine sa _ rfl hk rfl rfl rfl fun a hk => ?_
       show wpList _ _ _ [] _ _
       refine wpList_nil ?_
       obtain rfl := Option.some.inj H
       show R9 _ _
       rw [hR9]
       exact ⟨((x0.Values.length : Int) == 0), rfl, (hk.c 2 rfl hk.k), (hs.pick [] rfl)⟩
     ·have hk := hk.lit 17 c16 rfl
      refine sk hk rfl rfl rfl fun a hk => ?_
      refine sk hk rfl rfl rfl fun a hk => ?_
      refine sk hk rfl rfl rfl fun a hk => ?_
      refine sk hk rfl rfl rfl fun a hk => ?_
      refine sk hk rfl rfl rfl fun a hk => ?_
      refine sk hk rfl rfl rfl fun a hk => ?_
      refine sk hk rfl rfl rfl fun a hk => ?_
      refine sk hk rfl rfl rfl fun a hk => ?_
      refine sk hk rfl rfl rfl fun a hk => ?_
      refine sv (.bool false) hk rfl rfl rfl fun a hk => ?_
      refine sa _ rfl hk rfl rfl rfl fun a hk => ?_
      show wpList _ _ _ [] _ _
      refine wpList_nil ?_
      obtain rfl := Option.some.inj H
      show R9 _ _
      rw [hR9]
      exact ⟨false, rfl, (hk.c 2 rfl hk.k), (hs.pick [] rfl)⟩
    ·have hk := hk.lit 12 c13 rfl
     refine sk hk rfl rfl rfl fun a hk => ?_
     refine sk hk rfl rfl rfl fun a hk => ?_
     refine sk hk rfl rfl rfl fun a hk => ?_
     refine sv (.bool false) hk rfl rfl rfl fun a hk => ?_
     refine sm _ rfl hk rfl rfl rfl fun a hk => ?_
     refine sk hk rfl rfl rfl fun a hk => ?_
     refine sk hk rfl rfl rfl fun a hk => ?_
     refine sk hk rfl rfl rfl fun a hk => ?_
     refine sk hk rfl rfl rfl fun a hk => ?_
     refine sk hk rfl rfl rfl fun a hk => ?_
     refine sk hk rfl rfl rfl fun a hk => ?_
     refine sk hk rfl rfl rfl fun a hk => ?_
     refine sk hk rfl rfl rfl fun a hk => ?_
     refine sk hk rfl rfl rfl fun a hk => ?_
     refine sv (.bool false) hk rfl rfl rfl fun a hk => ?_
     refine sa _ rfl hk rfl rfl rfl fun a hk => ?_
     show wpList _ _ _ [] _ _
     refine wpList_nil ?_
     obtain rfl := Option.some.inj H
     show R9 _ _
     rw [hR9]
     exact ⟨false, rfl, (hk.c 2 rfl hk.k), (hs.pick [] rfl)⟩
   ·have hk := hk.lit 6 c12 rfl
    refine sk hk rfl rfl rfl fun a hk => ?_
    refine sk hk rfl rfl rfl fun a hk => ?_
    refine sk hk rfl rfl rfl fun a hk => ?_
    refine sk hk rfl rfl rfl fun a hk => ?_
    refine sv (.bool false) hk rfl rfl rfl fun a hk => ?_
    refine sm _ rfl hk rfl rfl rfl fun a hk => ?_
    refine sk hk rfl rfl rfl fun a hk => ?_
    refine sk hk rfl rfl rfl fun a hk => ?_
    refine sk hk rfl rfl rfl fun a hk => ?_
    refine sv (.bool false) hk rfl rfl rfl fun a hk => ?_
    refine sm _ rfl hk rfl rfl rfl fun a hk => ?_
    refine sk hk rfl rfl rfl fun a hk => ?_
    refine sk hk rfl rfl rfl fun a hk => ?_
    refine sk hk rfl rfl rfl fun a hk => ?_
    refine sk hk rfl rfl rfl fun a hk => ?_
    refine sk hk rfl rfl rfl fun a hk => ?_
    refine sk hk rfl rfl rfl fun a hk => ?_
    refine sk hk rfl rfl rfl fun a hk => ?_
    refine sk hk rfl rfl rfl fun a hk => ?_
    refine sk hk rfl rfl rfl fun a hk => ?_
    refine sv (.bool false) hk rfl rfl rfl fun a hk => ?_
    refine sa _ rfl hk rfl rfl rfl fun a hk => ?_
    show wpList _ _ _ [] _ _
    refine wpList_nil ?_
    obtain rfl := Option.some.inj H
    show R9 _ _
    rw [hR9]
    exact ⟨false, rfl, (hk.c 2 rfl hk.k), (hs.pick [] rfl)⟩
  ·intro a w hR0
   rw [hR9] at hR0
   obtain ⟨u5, rfl, hk, hs⟩ := hR0
   have H := HL8
   try dsimp only at H
   refine hK3 _ _ ?_
   refine wp_ret ?_
   obtain rfl := Option.some.inj H
   exact fin hk _ [(.bool u5)] rfl ⟨rfl, trivial⟩ ⟨rfl, (hs.pick [] rfl).dnil⟩

noncomputable def impl_areResults.f (l0 : List S_Result) : Option (Bool) :=
  (((bif (decide ((l0.length : Int) ≤ 2)) then ((impl_areAll_impl_Result.f l0 impl_isResult.f).bind fun y10 => (some y10)) else (some false)) : Option (Bool)).bind fun u4 => (some u4))
set_option maxRecDepth 100000 in
set_option maxHeartbeats 0 in
theorem impl_areResults_t (w0 : World) (A0_ : Option Addr) (p0_ : Nat) (l0 : List S_Result) (k0_ : Chunk) (v0_ : View L_impl_Result A0_ p0_ l0 k0_) (w0_ : Has w0 k0_) (r : Bool) (H : impl_areResults.f l0 = some r) :
    Calls Try.prog 76 #[.slice A0_ l0.length p0_] w0 (Ret (fun v w => v = .bool r ∧ Sat [] w0 w [] [])) := by
  have hs : Sat [] w0 w0 [(1, k0_)] [] := Sat.init w0 [(1, k0_)] [] (by simp only [List.mem_cons, List.not_mem_nil, or_false]; rintro x (rfl) <;> assumption) (by simp) List.nodup_nil (by simp [blks])
  unfold impl_areResults.f at H
  refine enter Try.func76 rfl Try.ntmps76 rfl fun a hk => ?_
  apply wp_seq_k; intro K1 hK1
  apply wp_region_lit
  refine sa _ rfl hk rfl rfl rfl fun a hk => ?_
  show wpList _ _ _ [] _ _
  refine wpList_nil ?_
  refine hK1 _ _ ?_
  apply wp_seq_k; intro K2 hK2
  obtain ⟨o5, h6, HL7⟩ := bind_some H
  clear H
  obtain ⟨R8, hR8⟩ : ∃ R : Act → World → Prop, R = fun a w => ∃ (u4 : Bool), u4 = o5 ∧ Kn [(2, (.bool u4))] 10 a ∧ Sat [] w0 w [(1, k0_)] [] := ⟨_, rfl⟩
  refine wp_cutq R8 ?_ ?_
  ·have H := h6
   apply wp_region_lit
   refine sm _ rfl hk rfl rfl rfl fun a hk => ?_
   refine sle rfl hk rfl rfl rfl un55 fun a hk => ?_
   refine sv (.bool (decide ((l0.length : Int) ≤ 2))) hk rfl rfl rfl fun a hk => ?_
   refine sm _ rfl hk rfl rfl rfl fun a hk => ?_
   rcases cond_some H with ⟨c9, H⟩ | ⟨c9, H⟩
   ·have hk := hk.lit 6 c9 rfl
    refine sm _ rfl hk rfl rfl rfl fun a hk => ?_
    obtain ⟨y10, h11, H⟩ := bind_some H
    refine sc rfl en123 hk rfl rfl rfl (impl_areAll_impl_Result_t _ A0_ p0_ l0 _ v0_ (hs.hasD (k := 1) rfl) 124 [] en124 impl_isResult.f [] (fun w _ z0 z0A1 z0p1 z0k1 z0v1 z0w1 r h => impl_isResult_t w z0 z0A1 z0p1 z0k1 z0v1 z0w1 r h) (Has.nil _) _ h11) ?_
    rintro _ w ⟨rfl, hG⟩ a hk
    have hs := hs.call0 hG
    refine sv (.bool y10) hk rfl rfl rfl fun a hk => ?_
    refine sa _ rfl hk rfl rfl rfl fun a hk => ?_
    show wpList _ _ _ [] _ _
    refine wpList_nil ?_
    obtain rfl := Option.some.inj H
    show R8 _ _
    rw [hR8]
    exact ⟨y10, rfl, (hk.c 2 rfl hk.k), (hs.pick [] rfl)⟩
   ·have hk := hk.lit 6 c9 rfl
    refine sk hk rfl rfl rfl fun a hk => ?_
    refine sk hk rfl rfl rfl fun a hk => ?_
    refine sv (.bool false) hk rfl rfl rfl fun a hk => ?_
    refine sa _ rfl hk rfl rfl rfl fun a hk => ?_
    show wpList _ _ _ [] _ _
    refine wpList_nil ?_
    obtain rfl := Option.some.inj H
    show R8 _ _
    rw [hR8]
    exact ⟨false, rfl, (hk.c 2 rfl hk.k), (hs.pick [] rfl)⟩
  ·intro a w hR0
   rw [hR8] at hR0
   obtain ⟨u4, rfl, hk, hs⟩ := hR0
   have H := HL7
   try dsimp only at H
   refine hK2 _ _ ?_
   refine wp_ret ?_
   obtain rfl := Option.some.inj H
   exact fin hk _ [(.bool u4)] rfl ⟨rfl, trivial⟩ ⟨rfl, (hs.pick [] rfl).dnil⟩

noncomputable def impl_littleWord.f (x0 : ByteArray) : Option (Int) :=
  (if 0 ≤ (0 : Int) ∧ (0 : Int) < (x0.size : Int) then (if 0 ≤ (1 : Int) ∧ (1 : Int) < (x0.size : Int) then (if 0 ≤ (2 : Int) ∧ (2 : Int) < (x0.size : Int) then (if 0 ≤ (3 : Int) ∧ (3 : Int) < (x0.size : Int) then (some (IntKind.wrap .u32 ((BitVec.ofInt 32 (IntKind.wrap .u32 ((BitVec.ofInt 32 (IntKind.wrap .u32 ((BitVec.ofInt 32 (IntKind.wrap .u32 (byteAt x0 (0 : Int))) ||| BitVec.ofInt 32 (IntKind.wrap .u32 ((IntKind.wrap .u32 (byteAt x0 (1 : Int))) * 2 ^ 8))).toNat : Int)) ||| BitVec.ofInt 32 (IntKind.wrap .u32 ((IntKind.wrap .u32 (byteAt x0 (2 : Int))) * 2 ^ 16))).toNat : Int)) ||| BitVec.ofInt 32 (IntKind.wrap .u32 ((IntKind.wrap .u32 (byteAt x0 (3 : Int))) * 2 ^ 24))).toNat : Int))) else none) else none) else none) else none)
set_option maxRecDepth 100000 in
set_option maxHeartbeats 0 in
theorem impl_littleWord_t (w0 : World) (x0 : ByteArray) (r : Int) (H : impl_littleWord.f x0 = some r) :
    Calls Try.prog 191 #[.string x0] w0 (Ret (fun v w => v = .int .u32 r ∧ Sat [] w0 w [] [])) := by
  have hs : Sat [] w0 w0 [] [] := Sat.init w0 [] [] (by simp) (by simp) List.nodup_nil (by simp [blks])
  unfold impl_littleWord.f at H
  refine enter Try.func191 rfl Try.ntmps191 rfl fun a hk => ?_
  apply wp_seq_k; intro K1 hK1
  apply wp_region_lit
  refine sa _ rfl hk rfl rfl rfl fun a hk => ?_
  show wpList _ _ _ [] _ _
  refine wpList_nil ?_
  refine hK1 _ _ ?_
  apply wp_seq_k; intro K2 hK2
  refine wp_region_tree (.q 0 (.q 1 (.q 2 (.q 3 (.q 4 (.q 5 (.q 6 (.q 7 (.q 8 (.q 9 (.q 10 (.q 11 (.q 12 (.alt 13 (.alt 14 (.alt 15 (.alt 16 (.alt 17 (.last 18) .stop) .stop) .stop) .stop) .stop)))))))))))))) mo (by kernel_rfl) (hs.pick [] rfl) fun _ => ?_
  have hs := hs.drew
  refine tqst (.string x0) hk rfl rfl rfl rfl (fun w hs => sm _ rfl hk rfl rfl rfl fun a hk => qe hk) fun a hk => ?_
  rcases ite_some H with ⟨c4, H⟩ | ⟨_, H⟩
  rotate_left
  ·cases H
  refine tqst (.int .u8 (byteAt x0 (0 : Int))) hk rfl rfl rfl rfl (fun w hs => six rfl hk rfl rfl rfl rfl un9 c4.1 c4.2 fun a hk => qe hk) fun a hk => ?_
  refine tqst (.int .u32 (IntKind.wrap .u32 (byteAt x0 (0 : Int)))) hk rfl rfl rfl rfl (fun w hs => scn rfl hk rfl rfl rfl un201 un5 fun a hk => qe hk) fun a hk => ?_
  refine tqst (.string x0) hk rfl rfl rfl rfl (fun w hs => sm _ rfl hk rfl rfl rfl fun a hk => qe hk) fun a hk => ?_
  rcases ite_some H with ⟨c5, H⟩ | ⟨_, H⟩
  rotate_left
  ·cases H
  refine tqst (.int .u8 (byteAt x0 (1 : Int))) hk rfl rfl rfl rfl (fun w hs => six rfl hk rfl rfl rfl rfl un9 c5.1 c5.2 fun a hk => qe hk) fun a hk => ?_
  refine tqst (.int .u32 (IntKind.wrap .u32 (byteAt x0 (1 : Int)))) hk rfl rfl rfl rfl (fun w hs => scn rfl hk rfl rfl rfl un201 un5 fun a hk => qe hk) fun a hk => ?_
  refine tqst (.int .u32 (IntKind.wrap .u32 ((IntKind.wrap .u32 (byteAt x0 (1 : Int))) * 2 ^ 8))) hk rfl rfl rfl rfl (fun w hs => sv (.int .u32 (IntKind.wrap .u32 ((IntKind.wrap .u32 (byteAt x0 (1 : Int))) * 2 ^ 8))) hk rfl rfl rfl fun a hk => qe hk) fun a hk => ?_
  refine tqst (.int .u32 (IntKind.wrap .u32 ((BitVec.ofInt 32 (IntKind.wrap .u32 (byteAt x0 (0 : Int))) ||| BitVec.ofInt 32 (IntKind.wrap .u32 ((IntKind.wrap .u32 (byteAt x0 (1 : Int))) * 2 ^ 8))).toNat : Int))) hk rfl rfl rfl rfl (fun w hs => sv (.int .u32 (IntKind.wrap .u32 ((BitVec.ofInt 32 (IntKind.wrap .u32 (byteAt x0 (0 : Int))) ||| BitVec.ofInt 32 (IntKind.wrap .u32 ((IntKind.wrap .u32 (byteAt x0 (1 : Int))) * 2 ^ 8))).toNat : Int))) hk rfl rfl rfl fun a hk => qe hk) fun a hk => ?_
  refine tqst (.string x0) hk rfl rfl rfl rfl (fun w hs => sm _ rfl hk rfl rfl rfl fun a hk => qe hk) fun a hk => ?_
  rcases ite_some H with ⟨c6, H⟩ | ⟨_, H⟩
  rotate_left
  ·cases H
  refine tqst (.int .u8 (byteAt x0 (2 : Int))) hk rfl rfl rfl rfl (fun w hs => six rfl hk rfl rfl rfl rfl un9 c6.1 c6.2 fun a hk => qe hk) fun a hk => ?_
  refine tqst (.int .u32 (IntKind.wrap .u32 (byteAt x0 (2 : Int)))) hk rfl rfl rfl rfl (fun w hs => scn rfl hk rfl rfl rfl un201 un5 fun a hk => qe hk) fun a hk => ?_
  refine tqst (.int .u32 (IntKind.wrap .u32 ((IntKind.wrap .u32 (byteAt x0 (2 : Int))) * 2 ^ 16))) hk rfl rfl rfl rfl (fun w hs => sv (.int .u32 (IntKind.wrap .u32 ((IntKind.wrap .u32 (byteAt x0 (2 : Int))) * 2 ^ 16))) hk rfl rfl rfl fun a hk => qe hk) fun a hk => ?_
  refine tqst (.int .u32 (IntKind.wrap .u32 ((BitVec.ofInt 32 (IntKind.wrap .u32 ((BitVec.ofInt 32 (IntKind.wrap .u32 (byteAt x0 (0 : Int))) ||| BitVec.ofInt 32 (IntKind.wrap .u32 ((IntKind.wrap .u32 (byteAt x0 (1 : Int))) * 2 ^ 8))).toNat : Int)) ||| BitVec.ofInt 32 (IntKind.wrap .u32 ((IntKind.wrap .u32 (byteAt x0 (2 : Int))) * 2 ^ 16))).toNat : Int))) hk rfl rfl rfl rfl (fun w hs => sv (.int .u32 (IntKind.wrap .u32 ((BitVec.ofInt 32 (IntKind.wrap .u32 ((BitVec.ofInt 32 (IntKind.wrap .u32 (byteAt x0 (0 : Int))) ||| BitVec.ofInt 32 (IntKind.wrap .u32 ((IntKind.wrap .u32 (byteAt x0 (1 : Int))) * 2 ^ 8))).toNat : Int)) ||| BitVec.ofInt 32 (IntKind.wrap .u32 ((IntKind.wrap .u32 (byteAt x0 (2 : Int))) * 2 ^ 16))).toNat : Int))) hk rfl rfl rfl fun a hk => qe hk) fun a hk => ?_
  refine tsst hk rfl rfl (fun K_r3_13 hK_r3_13 w hF => ?_) wt_stop
  have hs := hs.f hF
  refine sm _ rfl hk rfl rfl rfl fun a hk => ?_
  refine se (hs.pick [] rfl) hk (hK_r3_13 _ _ ?_)
  refine tsst hk rfl rfl (fun K_r3_14 hK_r3_14 w hF => ?_) wt_stop
  have hs := hs.f hF
  rcases ite_some H with ⟨c7, H⟩ | ⟨_, H⟩
  rotate_left
  ·cases H
  refine six rfl hk rfl rfl rfl rfl un9 c7.1 c7.2 fun a hk => ?_
  refine se (hs.pick [] rfl) hk (hK_r3_14 _ _ ?_)
  refine tsst hk rfl rfl (fun K_r3_15 hK_r3_15 w hF => ?_) wt_stop
  have hs := hs.f hF
  refine scn rfl hk rfl rfl rfl un201 un5 fun a hk => ?_
  refine se (hs.pick [] rfl) hk (hK_r3_15 _ _ ?_)
  refine tsst hk rfl rfl (fun K_r3_16 hK_r3_16 w hF => ?_) wt_stop
  have hs := hs.f hF
  refine sv (.int .u32 (IntKind.wrap .u32 ((IntKind.wrap .u32 (byteAt x0 (3 : Int))) * 2 ^ 24))) hk rfl rfl rfl fun a hk => ?_
  refine se (hs.pick [] rfl) hk (hK_r3_16 _ _ ?_)
  refine tsst hk rfl rfl (fun K_r3_17 hK_r3_17 w hF => ?_) wt_stop
  have hs := hs.f hF
  refine sv (.int .u32 (IntKind.wrap .u32 ((BitVec.ofInt 32 (IntKind.wrap .u32 ((BitVec.ofInt 32 (IntKind.wrap .u32 ((BitVec.ofInt 32 (IntKind.wrap .u32 (byteAt x0 (0 : Int))) ||| BitVec.ofInt 32 (IntKind.wrap .u32 ((IntKind.wrap .u32 (byteAt x0 (1 : Int))) * 2 ^ 8))).toNat : Int)) ||| BitVec.ofInt 32 (IntKind.wrap .u32 ((IntKind.wrap .u32 (byteAt x0 (2 : Int))) * 2 ^ 16))).toNat : Int)) ||| BitVec.ofInt 32 (IntKind.wrap .u32 ((IntKind.wrap .u32 (byteAt x0 (3 : Int))) * 2 ^ 24))).toNat : Int))) hk rfl rfl rfl fun a hk => ?_
  refine se (hs.pick [] rfl) hk (hK_r3_17 _ _ ?_)
  refine tlst hk rfl rfl fun K_r3_18 hK_r3_18 w hF => ?_
  have hs := hs.f hF
  refine sa _ rfl hk rfl rfl rfl fun a hk => ?_
  refine se trivial hk (hK_r3_18 _ _ fun w hF => ?_)
  have hs := hs.f hF
  refine hK2 _ _ ?_
  refine wp_ret ?_
  obtain rfl := Option.some.inj H
  exact fin hk _ [(.int .u32 (IntKind.wrap .u32 ((BitVec.ofInt 32 (IntKind.wrap .u32 ((BitVec.ofInt 32 (IntKind.wrap .u32 ((BitVec.ofInt 32 (IntKind.wrap .u32 (byteAt x0 (0 : Int))) ||| BitVec.ofInt 32 (IntKind.wrap .u32 ((IntKind.wrap .u32 (byteAt x0 (1 : Int))) * 2 ^ 8))).toNat : Int)) ||| BitVec.ofInt 32 (IntKind.wrap .u32 ((IntKind.wrap .u32 (byteAt x0 (2 : Int))) * 2 ^ 16))).toNat : Int)) ||| BitVec.ofInt 32 (IntKind.wrap .u32 ((IntKind.wrap .u32 (byteAt x0 (3 : Int))) * 2 ^ 24))).toNat : Int)))] rfl ⟨rfl, trivial⟩ ⟨rfl, (hs.pick [] rfl).dnil⟩

noncomputable def impl_textInts.s0 (x0 : ByteArray) (u13 : List Int) (u12 : Int) : Option (((List Int) × Int) ⊕ Ex ((List Int)) ((List Int))) :=
  (bif (decide (u12 < (x0.size : Int))) then (if 0 ≤ u12 ∧ u12 ≤ (x0.size : Int) then ((impl_littleWord.f (x0.extract u12.toNat x0.size)).bind fun y36 => (if u13.length + ([(IntKind.wrap .i64 y36)]).length ≤ 1073741824 then (some (.inl ((u13 ++ ([(IntKind.wrap .i64 y36)])), (w64 (u12 + 4))))) else none)) else none) else (some (.inr (.out u13))))
noncomputable def impl_textInts.f (x0 : ByteArray) : Option ((List Int)) :=
  ((loopO (fun s => impl_textInts.s0 x0 s.1 s.2) (([] : List Int), 0)).bind fun o => match o with | .out u18 => (some u18) | .ret r => (some r))
set_option maxRecDepth 100000 in
set_option maxHeartbeats 0 in
theorem impl_textInts_t (w0 : World) (x0 : ByteArray) (r : (List Int)) (H : impl_textInts.f x0 = some r) :
    Calls Try.prog 172 #[.string x0] w0 (Ret (fun v w => ∃ (A0 : Option Addr) (p0 : Nat) (k0 : Chunk), v = .slice A0 r.length p0 ∧ Own (Lay.int .i64) 3 A0 p0 r k0 ∧ Sat [] w0 w [] [(0, k0)])) := by
  have hs : Sat [] w0 w0 [] [] := Sat.init w0 [] [] (by simp) (by simp) List.nodup_nil (by simp [blks])
  unfold impl_textInts.f at H
  refine enter Try.func172 rfl Try.ntmps172 rfl fun a hk => ?_
  apply wp_seq_k; intro K1 hK1
  apply wp_region_lit
  refine sa _ rfl hk rfl rfl rfl fun a hk => ?_
  show wpList _ _ _ [] _ _
  refine wpList_nil ?_
  refine hK1 _ _ ?_
  apply wp_seq_k; intro K2 hK2
  apply wp_region_lit
  refine sa _ rfl hk rfl rfl rfl fun a hk => ?_
  show wpList _ _ _ [] _ _
  refine wpList_nil ?_
  refine hK2 _ _ ?_
  apply wp_seq_k; intro K3 hK3
  apply wp_seq_k; intro K4 hK4
  apply wp_region_lit
  refine sa _ rfl hk rfl rfl rfl fun a hk => ?_
  show wpList _ _ _ [] _ _
  refine wpList_nil ?_
  refine hK4 _ _ ?_
  obtain ⟨o23, h24, HL25⟩ := bind_some H
  clear H
  obtain ⟨R26, hR26⟩ : ∃ R : Act → World → Prop, R = fun a w => ∃ (u18 : List Int) (A21 : Option Addr) (p22 : Nat) (k19 : Chunk), o23 = .out u18 ∧ Kn [(3, (.slice A21 u18.length p22))] 20 a ∧ Sat [] w0 w [] [(3, k19)] ∧ Own (Lay.int .i64) 3 A21 p22 u18 k19 := ⟨_, rfl⟩
  refine wp_cutq R26 ?_ ?_
  ·refine wp_block ?_
   obtain ⟨fu28, h24⟩ := loopO_some h24
   obtain ⟨I27, hI27⟩ : ∃ I : Nat → Act → World → Prop, I = fun fu a w => ∃ (u13 : List Int) (u12 : Int) (A16 : Option Addr) (p17 : Nat) (k14 : Chunk), loopN (fun s => impl_textInts.s0 x0 s.1 s.2) fu (u13, u12) = some o23 ∧ Kn [(0, (.string x0)), (3, (.slice A16 u13.length p17)), (4, (.int .i64 u12))] 20 a ∧ Sat [] w0 w [] [(3, k14)] ∧ Own (Lay.int .i64) 3 A16 p17 u13 k14 := ⟨_, rfl⟩
   refine wp_loop_ghost I27 fu28 ?_ ?_
   ·rw [hI27]
    exact ⟨([] : List Int), 0, none, 0, _, h24, (hk.c 0 rfl (hk.c 3 rfl (hk.c 4 rfl hk.k))), ((hs.addNil 1003).pick [(3, 1003)] rfl), Own.nil _ _⟩
   ·clear h24 hk hs
    intro fu28 a w hI0
    rw [hI27] at hI0
    obtain ⟨u13, u12, A16, p17, k14, hi, hk, hs, o15⟩ := hI0
    obtain ⟨x29, H, h30⟩ := loop_round hi
    try dsimp only at H
    unfold impl_textInts.s0 at H
    apply wp_seq_k; intro K31 hK31
    apply wp_seq_k; intro K32 hK32
    apply wp_region_lit
    refine sm _ rfl hk rfl rfl rfl fun a hk => ?_
    refine sm _ rfl hk rfl rfl rfl fun a hk => ?_
    refine sles rfl hk rfl rfl rfl un9 fun a hk => ?_
    refine sv (.bool (decide (u12 < (x0.size : Int)))) hk rfl rfl rfl fun a hk => ?_
    show wpList _ _ _ [] _ _
    refine wpList_nil ?_
    refine hK32 _ _ ?_
    rcases cond_some H with ⟨c33, H⟩ | ⟨c33, H⟩
    ·have hk := hk.lit 8 c33 rfl
     refine cnd_true hk rfl rfl ?_
     refine wp_skip ?_
     refine hK31 _ _ ?_
     apply wp_seq_k; intro K34 hK34
     refine wp_block ?_
     apply wp_region_lit
     refine sm _ rfl hk rfl rfl rfl fun a hk => ?_
     refine sm _ rfl hk rfl rfl rfl fun a hk => ?_
     refine sm _ rfl hk rfl rfl rfl fun a hk => ?_
     rcases ite_some H with ⟨c35, H⟩ | ⟨_, H⟩
     rotate_left
     ·cases H
     refine ssl_l rfl hk rfl rfl rfl rfl un9 c35.1 c35.2 fun a hk => ?_
     obtain ⟨y36, h37, H⟩ := bind_some H
     refine sc rfl en191 hk rfl rfl rfl (impl_littleWord_t _ (x0.extract u12.toNat x0.size) _ h37) ?_
     rintro _ w ⟨rfl, hG⟩ a hk
     have hs := hs.call0 hG
     refine scn rfl hk rfl rfl rfl un3 un201 fun a hk => ?_
     refine sbs (L := (Lay.int .i64)) (pv := [(0, (.int .i64 (IntKind.wrap .i64 y36)))]) (xs := [(IntKind.wrap .i64 y36)]) (ess := [[.int .i64 (IntKind.wrap .i64 y36)]]) 4 hs rfl hk rfl rfl rfl un31 (bs3_0 (IntKind.wrap .i64 y36)) (AllOwn.cons0 ⟨rfl, rfl⟩ AllOwn.nil) rfl rfl rfl fun b38 k39 w a hk o40 hs => ?_
     rcases ite_some H with ⟨c41, H⟩ | ⟨_, H⟩
     rotate_left
     ·cases H
     refine sap 3 (xs := u13) (ys := [(IntKind.wrap .i64 y36)]) (flat_flat : ((Lay.int .i64)).Flat) hs rfl o15 o40.view (hs.hasG (k := 4) rfl) rfl hk rfl rfl rfl rfl rfl rfl un31 mk3 rfl rfl rfl c41 fun A42 p43 k44 w a hk o45 hs => ?_
     refine sa _ rfl hk rfl rfl rfl fun a hk => ?_
     show wpList _ _ _ [] _ _
     refine wpList_nil ?_
     refine hK34 _ _ ?_
     apply wp_region_lit
     refine sm _ rfl hk rfl rfl rfl fun a hk => ?_
     refine sv (.int .i64 (w64 (u12 + 4))) hk rfl rfl rfl fun a hk => ?_
     refine sa _ rfl hk rfl rfl rfl fun a hk => ?_
     show wpList _ _ _ [] _ _
     refine wpList_nil ?_
     obtain rfl := Option.some.inj H
     obtain ⟨m46, hmm46, h30⟩ := h30
     show ∃ n', n' < _ ∧ I27 n' _ _
     refine ⟨m46, hmm46, ?_⟩
     rw [hI27]
     exact ⟨(u13 ++ ([(IntKind.wrap .i64 y36)])), (w64 (u12 + 4)), A42, p43, _, h30, (hk.c 0 rfl (hk.c 3 rfl (hk.c 4 rfl hk.k))), (hs.pick [(3, 3)] rfl), o45⟩
    ·have hk := hk.lit 8 c33 rfl
     refine cnd_false hk rfl rfl ?_
     refine wp_exit ?_
     obtain rfl := Option.some.inj H
     show R26 _ _
     rw [hR26]
     exact ⟨u13, A16, p17, _, h30.symm, (hk.c 3 rfl hk.k), (hs.pick [(3, 3)] rfl), o15⟩
  ·intro a w hR0
   rw [hR26] at hR0
   obtain ⟨u18, A21, p22, k19, rfl, hk, hs, o20⟩ := hR0
   have H := HL25
   try dsimp only at H
   refine hK3 _ _ ?_
   apply wp_seq_k; intro K47 hK47
   apply wp_region_lit
   refine sm _ rfl hk rfl rfl rfl fun a hk => ?_
   refine sa _ rfl hk rfl rfl rfl fun a hk => ?_
   show wpList _ _ _ [] _ _
   refine wpList_nil ?_
   refine hK47 _ _ ?_
   refine wp_ret ?_
   obtain rfl := Option.some.inj H
   exact fin hk _ [(.slice A21 u18.length p22)] rfl ⟨rfl, trivial⟩ ⟨A21, p22, _, rfl, o20, (hs.pick [(0, 3)] rfl).dnil⟩

noncomputable def impl_readerOf.f (x0 : ByteArray) (x1 : Int) : Option (S_reader) :=
  (bif ((x0.size : Int) != (w64 (4 * x1))) then (some (⟨([] : List Int), 0, true⟩ : S_reader)) else ((impl_textInts.f x0).bind fun y8 => (some (⟨y8, 0, false⟩ : S_reader))))
set_option maxRecDepth 100000 in
set_option maxHeartbeats 0 in
theorem impl_readerOf_t (w0 : World) (x0 : ByteArray) (x1 : Int) (r : S_reader) (H : impl_readerOf.f x0 x1 = some r) :
    Calls Try.prog 137 #[.string x0, .int .i64 x1] w0 (Ret (fun v w => ∃ (bb0 : Nat), ∃ (A0 : Option Addr) (p0 : Nat) (k0 : Chunk), v = .pointer (some ⟨bb0, 0, none⟩) ∧ Own (Lay.int .i64) 3 A0 p0 r.list k0 ∧ Sat [] w0 w [] [(0, [(bb0, .cells #[.slice A0 r.list.length p0, .int .i64 r.at_, .bool r.bad] 183 (0, 0))]), (1, k0)])) := by
  have hs : Sat [] w0 w0 [] [] := Sat.init w0 [] [] (by simp) (by simp) List.nodup_nil (by simp [blks])
  unfold impl_readerOf.f at H
  refine enter Try.func137 rfl Try.ntmps137 rfl fun a hk => ?_
  apply wp_seq_k; intro K1 hK1
  apply wp_region_lit
  refine sa _ rfl hk rfl rfl rfl fun a hk => ?_
  show wpList _ _ _ [] _ _
  refine wpList_nil ?_
  refine hK1 _ _ ?_
  apply wp_seq_k; intro K2 hK2
  apply wp_seq_k; intro K3 hK3
  apply wp_region_lit
  refine sm _ rfl hk rfl rfl rfl fun a hk => ?_
  refine sles rfl hk rfl rfl rfl un9 fun a hk => ?_
  refine sm _ rfl hk rfl rfl rfl fun a hk => ?_
  refine sv (.int .i64 (w64 (4 * x1))) hk rfl rfl rfl fun a hk => ?_
  refine sv (.bool ((x0.size : Int) != (w64 (4 * x1)))) hk rfl rfl rfl fun a hk => ?_
  show wpList _ _ _ [] _ _
  refine wpList_nil ?_
  refine hK3 _ _ ?_
  rcases cond_some H with ⟨c4, H⟩ | ⟨c4, H⟩
  ·have hk := hk.lit 9 c4 rfl
   refine cnd_true hk rfl rfl ?_
   apply wp_seq_k; intro K5 hK5
   apply wp_region_lit
   refine sbd (pv := [(2, (.bool true))]) rfl hk rfl rfl rfl (bd183_12 true) fun a hk => ?_
   refine sbx 1 hs rfl hk rfl rfl rfl rfl fun b6 w a hk hs => ?_
   refine sa _ rfl hk rfl rfl rfl fun a hk => ?_
   show wpList _ _ _ [] _ _
   refine wpList_nil ?_
   refine hK5 _ _ ?_
   refine wp_ret ?_
   obtain rfl := Option.some.inj H
   have hs := hs.addNil 2
   exact fin hk _ [(.pointer (some ⟨b6, 0, none⟩))] rfl ⟨rfl, trivial⟩ ⟨b6, none, 0, [], rfl, Own.nil _ _, (hs.pick [(0, 1), (1, 2)] rfl).dnil⟩
  ·have hk := hk.lit 9 c4 rfl
   refine cnd_false hk rfl rfl ?_
   refine wp_skip ?_
   refine hK2 _ _ ?_
   apply wp_seq_k; intro K7 hK7
   apply wp_region_lit
   refine sm _ rfl hk rfl rfl rfl fun a hk => ?_
   obtain ⟨y8, h9, H⟩ := bind_some H
   refine sc rfl en172 hk rfl rfl rfl (impl_textInts_t _ x0 _ h9) ?_
   rintro _ w ⟨A10, p11, k12, rfl, o13, hG⟩ a hk
   have hs := hs.call0k hG [3] rfl
   refine sbd (pv := [(0, (.slice A10 y8.length p11))]) rfl hk rfl rfl rfl (bd183_13 A10 y8.length p11) fun a hk => ?_
   refine sbx 4 hs rfl hk rfl rfl rfl rfl fun b14 w a hk hs => ?_
   refine sa _ rfl hk rfl rfl rfl fun a hk => ?_
   show wpList _ _ _ [] _ _
   refine wpList_nil ?_
   refine hK7 _ _ ?_
   refine wp_ret ?_
   obtain rfl := Option.some.inj H
   exact fin hk _ [(.pointer (some ⟨b14, 0, none⟩))] rfl ⟨rfl, trivial⟩ ⟨b14, A10, p11, _, rfl, o13, (hs.pick [(0, 4), (1, 3)] rfl).dnil⟩

noncomputable def impl_reader_next.f (x0 : S_reader) (x1 : Int) (x2 : Int) : Option (Int × Int × Bool) :=
  (((bif x0.bad then (some true) else (bif (x0.at_ == (x0.list.length : Int)) then (some true) else (if 0 ≤ x0.at_ ∧ x0.at_ < (x0.list.length : Int) then ((impl_within.f (x0.list.getD (x0.at_).toNat 0) x1 x2).bind fun y16 => (some (!y16))) else none))) : Option (Bool)).bind fun u5 => (bif u5 then (some (0, x0.at_, true)) else (if 0 ≤ (w64 ((w64 (x0.at_ + 1)) - 1)) ∧ (w64 ((w64 (x0.at_ + 1)) - 1)) < (x0.list.length : Int) then (some ((x0.list.getD (w64 ((w64 (x0.at_ + 1)) - 1)).toNat 0), (w64 (x0.at_ + 1)), x0.bad)) else none)))
set_option maxRecDepth 100000 in
set_option maxHeartbeats 0 in
theorem impl_reader_next_t (w0 : World) (b0_ : Nat) (x0 : S_reader) (A0_0 : Option Addr) (p0_0 : Nat) (k0_0 : Chunk) (v0_0 : View (Lay.int .i64) A0_0 p0_0 x0.list k0_0) (w0_0 : Has w0 k0_0) (x1 : Int) (x2 : Int) (hs0 : Sat (blks [(1, [(b0_, .cells #[.slice A0_0 x0.list.length p0_0, .int .i64 x0.at_, .bool x0.bad] 183 (0, 0))])]) w0 w0 [(2, k0_0)] [(1, [(b0_, .cells #[.slice A0_0 x0.list.length p0_0, .int .i64 x0.at_, .bool x0.bad] 183 (0, 0))])]) (r : Int × Int × Bool) (H : impl_reader_next.f x0 x1 x2 = some r) :
    Calls Try.prog 141 #[.pointer (some ⟨b0_, 0, none⟩), .int .i64 x1, .int .i64 x2] w0 (Ret (fun v w => v = .int .i64 r.1 ∧ Sat (blks [(1, [(b0_, .cells #[.slice A0_0 x0.list.length p0_0, .int .i64 x0.at_, .bool x0.bad] 183 (0, 0))])]) w0 w [] [(0, [(b0_, .cells #[.slice A0_0 x0.list.length p0_0, .int .i64 r.2.1, .bool r.2.2] 183 (0, 0))])])) := by
  have hs := hs0
  unfold impl_reader_next.f at H
  refine enter Try.func141 rfl Try.ntmps141 rfl fun a hk => ?_
  apply wp_seq_k; intro K1 hK1
  apply wp_region_lit
  refine sa _ rfl hk rfl rfl rfl fun a hk => ?_
  show wpList _ _ _ [] _ _
  refine wpList_nil ?_
  refine hK1 _ _ ?_
  apply wp_seq_k; intro K2 hK2
  apply wp_seq_k; intro K3 hK3
  obtain ⟨o6, h7, HL8⟩ := bind_some H
  clear H
  obtain ⟨R9, hR9⟩ : ∃ R : Act → World → Prop, R = fun a w => ∃ (u5 : Bool), u5 = o6 ∧ Kn [(0, (.pointer (some ⟨b0_, 0, none⟩))), (38, (.bool u5))] 60 a ∧ Sat (blks [(1, [(b0_, .cells #[.slice A0_0 x0.list.length p0_0, .int .i64 x0.at_, .bool x0.bad] 183 (0, 0))])]) w0 w [(2, k0_0)] [(1, [(b0_, .cells #[.slice A0_0 x0.list.length p0_0, .int .i64 x0.at_, .bool x0.bad] 183 (0, 0))])] := ⟨_, rfl⟩
  refine wp_cutq R9 ?_ ?_
  ·have H := h7
   refine wp_region_mix [(0, true), (1, true), (2, true), (3, true), (4, true), (5, true), (6, true), (7, true), (8, true), (9, true), (10, true), (11, true), (12, true), (13, true), (14, true), (15, true), (16, true), (17, true), (18, true), (19, true), (20, true), (21, true), (22, true), (23, true), (24, true), (25, true), (26, true), (27, true), (28, true), (29, true), (30, true), (31, true)] mo (by kernel_rfl) hs fun _ => ?_
   have hs := hs.drew
   refine qst (.pointer (some ⟨b0_, 0, none⟩)) hk rfl rfl rfl rfl (fun w hs => sm _ rfl hk rfl rfl rfl fun a hk => qe hk) fun a hk => ?_
   refine qst (.pointer (some ⟨b0_, 0, none⟩)) hk rfl rfl rfl rfl (fun w hs => snk rfl hk rfl rfl rfl fun a hk => qe hk) fun a hk => ?_
   refine qst (.pointer (some ⟨b0_, 2, none⟩)) hk rfl rfl rfl rfl (fun w hs => sf ⟨b0_, 2, none⟩ rfl hk rfl rfl rfl fd183_2 rfl fun a hk => qe hk) fun a hk => ?_
   refine qst (.bool x0.bad) hk rfl rfl rfl rfl (fun w hs => sl rfl hk rfl rfl rfl ag4 (box_cell hs (k := 1) rfl rfl) fun a hk => qe hk) fun a hk => ?_
   refine qst (.bool x0.bad) hk rfl rfl rfl rfl (fun w hs => sm _ rfl hk rfl rfl rfl fun a hk => qe hk) fun a hk => ?_
   rcases cond_some H with ⟨c10, H⟩ | ⟨c10, H⟩
   ·have hk := hk.lit 11 c10 rfl
    refine qsk hk rfl rfl rfl rfl fun a hk => ?_
    refine qsk hk rfl rfl rfl rfl fun a hk => ?_
    refine qsk hk rfl rfl rfl rfl fun a hk => ?_
    refine qsk hk rfl rfl rfl rfl fun a hk => ?_
    refine qsk hk rfl rfl rfl rfl fun a hk => ?_
    refine qsk hk rfl rfl rfl rfl fun a hk => ?_
    refine qsk hk rfl rfl rfl rfl fun a hk => ?_
    refine qsk hk rfl rfl rfl rfl fun a hk => ?_
    refine qsk hk rfl rfl rfl rfl fun a hk => ?_
    refine qsk hk rfl rfl rfl rfl fun a hk => ?_
    refine qst (.bool true) hk rfl rfl rfl rfl (fun w hs => sv (.bool true) hk rfl rfl rfl fun a hk => qe hk) fun a hk => ?_
    refine qst (.bool true) hk rfl rfl rfl rfl (fun w hs => sm _ rfl hk rfl rfl rfl fun a hk => qe hk) fun a hk => ?_
    refine qsk hk rfl rfl rfl rfl fun a hk => ?_
    refine qsk hk rfl rfl rfl rfl fun a hk => ?_
    refine qsk hk rfl rfl rfl rfl fun a hk => ?_
    refine qsk hk rfl rfl rfl rfl fun a hk => ?_
    refine qsk hk rfl rfl rfl rfl fun a hk => ?_
    refine qsk hk rfl rfl rfl rfl fun a hk => ?_
    refine qsk hk rfl rfl rfl rfl fun a hk => ?_
    refine qsk hk rfl rfl rfl rfl fun a hk => ?_
    refine qsk hk rfl rfl rfl rfl fun a hk => ?_
    refine qsk hk rfl rfl rfl rfl fun a hk => ?_
    refine qsk hk rfl rfl rfl rfl fun a hk => ?_
    refine qsk hk rfl rfl rfl rfl fun a hk => ?_
    refine qsk hk rfl rfl rfl rfl fun a hk => ?_
    refine qsk hk rfl rfl rfl rfl fun a hk => ?_
    refine qst (.bool true) hk rfl rfl rfl rfl (fun w hs => sv (.bool true) hk rfl rfl rfl fun a hk => qe hk) fun a hk => ?_
    refine wml_nil fun w hF _ => ?_
    have hs := hs.f hF
    obtain rfl := Option.some.inj H
    show R9 _ _
    rw [hR9]
    exact ⟨true, rfl, (hk.c 0 rfl (hk.c 38 rfl hk.k)), (hs.pick [(1, 1)] rfl)⟩
   ·have hk := hk.lit 11 c10 rfl
    refine qst (.pointer (some ⟨b0_, 0, none⟩)) hk rfl rfl rfl rfl (fun w hs => sm _ rfl hk rfl rfl rfl fun a hk => qe hk) fun a hk => ?_
    refine qst (.pointer (some ⟨b0_, 0, none⟩)) hk rfl rfl rfl rfl (fun w hs => snk rfl hk rfl rfl rfl fun a hk => qe hk) fun a hk => ?_
    refine qst (.pointer (some ⟨b0_, 1, none⟩)) hk rfl rfl rfl rfl (fun w hs => sf ⟨b0_, 1, none⟩ rfl hk rfl rfl rfl fd183_1 rfl fun a hk => qe hk) fun a hk => ?_
    refine qst (.int .i64 x0.at_) hk rfl rfl rfl rfl (fun w hs => sl rfl hk rfl rfl rfl ag3 (box_cell hs (k := 1) rfl rfl) fun a hk => qe hk) fun a hk => ?_
    refine qst (.pointer (some ⟨b0_, 0, none⟩)) hk rfl rfl rfl rfl (fun w hs => sm _ rfl hk rfl rfl rfl fun a hk => qe hk) fun a hk => ?_
    refine qst (.pointer (some ⟨b0_, 0, none⟩)) hk rfl rfl rfl rfl (fun w hs => snk rfl hk rfl rfl rfl fun a hk => qe hk) fun a hk => ?_
    refine qst (.pointer (some ⟨b0_, 0, none⟩)) hk rfl rfl rfl rfl (fun w hs => sf ⟨b0_, 0, none⟩ rfl hk rfl rfl rfl fd183_0 rfl fun a hk => qe hk) fun a hk => ?_
    refine qst (.slice A0_0 x0.list.length p0_0) hk rfl rfl rfl rfl (fun w hs => sl rfl hk rfl rfl rfl ag31 (box_cell hs (k := 1) rfl rfl) fun a hk => qe hk) fun a hk => ?_
    refine qst (.int .i64 (x0.list.length : Int)) hk rfl rfl rfl rfl (fun w hs => sle rfl hk rfl rfl rfl un31 fun a hk => qe hk) fun a hk => ?_
    refine qst (.bool (x0.at_ == (x0.list.length : Int))) hk rfl rfl rfl rfl (fun w hs => sv (.bool (x0.at_ == (x0.list.length : Int))) hk rfl rfl rfl fun a hk => qe hk) fun a hk => ?_
    refine qst (.bool (x0.at_ == (x0.list.length : Int))) hk rfl rfl rfl rfl (fun w hs => sv (.bool (x0.at_ == (x0.list.length : Int))) hk rfl rfl rfl fun a hk => qe hk) fun a hk => ?_
    refine qst (.bool (x0.at_ == (x0.list.length : Int))) hk rfl rfl rfl rfl (fun w hs => sm _ rfl hk rfl rfl rfl fun a hk => qe hk) fun a hk => ?_
    rcases cond_some H with ⟨c11, H⟩ | ⟨c11, H⟩
    ·have hk := hk.lit 23 c11 rfl
     refine qsk hk rfl rfl rfl rfl fun a hk => ?_
     refine qsk hk rfl rfl rfl rfl fun a hk => ?_
     refine qsk hk rfl rfl rfl rfl fun a hk => ?_
     refine qsk hk rfl rfl rfl rfl fun a hk => ?_
     refine qsk hk rfl rfl rfl rfl fun a hk => ?_
     refine qsk hk rfl rfl rfl rfl fun a hk => ?_
     refine qsk hk rfl rfl rfl rfl fun a hk => ?_
     refine qsk hk rfl rfl rfl rfl fun a hk => ?_
     refine qsk hk rfl rfl rfl rfl fun a hk => ?_
     refine qsk hk rfl rfl rfl rfl fun a hk => ?_
     refine qsk hk rfl rfl rfl rfl fun a hk => ?_
     refine qsk hk rfl rfl rfl rfl fun a hk => ?_
     refine qsk hk rfl rfl rfl rfl fun a hk => ?_
     refine qsk hk rfl rfl rfl rfl fun a hk => ?_
     refine qst (.bool true) hk rfl rfl rfl rfl (fun w hs => sv (.bool true) hk rfl rfl rfl fun a hk => qe hk) fun a hk => ?_
     refine wml_nil fun w hF _ => ?_
     have hs := hs.f hF
     obtain rfl := Option.some.inj H
     show R9 _ _
     rw [hR9]
     exact ⟨true, rfl, (hk.c 0 rfl (hk.c 38 rfl hk.k)), (hs.pick [(1, 1)] rfl)⟩
    ·have hk := hk.lit 23 c11 rfl
     refine qst (.pointer (some ⟨b0_, 0, none⟩)) hk rfl rfl rfl rfl (fun w hs => sm _ rfl hk rfl rfl rfl fun a hk => qe hk) fun a hk => ?_
     refine qst (.pointer (some ⟨b0_, 0, none⟩)) hk rfl rfl rfl rfl (fun w hs => snk rfl hk rfl rfl rfl fun a hk => qe hk) fun a hk => ?_
     refine qst (.pointer (some ⟨b0_, 0, none⟩)) hk rfl rfl rfl rfl (fun w hs => sf ⟨b0_, 0, none⟩ rfl hk rfl rfl rfl fd183_0 rfl fun a hk => qe hk) fun a hk => ?_
     refine qst (.slice A0_0 x0.list.length p0_0) hk rfl rfl rfl rfl (fun w hs => sl rfl hk rfl rfl rfl ag31 (box_cell hs (k := 1) rfl rfl) fun a hk => qe hk) fun a hk => ?_
     refine qst (.pointer (some ⟨b0_, 0, none⟩)) hk rfl rfl rfl rfl (fun w hs => sm _ rfl hk rfl rfl rfl fun a hk => qe hk) fun a hk => ?_
     refine qst (.pointer (some ⟨b0_, 0, none⟩)) hk rfl rfl rfl rfl (fun w hs => snk rfl hk rfl rfl rfl fun a hk => qe hk) fun a hk => ?_
     refine qst (.pointer (some ⟨b0_, 1, none⟩)) hk rfl rfl rfl rfl (fun w hs => sf ⟨b0_, 1, none⟩ rfl hk rfl rfl rfl fd183_1 rfl fun a hk => qe hk) fun a hk => ?_
     refine qst (.int .i64 x0.at_) hk rfl rfl rfl rfl (fun w hs => sl rfl hk rfl rfl rfl ag3 (box_cell hs (k := 1) rfl rfl) fun a hk => qe hk) fun a hk => ?_
     rcases ite_some H with ⟨c12, H⟩ | ⟨_, H⟩
     rotate_left
     ·cases H
     obtain ⟨b13, q14, hAc12⟩ := (v0_0).some_ x0.at_ c12.1 c12.2
     refine qst (.pointer (some (padd A0_0 ((x0.at_).toNat * 1)))) hk rfl rfl rfl rfl (fun w hs => si rfl hk rfl rfl rfl rfl un31 sz3 c12.1 c12.2 hAc12 fun a hk => qe hk) fun a hk => ?_
     obtain ⟨_, rfl, e15⟩ := (v0_0).at_ 0 x0.at_ c12.1 c12.2
     refine qst (.int .i64 (x0.list.getD (x0.at_).toNat 0)) hk rfl rfl rfl rfl (fun w hs => sl (v := (.int .i64 (x0.list.getD (x0.at_).toNat 0))) rfl hk rfl rfl rfl ag3 ((e15 0 _ rfl).cell (hs.hasD (k := 2) rfl)) fun a hk => qe hk) fun a hk => ?_
     refine qst (.int .i64 x1) hk rfl rfl rfl rfl (fun w hs => sm _ rfl hk rfl rfl rfl fun a hk => qe hk) fun a hk => ?_
     refine qst (.int .i64 x2) hk rfl rfl rfl rfl (fun w hs => sm _ rfl hk rfl rfl rfl fun a hk => qe hk) fun a hk => ?_
     obtain ⟨y16, h17, H⟩ := bind_some H
     refine qst (.bool y16) hk rfl rfl rfl rfl (fun w hs => sc rfl en115 hk rfl rfl rfl (impl_within_t _ (x0.list.getD (x0.at_).toNat 0) x1 x2 _ h17) fun _ w hR a hk => qc hR hk) fun a hk => ?_
     refine qst (.bool (!y16)) hk rfl rfl rfl rfl (fun w hs => sv (.bool (!y16)) hk rfl rfl rfl fun a hk => qe hk) fun a hk => ?_
     refine qst (.bool (!y16)) hk rfl rfl rfl rfl (fun w hs => sv (.bool (!y16)) hk rfl rfl rfl fun a hk => qe hk) fun a hk => ?_
     refine wml_nil fun w hF _ => ?_
     have hs := hs.f hF
     obtain rfl := Option.some.inj H
     show R9 _ _
     rw [hR9]
     exact ⟨(!y16), rfl, (hk.c 0 rfl (hk.c 38 rfl hk.k)), (hs.pick [(1, 1)] rfl)⟩
  ·intro a w hR0
   rw [hR9] at hR0
   obtain ⟨u5, rfl, hk, hs⟩ := hR0
   have H := HL8
   try dsimp only at H
   refine hK3 _ _ ?_
   rcases cond_some H with ⟨c18, H⟩ | ⟨c18, H⟩
   ·have hk := hk.lit 38 c18 rfl
    refine cnd_true hk rfl rfl ?_
    apply wp_seq_k; intro K19 hK19
    apply wp_region_lit
    refine sm _ rfl hk rfl rfl rfl fun a hk => ?_
    refine snk rfl hk rfl rfl rfl fun a hk => ?_
    refine sf ⟨b0_, 2, none⟩ rfl hk rfl rfl rfl fd183_2 rfl fun a hk => ?_
    refine ssx (cs' := #[.slice A0_0 x0.list.length p0_0, .int .i64 x0.at_, .bool true]) 1 hs rfl rfl hk rfl rfl rfl rfl sz4 rfl rfl rfl rfl fun w a hk hs => ?_
    show wpList _ _ _ [] _ _
    refine wpList_nil ?_
    refine hK19 _ _ ?_
    apply wp_seq_k; intro K20 hK20
    apply wp_region_lit
    refine sa _ rfl hk rfl rfl rfl fun a hk => ?_
    show wpList _ _ _ [] _ _
    refine wpList_nil ?_
    refine hK20 _ _ ?_
    refine wp_ret ?_
    obtain rfl := Option.some.inj H
    exact fin hk _ [(.int .i64 0)] rfl ⟨rfl, trivial⟩ ⟨rfl, (hs.pick [(0, 1)] rfl).dnil⟩
   ·have hk := hk.lit 38 c18 rfl
    refine cnd_false hk rfl rfl ?_
    refine wp_skip ?_
    refine hK2 _ _ ?_
    apply wp_seq_k; intro K21 hK21
    apply wp_region_lit
    refine sm _ rfl hk rfl rfl rfl fun a hk => ?_
    refine snk rfl hk rfl rfl rfl fun a hk => ?_
    refine sf ⟨b0_, 1, none⟩ rfl hk rfl rfl rfl fd183_1 rfl fun a hk => ?_
    refine sl rfl hk rfl rfl rfl ag3 (box_cell hs (k := 1) rfl rfl) fun a hk => ?_
    refine sv (.int .i64 (w64 (x0.at_ + 1))) hk rfl rfl rfl fun a hk => ?_
    refine snk rfl hk rfl rfl rfl fun a hk => ?_
    refine sf ⟨b0_, 1, none⟩ rfl hk rfl rfl rfl fd183_1 rfl fun a hk => ?_
    refine ssx (cs' := #[.slice A0_0 x0.list.length p0_0, .int .i64 (w64 (x0.at_ + 1)), .bool x0.bad]) 1 hs rfl rfl hk rfl rfl rfl rfl sz3 rfl rfl rfl rfl fun w a hk hs => ?_
    show wpList _ _ _ [] _ _
    refine wpList_nil ?_
    refine hK21 _ _ ?_
    apply wp_seq_k; intro K22 hK22
    refine wp_region_tree (.q 0 (.q 1 (.q 2 (.q 3 (.alt 4 (.alt 5 (.alt 6 (.alt 7 (.alt 8 (.alt 9 (.alt 10 (.last 11) .stop) .stop) .stop) .stop) .stop) .stop) .stop))))) mo (by kernel_rfl) (hs.pick [(1, 1)] rfl) fun _ => ?_
    have hs := hs.drew
    refine tqst (.pointer (some ⟨b0_, 0, none⟩)) hk rfl rfl rfl rfl (fun w hs => sm _ rfl hk rfl rfl rfl fun a hk => qe hk) fun a hk => ?_
    refine tqst (.pointer (some ⟨b0_, 0, none⟩)) hk rfl rfl rfl rfl (fun w hs => snk rfl hk rfl rfl rfl fun a hk => qe hk) fun a hk => ?_
    refine tqst (.pointer (some ⟨b0_, 0, none⟩)) hk rfl rfl rfl rfl (fun w hs => sf ⟨b0_, 0, none⟩ rfl hk rfl rfl rfl fd183_0 rfl fun a hk => qe hk) fun a hk => ?_
    refine tqst (.slice A0_0 x0.list.length p0_0) hk rfl rfl rfl rfl (fun w hs => sl rfl hk rfl rfl rfl ag31 (box_cell hs (k := 1) rfl rfl) fun a hk => qe hk) fun a hk => ?_
    refine tsst hk rfl rfl (fun K_r23_4 hK_r23_4 w hF => ?_) wt_stop
    have hs := hs.f hF
    refine sm _ rfl hk rfl rfl rfl fun a hk => ?_
    refine se (hs.pick [(1, 1)] rfl) hk (hK_r23_4 _ _ ?_)
    refine tsst hk rfl rfl (fun K_r23_5 hK_r23_5 w hF => ?_) wt_stop
    have hs := hs.f hF
    refine snk rfl hk rfl rfl rfl fun a hk => ?_
    refine se (hs.pick [(1, 1)] rfl) hk (hK_r23_5 _ _ ?_)
    refine tsst hk rfl rfl (fun K_r23_6 hK_r23_6 w hF => ?_) wt_stop
    have hs := hs.f hF
    refine sf ⟨b0_, 1, none⟩ rfl hk rfl rfl rfl fd183_1 rfl fun a hk => ?_
    refine se (hs.pick [(1, 1)] rfl) hk (hK_r23_6 _ _ ?_)
    refine tsst hk rfl rfl (fun K_r23_7 hK_r23_7 w hF => ?_) wt_stop
    have hs := hs.f hF
    refine sl rfl hk rfl rfl rfl ag3 (box_cell hs (k := 1) rfl rfl) fun a hk => ?_
    refine se (hs.pick [(1, 1)] rfl) hk (hK_r23_7 _ _ ?_)
    refine tsst hk rfl rfl (fun K_r23_8 hK_r23_8 w hF => ?_) wt_stop
    have hs := hs.f hF
    refine sv (.int .i64 (w64 ((w64 (x0.at_ + 1)) - 1))) hk rfl rfl rfl fun a hk => ?_
    refine se (hs.pick [(1, 1)] rfl) hk (hK_r23_8 _ _ ?_)
    refine tsst hk rfl rfl (fun K_r23_9 hK_r23_9 w hF => ?_) wt_stop
    have hs := hs.f hF
    rcases ite_some H with ⟨c24, H⟩ | ⟨_, H⟩
    rotate_left
    ·cases H
    obtain ⟨b25, q26, hAc24⟩ := (v0_0).some_ (w64 ((w64 (x0.at_ + 1)) - 1)) c24.1 c24.2
    refine si rfl hk rfl rfl rfl rfl un31 sz3 c24.1 c24.2 hAc24 fun a hk => ?_
    refine se (hs.pick [(1, 1)] rfl) hk (hK_r23_9 _ _ ?_)
    refine tsst hk rfl rfl (fun K_r23_10 hK_r23_10 w hF => ?_) wt_stop
    have hs := hs.f hF
    obtain ⟨_, rfl, e27⟩ := (v0_0).at_ 0 (w64 ((w64 (x0.at_ + 1)) - 1)) c24.1 c24.2
    refine sl (v := (.int .i64 (x0.list.getD (w64 ((w64 (x0.at_ + 1)) - 1)).toNat 0))) rfl hk rfl rfl rfl ag3 ((e27 0 _ rfl).cell (hs.hasD (k := 2) rfl)) fun a hk => ?_
    refine se (hs.pick [(1, 1)] rfl) hk (hK_r23_10 _ _ ?_)
    refine tlst hk rfl rfl fun K_r23_11 hK_r23_11 w hF => ?_
    have hs := hs.f hF
    refine sa _ rfl hk rfl rfl rfl fun a hk => ?_
    refine se trivial hk (hK_r23_11 _ _ fun w hF => ?_)
    have hs := hs.f hF
    refine hK22 _ _ ?_
    refine wp_ret ?_
    obtain rfl := Option.some.inj H
    exact fin hk _ [(.int .i64 (x0.list.getD (w64 ((w64 (x0.at_ + 1)) - 1)).toNat 0))] rfl ⟨rfl, trivial⟩ ⟨rfl, (hs.pick [(0, 1)] rfl).dnil⟩

end Go.Proofs.Ytmgfkpfacdlfbaa
