/- Further functions. -/
import Derived.Test.YtfjhdkmdidadiaaDoorGXReadResult
namespace Go.Proofs.YtfjhdkmdidadiaaDoor
open Go Go.Z Go.Proofs Go.MuLone Go.ChangeShapes Go.WideShapes Go.ChangeAt Go.RowKit
set_option linter.unusedVariables false
set_option linter.unusedSimpArgs false
noncomputable def impl_ReadResult.f (x0 : ByteArray) : Option (S_Result × Int) :=
  ((impl_areShort.f ([x0])).bind fun y8 => (bif (!y8) then (some ((⟨0, ([] : List Int)⟩ : S_Result), 2)) else ((impl_wordsOf.f x0).bind fun y13 => (bif ((y13.length : Int) == 0) then (some ((⟨0, ([] : List Int)⟩ : S_Result), 3)) else (if 0 ≤ (1 : Int) ∧ (1 : Int) ≤ (y13.length : Int) then ((impl_readNumbers.f (y13.drop (1 : Int).toNat)).bind fun y27 => (if 0 ≤ (0 : Int) ∧ (0 : Int) < (y13.length : Int) then ((impl_CodeOf.f (y13.getD (0 : Int).toNat ByteArray.empty)).bind fun y38 => (((bif (!y27.2) then (some true) else ((impl_isResult.f (⟨y38, y27.1⟩ : S_Result)).bind fun y50 => (some (!y50)))) : Option (Bool)).bind fun u44 => (bif u44 then (some ((⟨0, ([] : List Int)⟩ : S_Result), 3)) else (some ((⟨y38, y27.1⟩ : S_Result), 0))))) else none)) else none)))))
set_option maxRecDepth 100000 in
set_option maxHeartbeats 0 in
theorem impl_ReadResult_t (w0 : World) (x0 : ByteArray) (kT : Chunk) (tT : TabR Tryd.prog kT) (wT : Has w0 kT) (r : S_Result × Int) (H : impl_ReadResult.f x0 = some r) :
    Calls Tryd.prog 25 #[.string x0] w0 (Ret (fun v w => ∃ (A0 : Option Addr) (p0 : Nat) (k0 : Chunk), v = .tuple #[.agg #[.int .i64 r.1.Code, .slice A0 r.1.Values.length p0], .int .i64 r.2] ∧ Own (Lay.int .i64) 3 A0 p0 r.1.Values k0 ∧ Sat [] w0 w [] [(0, k0)])) := by
  have hs : Sat [] w0 w0 [(1, kT)] [] := Sat.init w0 [(1, kT)] [] (by simp only [List.mem_cons, List.not_mem_nil, or_false]; rintro x (rfl) <;> assumption) (by simp) List.nodup_nil (by simp [blks])
  unfold impl_ReadResult.f at H
  refine enter Tryd.func25 rfl Tryd.ntmps25 rfl fun a hk => ?_
  apply wp_seq_k; intro K1 hK1
  apply wp_region_lit
  refine salx 2 hs rfl hk rfl rfl ze34 rfl fun b2 w a hk hs => ?_
  refine sa _ rfl hk rfl rfl rfl fun a hk => ?_
  show wpList _ _ _ [] _ _
  refine wpList_nil ?_
  refine hK1 _ _ ?_
  apply wp_seq_k; intro K3 hK3
  apply wp_seq_k; intro K4 hK4
  apply wp_region_lit
  refine sm _ rfl hk rfl rfl rfl fun a hk => ?_
  refine sbs (L := Lay.str) (pv := [(0, (.string x0))]) (xs := [x0]) (ess := [[.string x0]]) 3 hs rfl hk rfl rfl rfl un73 (bs9_0 x0) (AllOwn.cons0 ⟨rfl, rfl⟩ AllOwn.nil) rfl rfl rfl fun b5 k6 w a hk o7 hs => ?_
  obtain ⟨y8, h9, H⟩ := bind_some H
  refine sc rfl en47 hk rfl rfl rfl (impl_areShort_t _ (some ⟨b5, 0, none⟩) 1 ([x0]) _ o7.view (hs.hasG (k := 3) rfl) _ h9) ?_
  rintro _ w ⟨rfl, hG⟩ a hk
  have hs := hs.call0 hG
  refine sv (.bool (!y8)) hk rfl rfl rfl fun a hk => ?_
  show wpList _ _ _ [] _ _
  refine wpList_nil ?_
  refine hK4 _ _ ?_
  rcases cond_some H with ⟨c10, H⟩ | ⟨c10, H⟩
  ·have hk := hk.lit 11 c10 rfl
   refine cnd_true hk rfl rfl ?_
   apply wp_seq_k; intro K11 hK11
   apply wp_region_lit
   refine sbd (pv := []) rfl hk rfl rfl rfl bd34_3 fun a hk => ?_
   refine ssw 2 hs rfl rfl hk rfl rfl rfl rfl sz34 (by simp [Value.oneCell']) rfl fun w a hk hs => ?_
   refine sa _ rfl hk rfl rfl rfl fun a hk => ?_
   show wpList _ _ _ [] _ _
   refine wpList_nil ?_
   refine hK11 _ _ ?_
   refine wp_ret ?_
   obtain rfl := Option.some.inj H
   have hs := hs.addNil 4
   exact fin hk _ [(.agg #[.int .i64 0, .slice none 0 0]), (.int .i64 2)] rfl ⟨⟨_, rfl, run_loadN ag34 sz34 (box_cells hs (k := 2) rfl)⟩, ⟨rfl, trivial⟩⟩ ⟨none, 0, [], rfl, Own.nil _ _, (hs.pick [(0, 4)] rfl).dnil⟩
  ·have hk := hk.lit 11 c10 rfl
   refine cnd_false hk rfl rfl ?_
   refine wp_skip ?_
   refine hK3 _ _ ?_
   apply wp_seq_k; intro K12 hK12
   apply wp_region_lit
   refine sm _ rfl hk rfl rfl rfl fun a hk => ?_
   obtain ⟨y13, h14, H⟩ := bind_some H
   refine sc rfl en52 hk rfl rfl rfl (impl_wordsOf_t _ x0 kT tT (hs.hasD (k := 1) rfl) _ h14) ?_
   rintro _ w ⟨A15, p16, k17, rfl, o18, hG⟩ a hk
   have hs := hs.call0k hG [5] rfl
   refine sa _ rfl hk rfl rfl rfl fun a hk => ?_
   show wpList _ _ _ [] _ _
   refine wpList_nil ?_
   refine hK12 _ _ ?_
   have hs := hs.pick [(5, 5), (2, 2)] rfl
   apply wp_seq_k; intro K19 hK19
   apply wp_seq_k; intro K20 hK20
   apply wp_region_lit
   refine sm _ rfl hk rfl rfl rfl fun a hk => ?_
   refine sle rfl hk rfl rfl rfl un73 fun a hk => ?_
   refine sv (.bool ((y13.length : Int) == 0)) hk rfl rfl rfl fun a hk => ?_
   show wpList _ _ _ [] _ _
   refine wpList_nil ?_
   refine hK20 _ _ ?_
   rcases cond_some H with ⟨c21, H⟩ | ⟨c21, H⟩
   ·have hk := hk.lit 17 c21 rfl
    refine cnd_true hk rfl rfl ?_
    apply wp_seq_k; intro K22 hK22
    apply wp_region_lit
    refine sbd (pv := []) rfl hk rfl rfl rfl bd34_3 fun a hk => ?_
    refine ssw 2 hs rfl rfl hk rfl rfl rfl rfl sz34 (by simp [Value.oneCell']) rfl fun w a hk hs => ?_
    refine sa _ rfl hk rfl rfl rfl fun a hk => ?_
    show wpList _ _ _ [] _ _
    refine wpList_nil ?_
    refine hK22 _ _ ?_
    refine wp_ret ?_
    obtain rfl := Option.some.inj H
    have hs := hs.addNil 6
    exact fin hk _ [(.agg #[.int .i64 0, .slice none 0 0]), (.int .i64 3)] rfl ⟨⟨_, rfl, run_loadN ag34 sz34 (box_cells hs (k := 2) rfl)⟩, ⟨rfl, trivial⟩⟩ ⟨none, 0, [], rfl, Own.nil _ _, (hs.pick [(0, 6)] rfl).dnil⟩
   ·have hk := hk.lit 17 c21 rfl
    refine cnd_false hk rfl rfl ?_
    refine wp_skip ?_
    refine hK19 _ _ ?_
    apply wp_seq_k; intro K23 hK23
    apply wp_region_lit
    refine sm _ rfl hk rfl rfl rfl fun a hk => ?_
    rcases ite_some H with ⟨c24, H⟩ | ⟨_, H⟩
    rotate_left
    ·cases H
    refine sll_l rfl hk rfl rfl rfl rfl un73 sz9 c24.1 c24.2 fun a hk => ?_
    have v25 : View Lay.str (if p16 = (1 : Int).toNat then A15 else (A15 : Option Addr).map (·.add ((1 : Int).toNat * 1))) (p16 - (1 : Int).toNat) (y13.drop (1 : Int).toNat) k17 := (o18.view).dropv (1 : Int).toNat (by omega)
    have lh26 : (y13.drop (1 : Int).toNat).length = (y13.length - (1 : Int).toNat) := (by rw [List.length_drop])
    have hk := hk.re 21 (v' := (.slice (if p16 = (1 : Int).toNat then A15 else (A15 : Option Addr).map (·.add ((1 : Int).toNat * 1))) (y13.drop (1 : Int).toNat).length (p16 - (1 : Int).toNat))) rfl (by rw [lh26])
    obtain ⟨y27, h28, H⟩ := bind_some H
    refine sc rfl en53 hk rfl rfl rfl (impl_readNumbers_t _ (if p16 = (1 : Int).toNat then A15 else (A15 : Option Addr).map (·.add ((1 : Int).toNat * 1))) (p16 - (1 : Int).toNat) (y13.drop (1 : Int).toNat) _ v25 (hs.hasG (k := 5) rfl) kT tT (hs.hasD (k := 1) rfl) _ h28) ?_
    rintro _ w ⟨A29, p30, k31, rfl, o32, hG⟩ a hk
    have hs := hs.call0k hG [7] rfl
    refine sm _ rfl hk rfl rfl rfl fun a hk => ?_
    refine sv (.slice A29 y27.1.length p30) hk rfl rfl rfl fun a hk => ?_
    refine sv (.bool y27.2) hk rfl rfl rfl fun a hk => ?_
    refine sa _ rfl hk rfl rfl rfl fun a hk => ?_
    refine sa _ rfl hk rfl rfl rfl fun a hk => ?_
    show wpList _ _ _ [] _ _
    refine wpList_nil ?_
    refine hK23 _ _ ?_
    apply wp_seq_k; intro K33 hK33
    apply wp_region_lit
    refine sm _ rfl hk rfl rfl rfl fun a hk => ?_
    rcases ite_some H with ⟨c34, H⟩ | ⟨_, H⟩
    rotate_left
    ·cases H
    obtain ⟨b35, q36, hAc34⟩ := (o18.view).some_ (0 : Int) c34.1 c34.2
    refine si rfl hk rfl rfl rfl rfl un73 sz9 c34.1 c34.2 hAc34 fun a hk => ?_
    obtain ⟨_, rfl, e37⟩ := (o18.view).at_ ByteArray.empty (0 : Int) c34.1 c34.2
    refine sl (v := (.string (y13.getD (0 : Int).toNat ByteArray.empty))) rfl hk rfl rfl rfl ag9 ((e37 0 _ rfl).cell (hs.hasG (k := 5) rfl)) fun a hk => ?_
    obtain ⟨y38, h39, H⟩ := bind_some H
    refine sc rfl en54 hk rfl rfl rfl (impl_CodeOf_t _ (y13.getD (0 : Int).toNat ByteArray.empty) _ h39) ?_
    rintro _ w ⟨rfl, hG⟩ a hk
    have hs := hs.call0 hG
    refine sm _ rfl hk rfl rfl rfl fun a hk => ?_
    refine sbd (pv := [(0, (.int .i64 y38)), (1, (.slice A29 y27.1.length p30))]) rfl hk rfl rfl rfl (bd34_6 y38 A29 y27.1.length p30) fun a hk => ?_
    refine salx 8 hs rfl hk rfl rfl ze34 rfl fun b40 w a hk hs => ?_
    refine ssw 8 hs rfl rfl hk rfl rfl rfl rfl sz34 (by simp [Value.oneCell']) rfl fun w a hk hs => ?_
    show wpList _ _ _ [] _ _
    refine wpList_nil ?_
    refine hK33 _ _ ?_
    have hs := hs.pick [(2, 2), (8, 8), (7, 7)] rfl
    apply wp_seq_k; intro K41 hK41
    apply wp_seq_k; intro K42 hK42
    obtain ⟨o45, h46, HL47⟩ := bind_some H
    clear H
    obtain ⟨R48, hR48⟩ : ∃ R : Act → World → Prop, R = fun a w => ∃ (u44 : Bool), u44 = o45 ∧ Kn [(2, (.pointer (some ⟨b2, 0, none⟩))), (7, (.pointer (some ⟨b40, 0, none⟩))), (37, (.bool u44))] 40 a ∧ Sat [] w0 w [(1, kT)] [(2, [(b2, .cells #[.int .i64 0, .slice none 0 0] 34 (0, 0))]), (8, [(b40, .cells #[.int .i64 y38, .slice A29 y27.1.length p30] 34 (0, 0))]), (7, k31)] := ⟨_, rfl⟩
    refine wp_cutq R48 ?_ ?_
    ·have H := h46
     apply wp_region_lit
     refine sm _ rfl hk rfl rfl rfl fun a hk => ?_
     refine sv (.bool (!y27.2)) hk rfl rfl rfl fun a hk => ?_
     refine sm _ rfl hk rfl rfl rfl fun a hk => ?_
     rcases cond_some H with ⟨c49, H⟩ | ⟨c49, H⟩
     ·have hk := hk.lit 33 c49 rfl
      refine sk hk rfl rfl rfl fun a hk => ?_
      refine sk hk rfl rfl rfl fun a hk => ?_
      refine sk hk rfl rfl rfl fun a hk => ?_
      refine sv (.bool true) hk rfl rfl rfl fun a hk => ?_
      show wpList _ _ _ [] _ _
      refine wpList_nil ?_
      obtain rfl := Option.some.inj H
      show R48 _ _
      rw [hR48]
      exact ⟨true, rfl, (hk.c 2 rfl (hk.c 7 rfl (hk.c 37 rfl hk.k))), (hs.pick [(2, 2), (8, 8), (7, 7)] rfl)⟩
     ·have hk := hk.lit 33 c49 rfl
      refine sln [.int .i64 y38, .slice A29 y27.1.length p30] rfl hk rfl rfl rfl ag34 sz34 (box_cells hs (k := 8) rfl) fun a hk => ?_
      obtain ⟨y50, h51, H⟩ := bind_some H
      refine sc rfl en36 hk rfl rfl rfl (impl_isResult_t _ (⟨y38, y27.1⟩ : S_Result) A29 p30 _ o32.view (hs.hasG (k := 7) rfl) _ h51) ?_
      rintro _ w ⟨rfl, hG⟩ a hk
      have hs := hs.call0 hG
      refine sv (.bool (!y50)) hk rfl rfl rfl fun a hk => ?_
      refine sv (.bool (!y50)) hk rfl rfl rfl fun a hk => ?_
      show wpList _ _ _ [] _ _
      refine wpList_nil ?_
      obtain rfl := Option.some.inj H
      show R48 _ _
      rw [hR48]
      exact ⟨(!y50), rfl, (hk.c 2 rfl (hk.c 7 rfl (hk.c 37 rfl hk.k))), (hs.pick [(2, 2), (8, 8), (7, 7)] rfl)⟩
    ·intro a w hR0
     rw [hR48] at hR0
     obtain ⟨u44, rfl, hk, hs⟩ := hR0
     have H := HL47
     try dsimp only at H
     refine hK42 _ _ ?_
     rcases cond_some H with ⟨c52, H⟩ | ⟨c52, H⟩
     ·have hk := hk.lit 37 c52 rfl
      refine cnd_true hk rfl rfl ?_
      apply wp_seq_k; intro K53 hK53
      apply wp_region_lit
      refine sbd (pv := []) rfl hk rfl rfl rfl bd34_3 fun a hk => ?_
      refine ssw 2 hs rfl rfl hk rfl rfl rfl rfl sz34 (by simp [Value.oneCell']) rfl fun w a hk hs => ?_
      refine sa _ rfl hk rfl rfl rfl fun a hk => ?_
      show wpList _ _ _ [] _ _
      refine wpList_nil ?_
      refine hK53 _ _ ?_
      refine wp_ret ?_
      obtain rfl := Option.some.inj H
      have hs := hs.addNil 10
      exact fin hk _ [(.agg #[.int .i64 0, .slice none 0 0]), (.int .i64 3)] rfl ⟨⟨_, rfl, run_loadN ag34 sz34 (box_cells hs (k := 2) rfl)⟩, ⟨rfl, trivial⟩⟩ ⟨none, 0, [], rfl, Own.nil _ _, (hs.pick [(0, 10)] rfl).dnil⟩
     ·have hk := hk.lit 37 c52 rfl
      refine cnd_false hk rfl rfl ?_
      refine wp_skip ?_
      refine hK41 _ _ ?_
      apply wp_seq_k; intro K54 hK54
      apply wp_region_lit
      refine sln [.int .i64 y38, .slice A29 y27.1.length p30] rfl hk rfl rfl rfl ag34 sz34 (box_cells hs (k := 8) rfl) fun a hk => ?_
      refine ssw 2 hs rfl rfl hk rfl rfl rfl rfl sz34 (by simp [Value.oneCell']) rfl fun w a hk hs => ?_
      refine sa _ rfl hk rfl rfl rfl fun a hk => ?_
      show wpList _ _ _ [] _ _
      refine wpList_nil ?_
      refine hK54 _ _ ?_
      refine wp_ret ?_
      obtain rfl := Option.some.inj H
      exact fin hk _ [(.agg #[.int .i64 y38, .slice A29 y27.1.length p30]), (.int .i64 0)] rfl ⟨⟨_, rfl, run_loadN ag34 sz34 (box_cells hs (k := 2) rfl)⟩, ⟨rfl, trivial⟩⟩ ⟨A29, p30, _, rfl, o32, (hs.pick [(0, 7)] rfl).dnil⟩

noncomputable def laws_markIntS.s0 (l0 : List Int) (u6 : List Int) (u10 : Int) (u11 : Int) : Option (((List Int) × Int × Int) ⊕ Ex ((List Int) × Int) (Int × (List Int))) :=
  (bif (decide (u11 < (l0.length : Int))) then (if 0 ≤ u11 ∧ u11 < (l0.length : Int) then (some (.inl ((u6.set u11.toNat u10), (w64 (u10 + 1)), (w64 (u11 + 1))))) else none) else (some (.inr (.out (u6, u10)))))
noncomputable def laws_markIntS.f (l0 : List Int) (x1 : Int) : Option (Int × (List Int)) :=
  ((loopO (fun s => laws_markIntS.s0 l0 s.1 s.2.1 s.2.2) (l0, x1, 0)).bind fun o => match o with | .out (u12, u16) => (some (u16, u12)) | .ret r => (some r))
set_option maxRecDepth 100000 in
set_option maxHeartbeats 0 in
theorem laws_markIntS_t (w0 : World) (A0_ : Option Addr) (p0_ : Nat) (l0 : List Int) (k0_ : Chunk) (v0_ : Own (Lay.int .i64) 3 A0_ p0_ l0 k0_) (x1 : Int) (hs0 : Sat (blks [(1, k0_)]) w0 w0 [] [(1, k0_)]) (r : Int × (List Int)) (H : laws_markIntS.f l0 x1 = some r) :
    Calls Tryd.prog 55 #[.slice A0_ l0.length p0_, .int .i64 x1] w0 (Ret (fun v w => ∃ (k0 : Chunk), v = .int .i64 r.1 ∧ (Own (Lay.int .i64) 3 A0_ p0_ r.2 k0 ∧ r.2.length = l0.length) ∧ Sat (blks [(1, k0_)]) w0 w [] [(0, k0)])) := by
  have hs := hs0
  unfold laws_markIntS.f at H
  refine enter Tryd.func55 rfl Tryd.ntmps55 rfl fun a hk => ?_
  apply wp_seq_k; intro K1 hK1
  apply wp_region_lit
  refine sa _ rfl hk rfl rfl rfl fun a hk => ?_
  show wpList _ _ _ [] _ _
  refine wpList_nil ?_
  refine hK1 _ _ ?_
  apply wp_seq_k; intro K2 hK2
  apply wp_seq_k; intro K3 hK3
  apply wp_region_lit
  refine sa _ rfl hk rfl rfl rfl fun a hk => ?_
  show wpList _ _ _ [] _ _
  refine wpList_nil ?_
  refine hK3 _ _ ?_
  obtain ⟨o17, h18, HL19⟩ := bind_some H
  clear H
  obtain ⟨R20, hR20⟩ : ∃ R : Act → World → Prop, R = fun a w => ∃ (u12 : List Int) (u16 : Int) (k13 : Chunk), o17 = .out (u12, u16) ∧ Kn [(0, (.slice A0_ l0.length p0_)), (1, (.int .i64 u16))] 19 a ∧ Sat (blks [(1, k0_)]) w0 w [] [(1, k13)] ∧ Own (Lay.int .i64) 3 A0_ p0_ u12 k13 ∧ u12.length = l0.length := ⟨_, rfl⟩
  refine wp_cutq R20 ?_ ?_
  ·refine wp_block ?_
   obtain ⟨fu22, h18⟩ := loopO_some h18
   obtain ⟨I21, hI21⟩ : ∃ I : Nat → Act → World → Prop, I = fun fu a w => ∃ (u6 : List Int) (u10 : Int) (u11 : Int) (k7 : Chunk), loopN (fun s => laws_markIntS.s0 l0 s.1 s.2.1 s.2.2) fu (u6, u10, u11) = some o17 ∧ Kn [(0, (.slice A0_ l0.length p0_)), (1, (.int .i64 u10)), (5, (.int .i64 u11))] 19 a ∧ Sat (blks [(1, k0_)]) w0 w [] [(1, k7)] ∧ Own (Lay.int .i64) 3 A0_ p0_ u6 k7 ∧ u6.length = l0.length := ⟨_, rfl⟩
   refine wp_loop_ghost I21 fu22 ?_ ?_
   ·rw [hI21]
    exact ⟨l0, x1, 0, _, h18, (hk.c 0 rfl (hk.c 1 rfl (hk.c 5 rfl hk.k))), (hs.pick [(1, 1)] rfl), v0_, rfl⟩
   ·clear h18 hk hs
    intro fu22 a w hI0
    rw [hI21] at hI0
    obtain ⟨u6, u10, u11, k7, hi, hk, hs, o8, lh9⟩ := hI0
    obtain ⟨x23, H, h24⟩ := loop_round hi
    try dsimp only at H
    unfold laws_markIntS.s0 at H
    apply wp_seq_k; intro K25 hK25
    apply wp_seq_k; intro K26 hK26
    apply wp_region_lit
    refine sm _ rfl hk rfl rfl rfl fun a hk => ?_
    refine sm _ rfl hk rfl rfl rfl fun a hk => ?_
    refine sle rfl hk rfl rfl rfl un29 fun a hk => ?_
    refine sv (.bool (decide (u11 < (l0.length : Int)))) hk rfl rfl rfl fun a hk => ?_
    show wpList _ _ _ [] _ _
    refine wpList_nil ?_
    refine hK26 _ _ ?_
    rcases cond_some H with ⟨c27, H⟩ | ⟨c27, H⟩
    ·have hk := hk.lit 9 c27 rfl
     refine cnd_true hk rfl rfl ?_
     refine wp_skip ?_
     refine hK25 _ _ ?_
     have hs := hs.pick [(1, 1)] rfl
     apply wp_seq_k; intro K28 hK28
     refine wp_block ?_
     apply wp_seq_k; intro K29 hK29
     apply wp_region_lit
     refine sm _ rfl hk rfl rfl rfl fun a hk => ?_
     refine sm _ rfl hk rfl rfl rfl fun a hk => ?_
     refine sm _ rfl hk rfl rfl rfl fun a hk => ?_
     rcases ite_some H with ⟨c30, H⟩ | ⟨_, H⟩
     rotate_left
     ·cases H
     obtain ⟨b31, q32, hAc30⟩ := (o8.view).some_ u11 c30.1 (by rw [lh9]; exact c30.2)
     refine si rfl hk rfl rfl rfl rfl un29 sz3 c30.1 c30.2 hAc30 fun a hk => ?_
     refine so (j := 0) 1 0 u10 hs rfl o8 c30.1 (by rw [lh9]; exact c30.2) rfl hk rfl rfl rfl rfl rfl sz3 (by simp [Value.cells, Value.oneCell']) (Nat.le_of_ble_eq_true rfl) (fun _ _ h => ⟨by rw [h.1]; rfl, h.2⟩) fun k33 w a hk o34 hs => ?_
     have lh35 : (u6.set u11.toNat u10).length = l0.length := by rw [List.length_set]; exact lh9
     show wpList _ _ _ [] _ _
     refine wpList_nil ?_
     refine hK29 _ _ ?_
     apply wp_region_lit
     refine sm _ rfl hk rfl rfl rfl fun a hk => ?_
     refine sv (.int .i64 (w64 (u10 + 1))) hk rfl rfl rfl fun a hk => ?_
     refine sa _ rfl hk rfl rfl rfl fun a hk => ?_
     show wpList _ _ _ [] _ _
     refine wpList_nil ?_
     refine hK28 _ _ ?_
     apply wp_region_lit
     refine sm _ rfl hk rfl rfl rfl fun a hk => ?_
     refine sv (.int .i64 (w64 (u11 + 1))) hk rfl rfl rfl fun a hk => ?_
     refine sa _ rfl hk rfl rfl rfl fun a hk => ?_
     show wpList _ _ _ [] _ _
     refine wpList_nil ?_
     obtain rfl := Option.some.inj H
     obtain ⟨m36, hmm36, h24⟩ := h24
     show ∃ n', n' < _ ∧ I21 n' _ _
     refine ⟨m36, hmm36, ?_⟩
     rw [hI21]
     exact ⟨(u6.set u11.toNat u10), (w64 (u10 + 1)), (w64 (u11 + 1)), _, h24, (hk.c 0 rfl (hk.c 1 rfl (hk.c 5 rfl hk.k))), (hs.pick [(1, 1)] rfl), o34, lh35⟩
    ·have hk := hk.lit 9 c27 rfl
     refine cnd_false hk rfl rfl ?_
     refine wp_exit ?_
     obtain rfl := Option.some.inj H
     show R20 _ _
     rw [hR20]
     exact ⟨u6, u10, _, h24.symm, (hk.c 0 rfl (hk.c 1 rfl hk.k)), (hs.pick [(1, 1)] rfl), o8, lh9⟩
  ·intro a w hR0
   rw [hR20] at hR0
   obtain ⟨u12, u16, k13, rfl, hk, hs, o14, lh15⟩ := hR0
   have H := HL19
   try dsimp only at H
   refine hK2 _ _ ?_
   apply wp_seq_k; intro K37 hK37
   apply wp_region_lit
   refine sm _ rfl hk rfl rfl rfl fun a hk => ?_
   refine sa _ rfl hk rfl rfl rfl fun a hk => ?_
   show wpList _ _ _ [] _ _
   refine wpList_nil ?_
   refine hK37 _ _ ?_
   have hs := hs.pick [(1, 1)] rfl
   refine wp_ret ?_
   obtain rfl := Option.some.inj H
   exact fin hk _ [(.int .i64 u16)] rfl ⟨rfl, trivial⟩ ⟨_, rfl, ⟨o14, lh15⟩, (hs.pick [(0, 1)] rfl).dnil⟩

noncomputable def laws_markResult.f (x0 : S_Result) (x1 : Int) : Option (Int × (List Int)) :=
  ((laws_markIntS.f x0.Values x1).bind fun y4 => (some (y4.1, y4.2)))
set_option maxRecDepth 100000 in
set_option maxHeartbeats 0 in
theorem laws_markResult_t (w0 : World) (x0 : S_Result) (A0_0 : Option Addr) (p0_0 : Nat) (k0_0 : Chunk) (v0_0 : Own (Lay.int .i64) 3 A0_0 p0_0 x0.Values k0_0) (x1 : Int) (hs0 : Sat (blks [(1, k0_0)]) w0 w0 [] [(1, k0_0)]) (r : Int × (List Int)) (H : laws_markResult.f x0 x1 = some r) :
    Calls Tryd.prog 26 #[.agg #[.int .i64 x0.Code, .slice A0_0 x0.Values.length p0_0], .int .i64 x1] w0 (Ret (fun v w => ∃ (k0 : Chunk), v = .int .i64 r.1 ∧ (Own (Lay.int .i64) 3 A0_0 p0_0 r.2 k0 ∧ r.2.length = x0.Values.length) ∧ Sat (blks [(1, k0_0)]) w0 w [] [(0, k0)])) := by
  have hs := hs0
  unfold laws_markResult.f at H
  refine enter Tryd.func26 rfl Tryd.ntmps26 rfl fun a hk => ?_
  apply wp_seq_k; intro K1 hK1
  apply wp_region_lit
  refine sbx 2 hs rfl hk rfl rfl rfl rfl fun b2 w a hk hs => ?_
  refine sa _ rfl hk rfl rfl rfl fun a hk => ?_
  show wpList _ _ _ [] _ _
  refine wpList_nil ?_
  refine hK1 _ _ ?_
  apply wp_seq_k; intro K3 hK3
  apply wp_region_lit
  refine sf ⟨b2, 1, none⟩ rfl hk rfl rfl rfl fd34_1 rfl fun a hk => ?_
  refine sl rfl hk rfl rfl rfl ag29 (box_cell hs (k := 2) rfl rfl) fun a hk => ?_
  refine sm _ rfl hk rfl rfl rfl fun a hk => ?_
  obtain ⟨y4, h5, H⟩ := bind_some H
  refine sc rfl en55 hk rfl rfl rfl (laws_markIntS_t _ A0_0 p0_0 x0.Values _ v0_0 x1 ((hs.hand [(1, 1)] rfl).dpick [] rfl) _ h5) ?_
  rintro _ w ⟨k6, rfl, ⟨o7, lh8⟩, hG⟩ a hk
  have hs := hs.back [(1, 1)] rfl hG [1] rfl
  have lh9 : y4.2.length = x0.Values.length := lh8
  refine sa _ rfl hk rfl rfl rfl fun a hk => ?_
  show wpList _ _ _ [] _ _
  refine wpList_nil ?_
  refine hK3 _ _ ?_
  apply wp_seq_k; intro K10 hK10
  apply wp_region_lit
  refine sm _ rfl hk rfl rfl rfl fun a hk => ?_
  refine sa _ rfl hk rfl rfl rfl fun a hk => ?_
  show wpList _ _ _ [] _ _
  refine wpList_nil ?_
  refine hK10 _ _ ?_
  refine wp_ret ?_
  obtain rfl := Option.some.inj H
  exact fin hk _ [(.int .i64 y4.1)] rfl ⟨rfl, trivial⟩ ⟨_, rfl, ⟨o7, lh9⟩, (hs.pick [(0, 1)] rfl).dnil⟩

noncomputable def laws_heldIntS.s0 (l0 : List Int) (u6 : Int) (u7 : Int) : Option ((Int × Int) ⊕ Ex (Int) (Int)) :=
  (bif (decide (u7 < (l0.length : Int))) then (if 0 ≤ u7 ∧ u7 < (l0.length : Int) then (bif ((l0.getD u7.toNat 0) != u6) then (some (.inr (.ret (-1)))) else (some (.inl ((w64 (u6 + 1)), (w64 (u7 + 1)))))) else none) else (some (.inr (.out u6))))
noncomputable def laws_heldIntS.f (l0 : List Int) (x1 : Int) : Option (Int) :=
  ((loopO (fun s => laws_heldIntS.s0 l0 s.1 s.2) (x1, 0)).bind fun o => match o with | .out u8 => (some u8) | .ret r => (some r))
set_option maxRecDepth 100000 in
set_option maxHeartbeats 0 in
theorem laws_heldIntS_t (w0 : World) (A0_ : Option Addr) (p0_ : Nat) (l0 : List Int) (k0_ : Chunk) (v0_ : View (Lay.int .i64) A0_ p0_ l0 k0_) (w0_ : Has w0 k0_) (x1 : Int) (r : Int) (H : laws_heldIntS.f l0 x1 = some r) :
    Calls Tryd.prog 56 #[.slice A0_ l0.length p0_, .int .i64 x1] w0 (Ret (fun v w => v = .int .i64 r ∧ Sat [] w0 w [] [])) := by
  have hs : Sat [] w0 w0 [(1, k0_)] [] := Sat.init w0 [(1, k0_)] [] (by simp only [List.mem_cons, List.not_mem_nil, or_false]; rintro x (rfl) <;> assumption) (by simp) List.nodup_nil (by simp [blks])
  unfold laws_heldIntS.f at H
  refine enter Tryd.func56 rfl Tryd.ntmps56 rfl fun a hk => ?_
  apply wp_seq_k; intro K1 hK1
  apply wp_region_lit
  refine sa _ rfl hk rfl rfl rfl fun a hk => ?_
  show wpList _ _ _ [] _ _
  refine wpList_nil ?_
  refine hK1 _ _ ?_
  apply wp_seq_k; intro K2 hK2
  apply wp_seq_k; intro K3 hK3
  apply wp_region_lit
  refine sa _ rfl hk rfl rfl rfl fun a hk => ?_
  show wpList _ _ _ [] _ _
  refine wpList_nil ?_
  refine hK3 _ _ ?_
  obtain ⟨o9, h10, HL11⟩ := bind_some H
  clear H
  obtain ⟨R12, hR12⟩ : ∃ R : Act → World → Prop, R = fun a w => ∃ (u8 : Int), o9 = .out u8 ∧ Kn [(1, (.int .i64 u8))] 21 a ∧ Sat [] w0 w [(1, k0_)] [] := ⟨_, rfl⟩
  refine wp_cutq R12 ?_ ?_
  ·refine wp_block ?_
   obtain ⟨fu14, h10⟩ := loopO_some h10
   obtain ⟨I13, hI13⟩ : ∃ I : Nat → Act → World → Prop, I = fun fu a w => ∃ (u6 : Int) (u7 : Int), loopN (fun s => laws_heldIntS.s0 l0 s.1 s.2) fu (u6, u7) = some o9 ∧ Kn [(0, (.slice A0_ l0.length p0_)), (1, (.int .i64 u6)), (5, (.int .i64 u7))] 21 a ∧ Sat [] w0 w [(1, k0_)] [] := ⟨_, rfl⟩
   refine wp_loop_ghost I13 fu14 ?_ ?_
   ·rw [hI13]
    exact ⟨x1, 0, h10, (hk.c 0 rfl (hk.c 1 rfl (hk.c 5 rfl hk.k))), (hs.pick [] rfl)⟩
   ·clear h10 hk hs
    intro fu14 a w hI0
    rw [hI13] at hI0
    obtain ⟨u6, u7, hi, hk, hs⟩ := hI0
    obtain ⟨x15, H, h16⟩ := loop_round hi
    try dsimp only at H
    unfold laws_heldIntS.s0 at H
    apply wp_seq_k; intro K17 hK17
    apply wp_seq_k; intro K18 hK18
    apply wp_region_lit
    refine sm _ rfl hk rfl rfl rfl fun a hk => ?_
    refine sm _ rfl hk rfl rfl rfl fun a hk => ?_
    refine sle rfl hk rfl rfl rfl un29 fun a hk => ?_
    refine sv (.bool (decide (u7 < (l0.length : Int)))) hk rfl rfl rfl fun a hk => ?_
    show wpList _ _ _ [] _ _
    refine wpList_nil ?_
    refine hK18 _ _ ?_
    rcases cond_some H with ⟨c19, H⟩ | ⟨c19, H⟩
    ·have hk := hk.lit 9 c19 rfl
     refine cnd_true hk rfl rfl ?_
     refine wp_skip ?_
     refine hK17 _ _ ?_
     have hs := hs.pick [] rfl
     apply wp_seq_k; intro K20 hK20
     refine wp_block ?_
     apply wp_seq_k; intro K21 hK21
     apply wp_seq_k; intro K22 hK22
     apply wp_region_lit
     refine sm _ rfl hk rfl rfl rfl fun a hk => ?_
     refine sm _ rfl hk rfl rfl rfl fun a hk => ?_
     rcases ite_some H with ⟨c23, H⟩ | ⟨_, H⟩
     rotate_left
     ·cases H
     obtain ⟨b24, q25, hAc23⟩ := (v0_).some_ u7 c23.1 c23.2
     refine si rfl hk rfl rfl rfl rfl un29 sz3 c23.1 c23.2 hAc23 fun a hk => ?_
     obtain ⟨_, rfl, e26⟩ := (v0_).at_ 0 u7 c23.1 c23.2
     refine sl (v := (.int .i64 (l0.getD u7.toNat 0))) rfl hk rfl rfl rfl ag3 ((e26 0 _ rfl).cell (hs.hasD (k := 1) rfl)) fun a hk => ?_
     refine sm _ rfl hk rfl rfl rfl fun a hk => ?_
     refine sv (.bool ((l0.getD u7.toNat 0) != u6)) hk rfl rfl rfl fun a hk => ?_
     show wpList _ _ _ [] _ _
     refine wpList_nil ?_
     refine hK22 _ _ ?_
     rcases cond_some H with ⟨c27, H⟩ | ⟨c27, H⟩
     ·have hk := hk.lit 17 c27 rfl
      refine cnd_true hk rfl rfl ?_
      apply wp_seq_k; intro K28 hK28
      apply wp_region_lit
      refine sa _ rfl hk rfl rfl rfl fun a hk => ?_
      show wpList _ _ _ [] _ _
      refine wpList_nil ?_
      refine hK28 _ _ ?_
      refine wp_ret ?_
      obtain rfl := Option.some.inj H
      have ho9 := h16
      try dsimp only at ho9
      subst ho9
      have H := HL11
      try dsimp only at H
      obtain rfl := Option.some.inj H
      exact fin hk _ [(.int .i64 (-1))] rfl ⟨rfl, trivial⟩ ⟨rfl, (hs.pick [] rfl).dnil⟩
     ·have hk := hk.lit 17 c27 rfl
      refine cnd_false hk rfl rfl ?_
      refine wp_skip ?_
      refine hK21 _ _ ?_
      apply wp_region_lit
      refine sm _ rfl hk rfl rfl rfl fun a hk => ?_
      refine sv (.int .i64 (w64 (u6 + 1))) hk rfl rfl rfl fun a hk => ?_
      refine sa _ rfl hk rfl rfl rfl fun a hk => ?_
      show wpList _ _ _ [] _ _
      refine wpList_nil ?_
      refine hK20 _ _ ?_
      apply wp_region_lit
      refine sm _ rfl hk rfl rfl rfl fun a hk => ?_
      refine sv (.int .i64 (w64 (u7 + 1))) hk rfl rfl rfl fun a hk => ?_
      refine sa _ rfl hk rfl rfl rfl fun a hk => ?_
      show wpList _ _ _ [] _ _
      refine wpList_nil ?_
      obtain rfl := Option.some.inj H
      obtain ⟨m29, hmm29, h16⟩ := h16
      show ∃ n', n' < _ ∧ I13 n' _ _
      refine ⟨m29, hmm29, ?_⟩
      rw [hI13]
      exact ⟨(w64 (u6 + 1)), (w64 (u7 + 1)), h16, (hk.c 0 rfl (hk.c 1 rfl (hk.c 5 rfl hk.k))), (hs.pick [] rfl)⟩
    ·have hk := hk.lit 9 c19 rfl
     refine cnd_false hk rfl rfl ?_
     refine wp_exit ?_
     obtain rfl := Option.some.inj H
     show R12 _ _
     rw [hR12]
     exact ⟨u6, h16.symm, (hk.c 1 rfl hk.k), (hs.pick [] rfl)⟩
  ·intro a w hR0
   rw [hR12] at hR0
   obtain ⟨u8, rfl, hk, hs⟩ := hR0
   have H := HL11
   try dsimp only at H
   refine hK2 _ _ ?_
   apply wp_seq_k; intro K30 hK30
   apply wp_region_lit
   refine sm _ rfl hk rfl rfl rfl fun a hk => ?_
   refine sa _ rfl hk rfl rfl rfl fun a hk => ?_
   show wpList _ _ _ [] _ _
   refine wpList_nil ?_
   refine hK30 _ _ ?_
   have hs := hs.pick [] rfl
   refine wp_ret ?_
   obtain rfl := Option.some.inj H
   exact fin hk _ [(.int .i64 u8)] rfl ⟨rfl, trivial⟩ ⟨rfl, (hs.pick [] rfl).dnil⟩

noncomputable def laws_heldResult.f (x0 : S_Result) (x1 : Int) : Option (Int) :=
  ((laws_heldIntS.f x0.Values x1).bind fun y4 => (bif (decide (y4 < 0)) then (some (-1)) else (some y4)))
set_option maxRecDepth 100000 in
set_option maxHeartbeats 0 in
theorem laws_heldResult_t (w0 : World) (x0 : S_Result) (A0_0 : Option Addr) (p0_0 : Nat) (k0_0 : Chunk) (v0_0 : View (Lay.int .i64) A0_0 p0_0 x0.Values k0_0) (w0_0 : Has w0 k0_0) (x1 : Int) (r : Int) (H : laws_heldResult.f x0 x1 = some r) :
    Calls Tryd.prog 27 #[.agg #[.int .i64 x0.Code, .slice A0_0 x0.Values.length p0_0], .int .i64 x1] w0 (Ret (fun v w => v = .int .i64 r ∧ Sat [] w0 w [] [])) := by
  have hs : Sat [] w0 w0 [(1, k0_0)] [] := Sat.init w0 [(1, k0_0)] [] (by simp only [List.mem_cons, List.not_mem_nil, or_false]; rintro x (rfl) <;> assumption) (by simp) List.nodup_nil (by simp [blks])
  unfold laws_heldResult.f at H
  refine enter Tryd.func27 rfl Tryd.ntmps27 rfl fun a hk => ?_
  apply wp_seq_k; intro K1 hK1
  apply wp_region_lit
  refine sbx 2 hs rfl hk rfl rfl rfl rfl fun b2 w a hk hs => ?_
  refine sa _ rfl hk rfl rfl rfl fun a hk => ?_
  show wpList _ _ _ [] _ _
  refine wpList_nil ?_
  refine hK1 _ _ ?_
  apply wp_seq_k; intro K3 hK3
  apply wp_region_lit
  refine sf ⟨b2, 1, none⟩ rfl hk rfl rfl rfl fd34_1 rfl fun a hk => ?_
  refine sl rfl hk rfl rfl rfl ag29 (box_cell hs (k := 2) rfl rfl) fun a hk => ?_
  refine sm _ rfl hk rfl rfl rfl fun a hk => ?_
  obtain ⟨y4, h5, H⟩ := bind_some H
  refine sc rfl en56 hk rfl rfl rfl (laws_heldIntS_t _ A0_0 p0_0 x0.Values _ v0_0 (hs.hasD (k := 1) rfl) x1 _ h5) ?_
  rintro _ w ⟨rfl, hG⟩ a hk
  have hs := hs.call0 hG
  refine sa _ rfl hk rfl rfl rfl fun a hk => ?_
  show wpList _ _ _ [] _ _
  refine wpList_nil ?_
  refine hK3 _ _ ?_
  apply wp_seq_k; intro K6 hK6
  apply wp_seq_k; intro K7 hK7
  apply wp_region_lit
  refine sm _ rfl hk rfl rfl rfl fun a hk => ?_
  refine sv (.bool (decide (y4 < 0))) hk rfl rfl rfl fun a hk => ?_
  show wpList _ _ _ [] _ _
  refine wpList_nil ?_
  refine hK7 _ _ ?_
  rcases cond_some H with ⟨c8, H⟩ | ⟨c8, H⟩
  ·have hk := hk.lit 10 c8 rfl
   refine cnd_true hk rfl rfl ?_
   apply wp_seq_k; intro K9 hK9
   apply wp_region_lit
   refine sa _ rfl hk rfl rfl rfl fun a hk => ?_
   show wpList _ _ _ [] _ _
   refine wpList_nil ?_
   refine hK9 _ _ ?_
   have hs := hs.pick [] rfl
   refine wp_ret ?_
   obtain rfl := Option.some.inj H
   exact fin hk _ [(.int .i64 (-1))] rfl ⟨rfl, trivial⟩ ⟨rfl, (hs.pick [] rfl).dnil⟩
  ·have hk := hk.lit 10 c8 rfl
   refine cnd_false hk rfl rfl ?_
   refine wp_skip ?_
   refine hK6 _ _ ?_
   have hs := hs.pick [] rfl
   apply wp_seq_k; intro K10 hK10
   apply wp_region_lit
   refine sm _ rfl hk rfl rfl rfl fun a hk => ?_
   refine sa _ rfl hk rfl rfl rfl fun a hk => ?_
   show wpList _ _ _ [] _ _
   refine wpList_nil ?_
   refine hK10 _ _ ?_
   refine wp_ret ?_
   obtain rfl := Option.some.inj H
   exact fin hk _ [(.int .i64 y4)] rfl ⟨rfl, trivial⟩ ⟨rfl, (hs.pick [] rfl).dnil⟩

noncomputable def laws_FnExactReadResult.f (x0 : ByteArray) : Option (Bool) :=
  (bif (decide ((x0.size : Int) > 1048576)) then (some true) else ((spec_ReadResult.f x0).bind fun y7 => ((impl_ReadResult.f x0).bind fun y15 => ((((laws_eqResult.f y15.1 y7.1).bind fun y30 => (bif (!y30) then (some true) else (some (y15.2 != y7.2)))) : Option (Bool)).bind fun u25 => (bif u25 then (some false) else ((laws_markResult.f y15.1 1).bind fun y37 => ((laws_heldResult.f (⟨y15.1.Code, y37.2⟩ : S_Result) 1).bind fun y45 => (bif (decide (y45 < 0)) then (some false) else (bif (y45 != y37.1) then (some false) else ((impl_ReadResult.f x0).bind fun y56 => ((((laws_eqResult.f y56.1 y7.1).bind fun y71 => (bif (!y71) then (some true) else (some (y56.2 != y7.2)))) : Option (Bool)).bind fun u66 => (bif u66 then (some false) else ((laws_heldResult.f (⟨y15.1.Code, y37.2⟩ : S_Result) 1).bind fun y78 => (bif (decide (y78 < 0)) then (some false) else (bif (y78 != y37.1) then (some false) else (some true))))))))))))))))
set_option maxRecDepth 100000 in
set_option maxHeartbeats 0 in
theorem laws_FnExactReadResult_t (w0 : World) (x0 : ByteArray) (kT : Chunk) (tT : TabR Tryd.prog kT) (wT : Has w0 kT) (r : Bool) (H : laws_FnExactReadResult.f x0 = some r) :
    Calls Tryd.prog 7 #[.string x0] w0 (Ret (fun v w => v = .bool r ∧ Sat [] w0 w [] [])) := by
  have hs : Sat [] w0 w0 [(1, kT)] [] := Sat.init w0 [(1, kT)] [] (by simp only [List.mem_cons, List.not_mem_nil, or_false]; rintro x (rfl) <;> assumption) (by simp) List.nodup_nil (by simp [blks])
  unfold laws_FnExactReadResult.f at H
  refine enter Tryd.func7 rfl Tryd.ntmps7 rfl fun a hk => ?_
  apply wp_seq_k; intro K1 hK1
  apply wp_region_lit
  refine sa _ rfl hk rfl rfl rfl fun a hk => ?_
  show wpList _ _ _ [] _ _
  refine wpList_nil ?_
  refine hK1 _ _ ?_
  apply wp_seq_k; intro K2 hK2
  apply wp_seq_k; intro K3 hK3
  apply wp_region_lit
  refine sm _ rfl hk rfl rfl rfl fun a hk => ?_
  refine sles rfl hk rfl rfl rfl un9 fun a hk => ?_
  refine sv (.bool (decide ((x0.size : Int) > 1048576))) hk rfl rfl rfl fun a hk => ?_
  show wpList _ _ _ [] _ _
  refine wpList_nil ?_
  refine hK3 _ _ ?_
  rcases cond_some H with ⟨c4, H⟩ | ⟨c4, H⟩
  ·have hk := hk.lit 13 c4 rfl
   refine cnd_true hk rfl rfl ?_
   apply wp_seq_k; intro K5 hK5
   apply wp_region_lit
   refine sa _ rfl hk rfl rfl rfl fun a hk => ?_
   show wpList _ _ _ [] _ _
   refine wpList_nil ?_
   refine hK5 _ _ ?_
   refine wp_ret ?_
   obtain rfl := Option.some.inj H
   exact fin hk _ [(.bool true)] rfl ⟨rfl, trivial⟩ ⟨rfl, (hs.pick [] rfl).dnil⟩
  ·have hk := hk.lit 13 c4 rfl
   refine cnd_false hk rfl rfl ?_
   refine wp_skip ?_
   refine hK2 _ _ ?_
   apply wp_seq_k; intro K6 hK6
   apply wp_region_lit
   refine sm _ rfl hk rfl rfl rfl fun a hk => ?_
   obtain ⟨y7, h8, H⟩ := bind_some H
   refine sc rfl en24 hk rfl rfl rfl (spec_ReadResult_t _ x0 _ h8) ?_
   rintro _ w ⟨A9, p10, k11, rfl, o12, hG⟩ a hk
   have hs := hs.call0k hG [2] rfl
   refine sm _ rfl hk rfl rfl rfl fun a hk => ?_
   refine sv (.agg #[.int .i64 y7.1.Code, .slice A9 y7.1.Values.length p10]) hk rfl rfl rfl fun a hk => ?_
   refine sv (.int .i64 y7.2) hk rfl rfl rfl fun a hk => ?_
   refine salx 3 hs rfl hk rfl rfl ze34 rfl fun b13 w a hk hs => ?_
   refine ssw 3 hs rfl rfl hk rfl rfl rfl rfl sz34 (by simp [Value.oneCell']) rfl fun w a hk hs => ?_
   refine sa _ rfl hk rfl rfl rfl fun a hk => ?_
   show wpList _ _ _ [] _ _
   refine wpList_nil ?_
   refine hK6 _ _ ?_
   have hs := hs.pick [(3, 3), (2, 2)] rfl
   apply wp_seq_k; intro K14 hK14
   apply wp_region_lit
   refine sm _ rfl hk rfl rfl rfl fun a hk => ?_
   obtain ⟨y15, h16, H⟩ := bind_some H
   refine sc rfl en25 hk rfl rfl rfl (impl_ReadResult_t _ x0 kT tT (hs.hasD (k := 1) rfl) _ h16) ?_
   rintro _ w ⟨A17, p18, k19, rfl, o20, hG⟩ a hk
   have hs := hs.call0k hG [4] rfl
   refine sm _ rfl hk rfl rfl rfl fun a hk => ?_
   refine sv (.agg #[.int .i64 y15.1.Code, .slice A17 y15.1.Values.length p18]) hk rfl rfl rfl fun a hk => ?_
   refine sv (.int .i64 y15.2) hk rfl rfl rfl fun a hk => ?_
   refine salx 5 hs rfl hk rfl rfl ze34 rfl fun b21 w a hk hs => ?_
   refine ssw 5 hs rfl rfl hk rfl rfl rfl rfl sz34 (by simp [Value.oneCell']) rfl fun w a hk hs => ?_
   refine sa _ rfl hk rfl rfl rfl fun a hk => ?_
   show wpList _ _ _ [] _ _
   refine wpList_nil ?_
   refine hK14 _ _ ?_
   apply wp_seq_k; intro K22 hK22
   apply wp_seq_k; intro K23 hK23
   obtain ⟨o26, h27, HL28⟩ := bind_some H
   clear H
   obtain ⟨R29, hR29⟩ : ∃ R : Act → World → Prop, R = fun a w => ∃ (u25 : Bool), u25 = o26 ∧ Kn [(0, (.string x0)), (3, (.pointer (some ⟨b13, 0, none⟩))), (4, (.int .i64 y7.2)), (5, (.pointer (some ⟨b21, 0, none⟩))), (32, (.bool u25))] 66 a ∧ Sat [] w0 w [(1, kT)] [(3, [(b13, .cells #[.int .i64 y7.1.Code, .slice A9 y7.1.Values.length p10] 34 (0, 0))]), (2, k11), (5, [(b21, .cells #[.int .i64 y15.1.Code, .slice A17 y15.1.Values.length p18] 34 (0, 0))]), (4, k19)] := ⟨_, rfl⟩
   refine wp_cutq R29 ?_ ?_
   ·have H := h27
    apply wp_region_lit
    refine sln [.int .i64 y15.1.Code, .slice A17 y15.1.Values.length p18] rfl hk rfl rfl rfl ag34 sz34 (box_cells hs (k := 5) rfl) fun a hk => ?_
    refine sln [.int .i64 y7.1.Code, .slice A9 y7.1.Values.length p10] rfl hk rfl rfl rfl ag34 sz34 (box_cells hs (k := 3) rfl) fun a hk => ?_
    obtain ⟨y30, h31, H⟩ := bind_some H
    refine sc rfl en15 hk rfl rfl rfl (laws_eqResult_t _ y15.1 A17 p18 _ o20.view (hs.hasG (k := 4) rfl) y7.1 A9 p10 _ o12.view (hs.hasG (k := 2) rfl) _ h31) ?_
    rintro _ w ⟨rfl, hG⟩ a hk
    have hs := hs.call0 hG
    refine sv (.bool (!y30)) hk rfl rfl rfl fun a hk => ?_
    refine sm _ rfl hk rfl rfl rfl fun a hk => ?_
    rcases cond_some H with ⟨c32, H⟩ | ⟨c32, H⟩
    ·have hk := hk.lit 28 c32 rfl
     refine sk hk rfl rfl rfl fun a hk => ?_
     refine sk hk rfl rfl rfl fun a hk => ?_
     refine sk hk rfl rfl rfl fun a hk => ?_
     refine sv (.bool true) hk rfl rfl rfl fun a hk => ?_
     show wpList _ _ _ [] _ _
     refine wpList_nil ?_
     obtain rfl := Option.some.inj H
     show R29 _ _
     rw [hR29]
     exact ⟨true, rfl, (hk.c 0 rfl (hk.c 3 rfl (hk.c 4 rfl (hk.c 5 rfl (hk.c 32 rfl hk.k))))), (hs.pick [(3, 3), (2, 2), (5, 5), (4, 4)] rfl)⟩
    ·have hk := hk.lit 28 c32 rfl
     refine sm _ rfl hk rfl rfl rfl fun a hk => ?_
     refine sm _ rfl hk rfl rfl rfl fun a hk => ?_
     refine sv (.bool (y15.2 != y7.2)) hk rfl rfl rfl fun a hk => ?_
     refine sv (.bool (y15.2 != y7.2)) hk rfl rfl rfl fun a hk => ?_
     show wpList _ _ _ [] _ _
     refine wpList_nil ?_
     obtain rfl := Option.some.inj H
     show R29 _ _
     rw [hR29]
     exact ⟨(y15.2 != y7.2), rfl, (hk.c 0 rfl (hk.c 3 rfl (hk.c 4 rfl (hk.c 5 rfl (hk.c 32 rfl hk.k))))), (hs.pick [(3, 3), (2, 2), (5, 5), (4, 4)] rfl)⟩
   ·intro a w hR0
    rw [hR29] at hR0
    obtain ⟨u25, rfl, hk, hs⟩ := hR0
    have H := HL28
    try dsimp only at H
    refine hK23 _ _ ?_
    rcases cond_some H with ⟨c33, H⟩ | ⟨c33, H⟩
    ·have hk := hk.lit 32 c33 rfl
     refine cnd_true hk rfl rfl ?_
     apply wp_seq_k; intro K34 hK34
     apply wp_region_lit
     refine sa _ rfl hk rfl rfl rfl fun a hk => ?_
     show wpList _ _ _ [] _ _
     refine wpList_nil ?_
     refine hK34 _ _ ?_
     refine wp_ret ?_
     obtain rfl := Option.some.inj H
     exact fin hk _ [(.bool false)] rfl ⟨rfl, trivial⟩ ⟨rfl, (hs.pick [] rfl).dnil⟩
    ·have hk := hk.lit 32 c33 rfl
     refine cnd_false hk rfl rfl ?_
     refine wp_skip ?_
     refine hK22 _ _ ?_
     apply wp_seq_k; intro K35 hK35
     apply wp_region_lit
     refine sa _ rfl hk rfl rfl rfl fun a hk => ?_
     show wpList _ _ _ [] _ _
     refine wpList_nil ?_
     refine hK35 _ _ ?_
     have hs := hs.pick [(3, 3), (2, 2), (5, 5), (4, 4)] rfl
     apply wp_seq_k; intro K36 hK36
     apply wp_region_lit
     refine sln [.int .i64 y15.1.Code, .slice A17 y15.1.Values.length p18] rfl hk rfl rfl rfl ag34 sz34 (box_cells hs (k := 5) rfl) fun a hk => ?_
     refine sm _ rfl hk rfl rfl rfl fun a hk => ?_
     obtain ⟨y37, h38, H⟩ := bind_some H
     refine sc rfl en26 hk rfl rfl rfl (laws_markResult_t _ y15.1 A17 p18 _ o20 1 ((hs.hand [(1, 4)] rfl).dpick [] rfl) _ h38) ?_
     rintro _ w ⟨k39, rfl, ⟨o40, lh41⟩, hG⟩ a hk
     have hs := hs.back [(1, 4)] rfl hG [4] rfl
     have lh42 : y37.2.length = y15.1.Values.length := lh41
     refine sa _ rfl hk rfl rfl rfl fun a hk => ?_
     show wpList _ _ _ [] _ _
     refine wpList_nil ?_
     refine hK36 _ _ ?_
     apply wp_seq_k; intro K43 hK43
     apply wp_region_lit
     refine sa _ rfl hk rfl rfl rfl fun a hk => ?_
     show wpList _ _ _ [] _ _
     refine wpList_nil ?_
     refine hK43 _ _ ?_
     apply wp_seq_k; intro K44 hK44
     apply wp_region_lit
     refine sln [.int .i64 y15.1.Code, .slice A17 y15.1.Values.length p18] rfl hk rfl rfl rfl ag34 sz34 (box_cells hs (k := 5) rfl) fun a hk => ?_
     refine sm _ rfl hk rfl rfl rfl fun a hk => ?_
     have hk := hk.re 36 (v' := (.agg #[.int .i64 y15.1.Code, .slice A17 y37.2.length p18])) rfl (by rw [lh42])
     obtain ⟨y45, h46, H⟩ := bind_some H
     refine sc rfl en27 hk rfl rfl rfl (laws_heldResult_t _ (⟨y15.1.Code, y37.2⟩ : S_Result) A17 p18 _ o40.view (hs.hasG (k := 4) rfl) 1 _ h46) ?_
     rintro _ w ⟨rfl, hG⟩ a hk
     have hs := hs.call0 hG
     refine sa _ rfl hk rfl rfl rfl fun a hk => ?_
     show wpList _ _ _ [] _ _
     refine wpList_nil ?_
     refine hK44 _ _ ?_
     apply wp_seq_k; intro K47 hK47
     apply wp_seq_k; intro K48 hK48
     apply wp_region_lit
     refine sm _ rfl hk rfl rfl rfl fun a hk => ?_
     refine sv (.bool (decide (y45 < 0))) hk rfl rfl rfl fun a hk => ?_
     show wpList _ _ _ [] _ _
     refine wpList_nil ?_
     refine hK48 _ _ ?_
     have hs := hs.pick [(3, 3), (2, 2), (5, 5), (4, 4)] rfl
     rcases cond_some H with ⟨c49, H⟩ | ⟨c49, H⟩
     ·have hk := hk.lit 40 c49 rfl
      refine cnd_true hk rfl rfl ?_
      apply wp_seq_k; intro K50 hK50
      apply wp_region_lit
      refine sa _ rfl hk rfl rfl rfl fun a hk => ?_
      show wpList _ _ _ [] _ _
      refine wpList_nil ?_
      refine hK50 _ _ ?_
      refine wp_ret ?_
      obtain rfl := Option.some.inj H
      exact fin hk _ [(.bool false)] rfl ⟨rfl, trivial⟩ ⟨rfl, (hs.pick [] rfl).dnil⟩
     ·have hk := hk.lit 40 c49 rfl
      refine cnd_false hk rfl rfl ?_
      refine wp_skip ?_
      refine hK47 _ _ ?_
      apply wp_seq_k; intro K51 hK51
      apply wp_seq_k; intro K52 hK52
      apply wp_region_lit
      refine sm _ rfl hk rfl rfl rfl fun a hk => ?_
      refine sm _ rfl hk rfl rfl rfl fun a hk => ?_
      refine sv (.bool (y45 != y37.1)) hk rfl rfl rfl fun a hk => ?_
      show wpList _ _ _ [] _ _
      refine wpList_nil ?_
      refine hK52 _ _ ?_
      rcases cond_some H with ⟨c53, H⟩ | ⟨c53, H⟩
      ·have hk := hk.lit 43 c53 rfl
       refine cnd_true hk rfl rfl ?_
       apply wp_seq_k; intro K54 hK54
       apply wp_region_lit
       refine sa _ rfl hk rfl rfl rfl fun a hk => ?_
       show wpList _ _ _ [] _ _
       refine wpList_nil ?_
       refine hK54 _ _ ?_
       refine wp_ret ?_
       obtain rfl := Option.some.inj H
       exact fin hk _ [(.bool false)] rfl ⟨rfl, trivial⟩ ⟨rfl, (hs.pick [] rfl).dnil⟩
      ·have hk := hk.lit 43 c53 rfl
       refine cnd_false hk rfl rfl ?_
       refine wp_skip ?_
       refine hK51 _ _ ?_
       apply wp_seq_k; intro K55 hK55
       apply wp_region_lit
       refine sm _ rfl hk rfl rfl rfl fun a hk => ?_
       obtain ⟨y56, h57, H⟩ := bind_some H
       refine sc rfl en25 hk rfl rfl rfl (impl_ReadResult_t _ x0 kT tT (hs.hasD (k := 1) rfl) _ h57) ?_
       rintro _ w ⟨A58, p59, k60, rfl, o61, hG⟩ a hk
       have hs := hs.call0k hG [7] rfl
       refine sm _ rfl hk rfl rfl rfl fun a hk => ?_
       refine sv (.agg #[.int .i64 y56.1.Code, .slice A58 y56.1.Values.length p59]) hk rfl rfl rfl fun a hk => ?_
       refine sv (.int .i64 y56.2) hk rfl rfl rfl fun a hk => ?_
       refine salx 8 hs rfl hk rfl rfl ze34 rfl fun b62 w a hk hs => ?_
       refine ssw 8 hs rfl rfl hk rfl rfl rfl rfl sz34 (by simp [Value.oneCell']) rfl fun w a hk hs => ?_
       refine sa _ rfl hk rfl rfl rfl fun a hk => ?_
       show wpList _ _ _ [] _ _
       refine wpList_nil ?_
       refine hK55 _ _ ?_
       have hs := hs.pick [(3, 3), (2, 2), (5, 5), (4, 4), (8, 8), (7, 7)] rfl
       apply wp_seq_k; intro K63 hK63
       apply wp_seq_k; intro K64 hK64
       obtain ⟨o67, h68, HL69⟩ := bind_some H
       clear H
       obtain ⟨R70, hR70⟩ : ∃ R : Act → World → Prop, R = fun a w => ∃ (u66 : Bool), u66 = o67 ∧ Kn [(5, (.pointer (some ⟨b21, 0, none⟩))), (7, (.int .i64 y37.1)), (57, (.bool u66))] 66 a ∧ Sat [] w0 w [(1, kT)] [(5, [(b21, .cells #[.int .i64 y15.1.Code, .slice A17 y15.1.Values.length p18] 34 (0, 0))]), (4, k39)] := ⟨_, rfl⟩
       refine wp_cutq R70 ?_ ?_
       ·have H := h68
        apply wp_region_lit
        refine sln [.int .i64 y56.1.Code, .slice A58 y56.1.Values.length p59] rfl hk rfl rfl rfl ag34 sz34 (box_cells hs (k := 8) rfl) fun a hk => ?_
        refine sln [.int .i64 y7.1.Code, .slice A9 y7.1.Values.length p10] rfl hk rfl rfl rfl ag34 sz34 (box_cells hs (k := 3) rfl) fun a hk => ?_
        obtain ⟨y71, h72, H⟩ := bind_some H
        refine sc rfl en15 hk rfl rfl rfl (laws_eqResult_t _ y56.1 A58 p59 _ o61.view (hs.hasG (k := 7) rfl) y7.1 A9 p10 _ o12.view (hs.hasG (k := 2) rfl) _ h72) ?_
        rintro _ w ⟨rfl, hG⟩ a hk
        have hs := hs.call0 hG
        refine sv (.bool (!y71)) hk rfl rfl rfl fun a hk => ?_
        refine sm _ rfl hk rfl rfl rfl fun a hk => ?_
        rcases cond_some H with ⟨c73, H⟩ | ⟨c73, H⟩
        ·have hk := hk.lit 53 c73 rfl
         refine sk hk rfl rfl rfl fun a hk => ?_
         refine sk hk rfl rfl rfl fun a hk => ?_
         refine sk hk rfl rfl rfl fun a hk => ?_
         refine sv (.bool true) hk rfl rfl rfl fun a hk => ?_
         show wpList _ _ _ [] _ _
         refine wpList_nil ?_
         obtain rfl := Option.some.inj H
         show R70 _ _
         rw [hR70]
         exact ⟨true, rfl, (hk.c 5 rfl (hk.c 7 rfl (hk.c 57 rfl hk.k))), (hs.pick [(5, 5), (4, 4)] rfl)⟩
        ·have hk := hk.lit 53 c73 rfl
         refine sm _ rfl hk rfl rfl rfl fun a hk => ?_
         refine sm _ rfl hk rfl rfl rfl fun a hk => ?_
         refine sv (.bool (y56.2 != y7.2)) hk rfl rfl rfl fun a hk => ?_
         refine sv (.bool (y56.2 != y7.2)) hk rfl rfl rfl fun a hk => ?_
         show wpList _ _ _ [] _ _
         refine wpList_nil ?_
         obtain rfl := Option.some.inj H
         show R70 _ _
         rw [hR70]
         exact ⟨(y56.2 != y7.2), rfl, (hk.c 5 rfl (hk.c 7 rfl (hk.c 57 rfl hk.k))), (hs.pick [(5, 5), (4, 4)] rfl)⟩
       ·intro a w hR0
        rw [hR70] at hR0
        obtain ⟨u66, rfl, hk, hs⟩ := hR0
        have H := HL69
        try dsimp only at H
        refine hK64 _ _ ?_
        rcases cond_some H with ⟨c74, H⟩ | ⟨c74, H⟩
        ·have hk := hk.lit 57 c74 rfl
         refine cnd_true hk rfl rfl ?_
         apply wp_seq_k; intro K75 hK75
         apply wp_region_lit
         refine sa _ rfl hk rfl rfl rfl fun a hk => ?_
         show wpList _ _ _ [] _ _
         refine wpList_nil ?_
         refine hK75 _ _ ?_
         refine wp_ret ?_
         obtain rfl := Option.some.inj H
         exact fin hk _ [(.bool false)] rfl ⟨rfl, trivial⟩ ⟨rfl, (hs.pick [] rfl).dnil⟩
        ·have hk := hk.lit 57 c74 rfl
         refine cnd_false hk rfl rfl ?_
         refine wp_skip ?_
         refine hK63 _ _ ?_
         apply wp_seq_k; intro K76 hK76
         apply wp_region_lit
         refine sa _ rfl hk rfl rfl rfl fun a hk => ?_
         show wpList _ _ _ [] _ _
         refine wpList_nil ?_
         refine hK76 _ _ ?_
         apply wp_seq_k; intro K77 hK77
         apply wp_region_lit
         refine sln [.int .i64 y15.1.Code, .slice A17 y15.1.Values.length p18] rfl hk rfl rfl rfl ag34 sz34 (box_cells hs (k := 5) rfl) fun a hk => ?_
         refine sm _ rfl hk rfl rfl rfl fun a hk => ?_
         have hk := hk.re 58 (v' := (.agg #[.int .i64 y15.1.Code, .slice A17 y37.2.length p18])) rfl (by rw [lh42])
         obtain ⟨y78, h79, H⟩ := bind_some H
         refine sc rfl en27 hk rfl rfl rfl (laws_heldResult_t _ (⟨y15.1.Code, y37.2⟩ : S_Result) A17 p18 _ o40.view (hs.hasG (k := 4) rfl) 1 _ h79) ?_
         rintro _ w ⟨rfl, hG⟩ a hk
         have hs := hs.call0 hG
         refine sa _ rfl hk rfl rfl rfl fun a hk => ?_
         show wpList _ _ _ [] _ _
         refine wpList_nil ?_
         refine hK77 _ _ ?_
         have hs := hs.pick [] rfl
         apply wp_seq_k; intro K80 hK80
         apply wp_seq_k; intro K81 hK81
         apply wp_region_lit
         refine sm _ rfl hk rfl rfl rfl fun a hk => ?_
         refine sv (.bool (decide (y78 < 0))) hk rfl rfl rfl fun a hk => ?_
         show wpList _ _ _ [] _ _
         refine wpList_nil ?_
         refine hK81 _ _ ?_
         rcases cond_some H with ⟨c82, H⟩ | ⟨c82, H⟩
         ·have hk := hk.lit 62 c82 rfl
          refine cnd_true hk rfl rfl ?_
          apply wp_seq_k; intro K83 hK83
          apply wp_region_lit
          refine sa _ rfl hk rfl rfl rfl fun a hk => ?_
          show wpList _ _ _ [] _ _
          refine wpList_nil ?_
          refine hK83 _ _ ?_
          refine wp_ret ?_
          obtain rfl := Option.some.inj H
          exact fin hk _ [(.bool false)] rfl ⟨rfl, trivial⟩ ⟨rfl, (hs.pick [] rfl).dnil⟩
         ·have hk := hk.lit 62 c82 rfl
          refine cnd_false hk rfl rfl ?_
          refine wp_skip ?_
          refine hK80 _ _ ?_
          apply wp_seq_k; intro K84 hK84
          apply wp_seq_k; intro K85 hK85
          apply wp_region_lit
          refine sm _ rfl hk rfl rfl rfl fun a hk => ?_
          refine sm _ rfl hk rfl rfl rfl fun a hk => ?_
          refine sv (.bool (y78 != y37.1)) hk rfl rfl rfl fun a hk => ?_
          show wpList _ _ _ [] _ _
          refine wpList_nil ?_
          refine hK85 _ _ ?_
          rcases cond_some H with ⟨c86, H⟩ | ⟨c86, H⟩
          ·have hk := hk.lit 65 c86 rfl
           refine cnd_true hk rfl rfl ?_
           apply wp_seq_k; intro K87 hK87
           apply wp_region_lit
           refine sa _ rfl hk rfl rfl rfl fun a hk => ?_
           show wpList _ _ _ [] _ _
           refine wpList_nil ?_
           refine hK87 _ _ ?_
           have hs := hs.pick [] rfl
           refine wp_ret ?_
           obtain rfl := Option.some.inj H
           exact fin hk _ [(.bool false)] rfl ⟨rfl, trivial⟩ ⟨rfl, (hs.pick [] rfl).dnil⟩
          ·have hk := hk.lit 65 c86 rfl
           refine cnd_false hk rfl rfl ?_
           refine wp_skip ?_
           refine hK84 _ _ ?_
           have hs := hs.pick [] rfl
           apply wp_seq_k; intro K88 hK88
           apply wp_region_lit
           refine sa _ rfl hk rfl rfl rfl fun a hk => ?_
           show wpList _ _ _ [] _ _
           refine wpList_nil ?_
           refine hK88 _ _ ?_
           refine wp_ret ?_
           obtain rfl := Option.some.inj H
           exact fin hk _ [(.bool true)] rfl ⟨rfl, trivial⟩ ⟨rfl, (hs.pick [] rfl).dnil⟩

end Go.Proofs.YtfjhdkmdidadiaaDoor
